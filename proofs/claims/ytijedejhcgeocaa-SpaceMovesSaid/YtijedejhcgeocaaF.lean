/-
  Texts of this seat: lemmas on the way to the statement.
-/
import Derived.Test.YtijedejhcgeocaaE
import Derived.Test.YtijedejhcgeocaaD
import Derived.KernelRfl
set_option linter.unusedVariables false
set_option linter.unusedSimpArgs false
namespace Go.Ab
open Go
set_option maxRecDepth 10000
set_option maxHeartbeats 4000000
variable {K:HCalls}
theorem ylK{st:HSt}{k:Nat}:∀{vs:List PV},(∀v∈vs,v.free=true)->allO (rdV st k) (vs.map HV.p)=some vs
 | [],_=>rfl
 | v::vs,h=>by
   have e1:rdV st k (.p v)=some v:=by
    have:=h v (by simp)
    cases k <;> simp[rdV,this]
   have e2:=ylK (st:=st) (k:=k) (vs:=vs) fun w hw=>h w (Cs _ hw)
   simp only[Bu,allO,e1,e2]
theorem yhc{st:HSt}{b n sz m:Nat}{vs:List PV}(h:st[b]? = some (.row sz m (vs.map HV.p)))(hl:vs.length=n*sz)(hf:∀v∈vs,v.free=true):rdH st (.row b 0 n sz)=some (.sl n vs):=by
 have e:((vs.map HV.p).drop 0).take (n*sz)=vs.map HV.p:=by rw[A5,Aw (by rw[Bh,hl];omega)]
 have e2:0+n*sz<=(vs.map HV.p).length:=by rw[Bh,hl];omega
 simp only[rdH,rdV,h,e,e2,and_self,if_true,ylK hf,An]
theorem KPu.lent(B:KPu K){f:Nat}(hf:lp.contains f=true){ws:List HV}{vs:List PV}{v:PV}{outs:List PV}{st:HSt}(hr:rdL st ws=some vs)(hn:allP ws=Option.none)(h:evI T f vs=some (v,outs))(hx:v.flat=true)(n:Nat):
 evHF C0 K TH (n+1) f ws st=some (.p v,st):=by
 have e:K f ws st=some (.p v,st):=by
  rw[B.pu f hf]
  have hc:pureC T lp f vs=some (v,outs):=by unfold pureC;rw[if_pos hf,h]
  unfold KP orK pureK lentC
  simp only[hn,hr,hc,hx,if_true]
 rw[yg1,e,yby]
theorem k82(B:KPu K){st:HSt}{ah:HV}{ars:List Area}(hA:AreasAt st ah ars)(hl:ars.length<1000)(p:Int)(n:Nat):evHF C0 K TH (n+1) 82 [ah,hI p] st=some (.p (.bool (inAny ars p)),st):=by
 have e:=yg7 ars p _ (ylE ars (by omega) p)
 rcases hA with rfl|⟨b,rfl,hb⟩
 ·exact B.known (f:=82) rfl (ws:=[.sl ars.length (ars.flatMap cArea),.int .i64 p]) rfl e rfl rfl rfl n st
 ·refine B.lent (f:=82) rfl (vs:=[.sl ars.length (ars.flatMap cArea),.int .i64 p]) ?_ rfl e rfl n
  simp only[rdL,yhc hb (yam yc1 ars) (yd9 ars)]
  rfl
theorem k19(B:KPu K){st:HSt}{base:Nat}{h:HV}{xs:List Int}(R:RowI base st h xs)(hl:xs.length<100000)(p:Int)(n:Nat):evHF C0 K TH (n+1) 19 [h,hI p] st=some (.p (.bool (xs.contains p)),st):=by
 have e:=ygx xs p _ (ynp xs (by omega) p)
 rcases R with⟨rfl,rfl⟩|⟨b,hne,hb,rfl,hst⟩
 ·exact B.known (f:=19) rfl (ws:=[.nils,.int .i64 p]) rfl e rfl rfl rfl n st
 ·rw[yes] at hst
  refine B.lent (f:=19) rfl (vs:=[.sl xs.length (xs.flatMap (cint .i64)),.int .i64 p]) ?_ rfl e rfl n
  simp only[rdL,yhc hst (ybG xs) (ycc xs)]
  rfl
theorem RowI.same{base n:Nat}{st st':HSt}{h:HV}{xs:List Int}(R:RowI base st h xs)(hs:∀i,i<n->st'[i]? = st[i]?)(hb:∀b,h = .row b 0 xs.length 1->b<n):RowI base st' h xs:=by
 rcases R with⟨h1,h2⟩|⟨b,hne,hb',rfl,hst⟩
 ·exact .inl ⟨h1,h2⟩
 ·exact .inr ⟨b,hne,hb',rfl,by rw[hs b (hb b rfl)];exact hst⟩
theorem RowI.app{base:Nat}{st:HSt}{h:HV}{xs:List Int}(R:RowI base st h xs)(g:HSt):RowI base (st++g) h xs:=by
 rcases R with h1|⟨b,hne,hb',rfl,hst⟩
 ·exact .inl h1
 ·exact .inr ⟨b,hne,hb',rfl,by rw[Aj (Ad.1 hst).1];exact hst⟩
def env83(L:List r26_Object)(ah:HV)(k:Nat)(h:HV)(i:Nat):HEnv:=[(0,hL L),(1,ah),(9,hI k),(10,h),(11,hI i)]
theorem ypy(B:KPu K){st:HSt}{base:Nat}(hbase:base<=st.length){L:List r26_Object}(hL':L.length<100000){ah:HV}{ars:List Area}(hA:AreasAt st ah ars)(has:ars.length<1000){k:Nat}{o:r26_Object}(ho:L[k]? = some o)(hsh:OkSh o.Shape)(hsl:o.Slots.length<1000){i:Nat}{v:Int}(hv:o.Slots[i]? = some v)
 {h:HV}{xs:List Int}(R:RowI base st h xs)(hxs:xs.length<90000):
 ∃st1 h1,Run C0 K TH h83l0 (env83 L ah k h i,st) .norm (env83 L ah k h1 (i+1),st1)/\RowI base st1 h1 (if ptB o.Shape i then mt ars xs v else xs)/\Same base st st1:=by
 have hkl:k<L.length:=(Ad.1 ho).1
 have hkl':(k:Int)<L.length:=by omega
 have hil:i<o.Slots.length:=(Ad.1 hv).1
 have hil':(i:Int)<o.Slots.length:=by omega
 have c1:((L.flatMap cr26_Object).drop (k*4)).take 4=[.int .i64 o.At,.int .i64 o.Shape.Slots,.int .i64 o.Shape.Mask,.sl o.Slots.length (o.Slots.flatMap (cint .i64))]:=yF yH L k o ho
 have c2:=yba hv
 have w:=wrN (i:=i) (by omega)
 have e23:=fun n st=>k23 B hsh (i:Int) n st
 have e82:=fun n=>k82 B hA has v n
 have e19:=fun n=>k19 B R (by omega) v n
 generalize ptB o.Shape i=b1 at *
 have hnon:b1=false\/inAny ars v=false\/xs.contains v=true->(if b1 then mt ars xs v else xs)=xs:=fun hh=>by
  unfold mt
  rcases hh with rfl|h2|h2
  ·rfl
  ·rw[h2];cases b1<;>rfl
  ·rw[h2];cases b1 <;> simp
 by_cases hc:b1=false\/inAny ars v=false\/xs.contains v=true
 ·rw[hnon hc]
  refine⟨st,h,?_,R,Same.refl _ _⟩
  have sh:=hA.sh
  rcases R with⟨rfl,rfl⟩|⟨b,hne,hb,rfl,hst⟩
  ·rcases sh with⟨n,cs,rfl⟩|⟨b,o,n,z,rfl⟩
   ·refine Run.of 60 ?_
    rcases hc with rfl|h2|h2
    ·simp (config:={ maxSteps:=4000000 }) [↓yg,↓yc,yl,h83l0,env83,hkl,hkl',hil,hil',c1,c2,w,e23,e82,e19]
    ·cases b1 <;> simp (config:={ maxSteps:=4000000 }) [↓yg,↓yc,yl,h83l0,env83,hkl,hkl',hil,hil',c1,c2,w,e23,e82,e19,h2]
    ·simp at h2
   ·refine Run.of 60 ?_
    rcases hc with rfl|h2|h2
    ·simp (config:={ maxSteps:=4000000 }) [↓yg,↓yc,yl,h83l0,env83,hkl,hkl',hil,hil',c1,c2,w,e23,e82,e19]
    ·cases b1 <;> simp (config:={ maxSteps:=4000000 }) [↓yg,↓yc,yl,h83l0,env83,hkl,hkl',hil,hil',c1,c2,w,e23,e82,e19,h2]
    ·simp at h2
  ·obtain⟨ct,hct⟩:∃ct,xs.contains v=ct:=⟨_,rfl⟩
   rw[hct] at hc e19
   rcases sh with⟨n,cs,rfl⟩|⟨b,o,n,z,rfl⟩
   ·refine Run.of 60 ?_
    rcases hc with rfl|h2|rfl
    ·simp (config:={ maxSteps:=4000000 }) [↓yg,↓yc,yl,h83l0,env83,hkl,hkl',hil,hil',c1,c2,w,e23,e82,e19]
    ·cases b1 <;> simp (config:={ maxSteps:=4000000 }) [↓yg,↓yc,yl,h83l0,env83,hkl,hkl',hil,hil',c1,c2,w,e23,e82,e19,h2]
    ·cases b1 <;> cases hb2:inAny ars v <;> simp (config:={ maxSteps:=4000000 }) [↓yg,↓yc,yl,h83l0,env83,hkl,hkl',hil,hil',c1,c2,w,e23,e82,e19,hb2]
   ·refine Run.of 60 ?_
    rcases hc with rfl|h2|rfl
    ·simp (config:={ maxSteps:=4000000 }) [↓yg,↓yc,yl,h83l0,env83,hkl,hkl',hil,hil',c1,c2,w,e23,e82,e19]
    ·cases b1 <;> simp (config:={ maxSteps:=4000000 }) [↓yg,↓yc,yl,h83l0,env83,hkl,hkl',hil,hil',c1,c2,w,e23,e82,e19,h2]
    ·cases b1 <;> cases hb2:inAny ars v <;> simp (config:={ maxSteps:=4000000 }) [↓yg,↓yc,yl,h83l0,env83,hkl,hkl',hil,hil',c1,c2,w,e23,e82,e19,hb2]
 ·have hb1:b1=true:=by cases b1 <;> simp at hc ⊢
  have hb2:inAny ars v=true:=by cases e:inAny ars v <;> simp[e] at hc ⊢
  have hb3:xs.contains v=false:=by cases e:xs.contains v <;> simp only[e,or_true,not_true_eq_false] at hc ⊢
  subst hb1
  have hm:(if true=true then mt ars xs v else xs)=xs++[v]:=by simp only[mt,hb2,hb3,Bool.not_false,Bool.and_self,if_true]
  rw[hm]
  rw[hb3] at e19
  have sh:=hA.sh
  rcases R with⟨rfl,rfl⟩|⟨b,hne,hb,rfl,hst⟩
  ·rcases sh with⟨n,cs,rfl⟩|⟨b',o',n,z,rfl⟩
   ·apply Exists.intro
    apply Exists.intro
    refine⟨Run.of 60 ?_,?_,?_⟩
    ·simp (config:={ maxSteps:=4000000 }) [↓yg,↓yc,yl,h83l0,env83,hkl,hkl',hil,hil',c1,c2,w,e23,e82,e19,hb2]
     all_goals exact⟨rfl,rfl⟩
    ·exact .inr ⟨_,by simp,by omega,rfl,by rw[ym];rfl⟩
    ·exact Same.app hbase _
   ·apply Exists.intro
    apply Exists.intro
    refine⟨Run.of 60 ?_,?_,?_⟩
    ·simp (config:={ maxSteps:=4000000 }) [↓yg,↓yc,yl,h83l0,env83,hkl,hkl',hil,hil',c1,c2,w,e23,e82,e19,hb2]
     all_goals exact⟨rfl,rfl⟩
    ·exact .inr ⟨_,by simp,by omega,rfl,by rw[ym];rfl⟩
    ·exact Same.app hbase _
  ·have hbl:b<st.length:=(Ad.1 hst).1
   have hx0:0<xs.length:=Cf.2 hne
   obtain⟨m,hm⟩:∃m,xs.length=m:=⟨_,rfl⟩
   have f4:∀g:HSt,(st++g)[b]? = some (.row 1 xs.length (xs.map fun n=>.p (.int .i64 n))):=fun g=>by rw[Aj hbl];exact hst
   have d1:(m+1)*8<=1099511627776:=by omega
   have d2:m+1<=1099511627776:=by omega
   have d3:(xs.map fun n=>HV.p (.int .i64 n)).take m=xs.map fun n=>HV.p (.int .i64 n):=Aw (by simp;omega)
   have f5:∀(g:HSt) (x:HB),(st++g).set b x=st.set b x++g:=fun g x=>A6 _ _ hbl
   rw[hm] at f4
   simp only[hm] at e19 ⊢
   rcases sh with⟨n,cs,rfl⟩|⟨b',o',n,z,rfl⟩
   ·apply Exists.intro
    apply Exists.intro
    refine⟨Run.of 60 ?_,?_,?_⟩
    ·simp (config:={ maxSteps:=4000000 }) [↓yg,↓yc,yl,h83l0,env83,hkl,hkl',hil,hil',c1,c2,w,e23,e82,e19,hb2,f4,f5,d1,d2,d3,hm]
     all_goals exact⟨rfl,rfl⟩
    ·refine .inr ⟨_,by simp,?_,by simp[hm];rfl,?_⟩
     rotate_left
     ·simp[hm]
     ·omega
    ·exact Same.setapp hbase hb _ _
   ·apply Exists.intro
    apply Exists.intro
    refine⟨Run.of 60 ?_,?_,?_⟩
    ·simp (config:={ maxSteps:=4000000 }) [↓yg,↓yc,yl,h83l0,env83,hkl,hkl',hil,hil',c1,c2,w,e23,e82,e19,hb2,f4,f5,d1,d2,d3,hm]
     all_goals exact⟨rfl,rfl⟩
    ·refine .inr ⟨_,by simp,?_,by simp[hm];rfl,?_⟩
     rotate_left
     ·simp[hm]
     ·omega
    ·exact Same.setapp hbase hb _ _
open Go
set_option maxRecDepth 10000
set_option maxHeartbeats 4000000
variable {K:HCalls}
theorem AreasAt.same{n:Nat}{st st':HSt}{ah:HV}{ars:List Area}(h:AreasAt st ah ars)(hs:Same n st st')(hb:∀b,ah = .row b 0 ars.length 3->b<n):AreasAt st' ah ars:=by
 rcases h with h|⟨b,h1,h2⟩
 ·exact .inl h
 ·exact .inr ⟨b,h1,hs.some (hb b h1) h2⟩
theorem RowI.sh{base:Nat}{st:HSt}{h:HV}{xs:List Int}(R:RowI base st h xs):h = .p .nils\/∃b n,h = .row b 0 n 1:=by
 rcases R with⟨_,h⟩|⟨b,_,_,h,_⟩
 ·exact .inl h
 ·exact .inr ⟨_,_,h⟩
theorem ypz{st:HSt}{L:List r26_Object}{ah:HV}{k:Nat}{o:r26_Object}(ho:L[k]? = some o){i:Nat}(hi:¬i<o.Slots.length){base:Nat}{h:HV}{xs:List Int}(R:RowI base st h xs):
 Run C0 K TH h83l0 (env83 L ah k h i,st) (.exit 0) ([(10,h)],st):=by
 have hkl:k<L.length:=(Ad.1 ho).1
 have hkl':(k:Int)<L.length:=by omega
 have hi':¬(i:Int)<o.Slots.length:=by omega
 have c1:((L.flatMap cr26_Object).drop (k*4)).take 4=[.int .i64 o.At,.int .i64 o.Shape.Slots,.int .i64 o.Shape.Mask,.sl o.Slots.length (o.Slots.flatMap (cint .i64))]:=yF yH L k o ho
 refine Run.of 60 ?_
 rcases R.sh with rfl|⟨b,q,rfl⟩ <;> simp (config:={ maxSteps:=4000000 }) [↓yg,↓yc,yl,h83l0,env83,hkl,hkl',hi,hi',c1]
theorem yqz(ars:List Area)(xs:List Int)(v:Int):(mt ars xs v).length<=xs.length+1:=by unfold mt;split <;> simp
theorem ynt(B:KPu K){base:Nat}{L:List r26_Object}(hL':L.length<100000){ah:HV}{ars:List Area}(hab:∀b,ah = .row b 0 ars.length 3->b<base)(has:ars.length<1000){k:Nat}{o:r26_Object}(ho:L[k]? = some o)(hsh:OkSh o.Shape)(hsl:o.Slots.length<1000):∀(m i:Nat) (st:HSt) (h:HV) (xs:List Int),o.Slots.length-i=m->i<=o.Slots.length->base<=st.length->AreasAt st ah ars->RowI base st h xs->xs.length+m<90000 ->
 ∃st1 h1,Run C0 K TH (.loop h83l0 [0,1,9,10,11]) (env83 L ah k h i,st) (.exit 0) ([(10,h1)],st1)/\RowI base st1 h1 (mtL ars xs (ptrsL o.Shape i (o.Slots.drop i)))/\Same base st st1
 | 0,i,st,h,xs,hm,hi,hb,hA,R,hx=>by
   refine⟨st,h,Run.loopX (ypz ho (by omega) R) (by simp),?_,Same.refl _ _⟩
   rw[List.drop_of_length_le (by omega)];exact R
 | m+1,i,st,h,xs,hm,hi,hb,hA,R,hx=>by
   have hil:i<o.Slots.length:=by omega
   obtain⟨st1,h1,r1,R1,S1⟩:=ypy B hb hL' hA has ho hsh hsl (i:=i) (v:=o.Slots[i]) (Bd hil) R (by omega)
   have hxl:(if ptB o.Shape i then mt ars xs o.Slots[i] else xs).length<=xs.length+1:=by
    split
    ·exact yqz _ _ _
    ·omega
   obtain⟨st2,h2,r2,R2,S2⟩:=ynt B hL' hab has ho hsh hsl m (i+1) st1 h1 _ (by omega) (by omega) (B5 hb S1.len) (hA.same S1 hab) R1 (by omega)
   refine⟨st2,h2,Run.loopN r1 ?_,?_,S1.trans S2⟩
   ·have:(env83 L ah k h1 (i+1)).keep [0,1,9,10,11]=env83 L ah k h1 (i+1):=by simp[env83,HEnv.keep]
    rw[this];exact r2
   ·rw[A8 hil]
    simp only[ptrsL]
    split at R2<;>rename_i hp <;> simp only[hp,if_true,if_false,Al] at * <;> exact R2
theorem e83(B:KPu K)(hk:∀ws st,K 83 ws st = .none){base:Nat}{L:List r26_Object}(hap:(L.map keyOf).Pairwise Apart)(hok:∀o∈L,OkSh o.Shape/\o.Slots.length<1000)(hL':L.length<80000){st:HSt}(hb:base<=st.length){ah:HV}{ars:List Area}(hA:AreasAt st ah ars)(hab:∀b,ah = .row b 0 ars.length 3->b<base)(has:ars.length<1000)(p:Int){h:HV}{xs:List Int}(R:RowI base st h xs)(hx:xs.length<80000):
 ∃st1 h1 n0,(∀n,n0<=n->evHF C0 K TH n 83 [hL L,ah,hI p,h] st=some (h1,st1))/\RowI base st1 h1 (mtL ars xs (ptrsAt L p))/\Same base st st1:=by
 have hsh:=R.sh
 rcases ycV hap (by omega) p with⟨k,o,hf,ho,hoa,hat⟩|⟨hf,hoa⟩
 ·have hom:=Bf ho
  obtain⟨o1,o2⟩:=hok o hom
  obtain⟨st1,h1,r1,R1,S1⟩:=ynt B (by omega) hab has ho o1 o2 o.Slots.length 0 st h xs (by omega) (by omega) hb hA R (by omega)
  obtain⟨n0,hn0⟩:=Run.all r1
  have z0:((0:Nat):Int)=0:=rfl
  simp only[env83,hI,z0] at hn0
  have e21:=fun n st=>k21 B hf n st
  have hk0:¬(k:Int)<0:=by omega
  refine⟨st1,h1,n0+60,fun n hn=>yz hn _ _ _ _ (yD (n:=n0+59) hk (x:=h83) rfl rfl ?_),?_,S1⟩
  ·have hsh1:=R1.sh
   rcases hsh with rfl|⟨b,q,rfl⟩ <;> rcases hsh1 with rfl|⟨b1,q1,rfl⟩ <;> simp (config:={ maxSteps:=4000000 }) [↓yg,↓yc,yl,h83,hn0,e21,hk0]
  ·unfold ptrsAt;rw[hoa];simpa[ptrs] using R1
 ·have e21:=fun n st=>k21 B hf n st
  refine⟨st,h,60,fun n hn=>yz hn _ _ _ _ (yD (n:=59) hk (x:=h83) rfl rfl ?_),?_,Same.refl _ _⟩
  ·rcases hsh with rfl|⟨b,q,rfl⟩ <;> simp (config:={ maxSteps:=4000000 }) [↓yg,↓yc,yl,h83,e21]
  ·unfold ptrsAt;rw[hoa];exact R
def IntsAt(st:HSt)(h:HV)(l:List Int):Prop:=(h = .p .nils/\l=[])\/h=hN l\/∃b,h = .row b 0 l.length 1/\st[b]? = some (.row 1 l.length (l.map fun n=>.p (.int .i64 n)))
theorem IntsAt.same{n:Nat}{st st':HSt}{h:HV}{l:List Int}(H:IntsAt st h l)(hs:Same n st st')(hb:∀b,h = .row b 0 l.length 1->b<n):IntsAt st' h l:=by
 rcases H with h1|h1|⟨b,h1,h2⟩
 ·exact .inl h1
 ·exact .inr (.inl h1)
 ·exact .inr (.inr ⟨b,h1,hs.some (hb b h1) h2⟩)
def env28a(L:List r26_Object)(ah:HV)(rs:List Int)(al h:HV)(i:Nat):HEnv:=[(0,hL L),(1,ah),(2,hN rs),(3,al),(9,h),(10,hI i)]
def env28b(L:List r26_Object)(ah:HV)(al h:HV)(i:Nat):HEnv:=[(0,hL L),(1,ah),(3,al),(9,h),(11,hI i)]
def env28c(L:List r26_Object)(ah:HV)(h:HV)(i:Nat):HEnv:=[(0,hL L),(1,ah),(9,h),(12,hI i)]
theorem yoi(B:KPu K){st:HSt}{base:Nat}(hbase:base<=st.length){L:List r26_Object}{ah:HV}{ars:List Area}(hA:AreasAt st ah ars)(has:ars.length<1000){rs:List Int}(al:HV){i:Nat}{v:Int}(hv:rs[i]? = some v)(hrs:rs.length<80000){h:HV}{xs:List Int}(R:RowI base st h xs)(hxs:xs.length<90000):
 ∃st1 h1,Run C0 K TH h28l0 (env28a L ah rs al h i,st) .norm (env28a L ah rs al h1 (i+1),st1)/\RowI base st1 h1 (mt ars xs v)/\Same base st st1:=by
 have hil:i<rs.length:=(Ad.1 hv).1
 have hil':(i:Int)<rs.length:=by omega
 have c2:=yba hv
 have w:=wrN (i:=i) (by omega)
 have e82:=fun n=>k82 B hA has v n
 have e19:=fun n=>k19 B R (by omega) v n
 have sh:=hA.sh
 by_cases hc:inAny ars v=false\/xs.contains v=true
 ·have hm:mt ars xs v=xs:=by
   unfold mt
   rcases hc with h2|h2 <;> rw[h2] <;> simp
  rw[hm]
  refine⟨st,h,?_,R,Same.refl _ _⟩
  obtain⟨ct,hct⟩:∃ct,xs.contains v=ct:=⟨_,rfl⟩
  rw[hct] at hc e19
  obtain⟨b2,hb2⟩:∃b2,inAny ars v=b2:=⟨_,rfl⟩
  rw[hb2] at hc e82
  rcases R.sh with rfl|⟨b,q,rfl⟩ <;> rcases sh with⟨n,cs,rfl⟩|⟨b',o',n',z',rfl⟩
  all_goals
   refine Run.of 60 ?_
   rcases hc with rfl|rfl
   ·simp (config:={ maxSteps:=4000000 }) [↓yg,↓yc,yl,h28l0,env28a,hil,hil',c2,w,e82,e19]
   ·cases b2 <;> simp (config:={ maxSteps:=4000000 }) [↓yg,↓yc,yl,h28l0,env28a,hil,hil',c2,w,e82,e19]
 ·have hb2:inAny ars v=true:=by cases e:inAny ars v <;> simp[e] at hc ⊢
  have hb3:xs.contains v=false:=by cases e:xs.contains v <;> simp only[e,or_true,not_true_eq_false] at hc ⊢
  have hm:mt ars xs v=xs++[v]:=by simp only[mt,hb2,hb3,Bool.not_false,Bool.and_self,if_true]
  rw[hm]
  rw[hb3] at e19
  rw[hb2] at e82
  rcases R with⟨rfl,rfl⟩|⟨b,hne,hb,rfl,hst⟩
  ·rcases sh with⟨n,cs,rfl⟩|⟨b',o',n,z,rfl⟩
   all_goals
    apply Exists.intro
    apply Exists.intro
    refine⟨Run.of 60 ?_,?_,?_⟩
    ·simp (config:={ maxSteps:=4000000 }) [↓yg,↓yc,yl,h28l0,env28a,hil,hil',c2,w,e82,e19]
     all_goals exact⟨rfl,rfl⟩
    ·exact .inr ⟨_,by simp,by omega,rfl,by rw[ym];rfl⟩
    ·exact Same.app hbase _
  ·have hbl:b<st.length:=(Ad.1 hst).1
   have hx0:0<xs.length:=Cf.2 hne
   obtain⟨m,hm⟩:∃m,xs.length=m:=⟨_,rfl⟩
   have f4:∀g:HSt,(st++g)[b]? = some (.row 1 xs.length (xs.map fun n=>.p (.int .i64 n))):=fun g=>by rw[Aj hbl];exact hst
   have d1:(m+1)*8<=1099511627776:=by omega
   have d2:m+1<=1099511627776:=by omega
   have d3:(xs.map fun n=>HV.p (.int .i64 n)).take m=xs.map fun n=>HV.p (.int .i64 n):=Aw (by simp;omega)
   have f5:∀(g:HSt) (x:HB),(st++g).set b x=st.set b x++g:=fun g x=>A6 _ _ hbl
   rw[hm] at f4
   simp only[hm] at e19 ⊢
   rcases sh with⟨n,cs,rfl⟩|⟨b',o',n,z,rfl⟩
   all_goals
    apply Exists.intro
    apply Exists.intro
    refine⟨Run.of 60 ?_,?_,?_⟩
    ·simp (config:={ maxSteps:=4000000 }) [↓yg,↓yc,yl,h28l0,env28a,hil,hil',c2,w,e82,e19,f4,f5,d1,d2,d3,hm]
     all_goals exact⟨rfl,rfl⟩
    ·refine .inr ⟨_,by simp,?_,by simp[hm];rfl,?_⟩
     rotate_left
     ·simp[hm]
     ·omega
    ·exact Same.setapp hbase hb _ _
open Go
set_option maxRecDepth 10000
set_option maxHeartbeats 4000000
variable {K:HCalls}
theorem yx{A g:HSt}{i:Nat}(h:i<A.length):(A++g)[i]? = A[i]?:=Aj h
theorem yA{A g:HSt}{i:Nat}{x:HB}(h:i<A.length):(A++g).set i x=A.set i x++g:=A6 _ _ h
theorem ye{A:HSt}{i j:Nat}{x:HB}(h:¬i=j):(A.set i x)[j]? = A[j]?:=Ar h
theorem yd{A:HSt}{i:Nat}{x:HB}(h:i<A.length):(A.set i x)[i]? = some x:=Bk h
theorem yp{A g:HSt}{n k:Nat}(h:A.length=n):(A++g)[n+k]? = g[k]?:=by subst h;exact ym ..
theorem yj{A g:HSt}{n:Nat}(h:A.length=n):(A++g)[n]? = g[0]?:=by subst h;exact yy ..
theorem yu{A g:HSt}{n k:Nat}{x:HB}(h:A.length=n):(A++g).set (n+k) x=A++g.set k x:=by subst h;exact yfn ..
theorem yk{A g:HSt}{n:Nat}{x:HB}(h:A.length=n):(A++g).set n x=A++g.set 0 x:=by subst h;exact yeK ..
theorem yw{A:HSt}{i:Nat}{x:HB}:(A.set i x).length=A.length:=Ba ..
theorem e79(hk:∀ws st,K 79 ws st = .none)(B:KPu K){st:HSt}{p:Nat}{at':Int}(hp:st[p]? = some (.box [hI at']))(a:Area)(n:Nat):
 evHF C0 K TH (n+30) 79 [hA a,.ptr p 0] st=some (.p (.bool (inA a at')),st++[.box [hI a.Lo,hI a.Hi,hI a.Next]]):=by
 have hpl:=(Ad.1 hp).1
 have e67:=fun n st=>k67 B a at' n st
 refine yD (n:=n+29) hk (x:=h79) rfl rfl ?_
 simp (config:={ maxSteps:=4000000 }) [↓yg,↓yc,yl,-getElem?_pos,Ah,Ai,yx,yA,ye,yd,yp,yj,yu,yk,yw,h79,e67,hp,hpl,inA]
theorem yqA(hk:∀ws st,K 115 ws st = .none)(B:KPu K){st:HSt}{p:Nat}{at':Int}(hp:st[p]? = some (.box [hI at']))(a:Area)(n:Nat):
 evHF C0 K TH (n+30) 115 [hA a,.ptr p 0] st=some (.p (.bool (inA a at')),st++[.box [hI a.Lo,hI a.Hi,hI a.Next]]):=by
 have hpl:=(Ad.1 hp).1
 have e67:=fun n st=>k67 B a at' n st
 refine yD (n:=n+29) hk (x:=h115) rfl rfl ?_
 simp (config:={ maxSteps:=4000000 }) [↓yg,↓yc,yl,-getElem?_pos,Ah,Ai,yx,yA,ye,yd,yp,yj,yu,yk,yw,h115,e67,hp,hpl,inA]
def env116(ah:HV)(f p N i:Nat):HEnv:=[(0,ah),(1,.fn f [.ptr p 0]),(7,hI N),(8,hI i)]
theorem yoj{f p:Nat}{st:HSt}{ah:HV}{ars:List Area}(hA:AreasAt st ah ars)(has:ars.length<1000){i:Nat}{a:Area}(ha:ars[i]? = some a){r:Bool}{g:HSt}{n0:Nat}(hf:∀n,evHF C0 K TH (n+n0) f [.p (.agg [.int .i64 a.Lo,.int .i64 a.Hi,.int .i64 a.Next]),.ptr p 0] st=some (.p (.bool r),st++g)):
 if r then Run C0 K TH h116l0 (env116 ah f p ars.length i,st) .ret ([(4,hI i)],st++g) else Run C0 K TH h116l0 (env116 ah f p ars.length i,st) .norm (env116 ah f p ars.length (i+1),st++g):=by
 have hil:i<ars.length:=(Ad.1 ha).1
 have hil':(i:Int)<ars.length:=by omega
 have c1:=yjS ha
 have w:=wrN (i:=i) (by omega)
 have hf':evHF C0 K TH (n0+60) f [.p (.agg [.int .i64 a.Lo,.int .i64 a.Hi,.int .i64 a.Next]),.ptr p 0] st=some (.p (.bool r),st++g):=by rw[Nat.add_comm];exact hf 60
 rcases hA with rfl|⟨b,rfl,hbk⟩
 ·cases r
  ·refine Run.of (n0+60) ?_
   simp (config:={ maxSteps:=4000000 }) [↓yg,↓yc,yl,h116l0,env116,hil,hil',c1,w,hf']
  ·refine Run.of (n0+60) ?_
   simp (config:={ maxSteps:=4000000 }) [↓yg,↓yc,yl,h116l0,env116,hil,hil',c1,w,hf']
 ·have c2:i*3+3<=ars.length*3:=by omega
  have c3:(ars.flatMap cArea).length=ars.length*3:=yam yc1 ars
  have c4:(((ars.flatMap cArea).map HV.p).drop (i*3)).take 3=[hI a.Lo,hI a.Hi,hI a.Next]:=by rw[←List.map_drop,←List.map_take,c1];rfl
  obtain⟨acs,hacs⟩:∃acs,ars.flatMap cArea=acs:=⟨_,rfl⟩
  rw[hacs] at hbk c3 c4
  cases r
  ·refine Run.of (n0+60) ?_
   simp (config:={ maxSteps:=4000000 }) [↓yg,↓yc,yl,h116l0,env116,hil,hil',w,hf',hbk,c2,c3,c4]
  ·refine Run.of (n0+60) ?_
   simp (config:={ maxSteps:=4000000 }) [↓yg,↓yc,yl,h116l0,env116,hil,hil',w,hf',hbk,c2,c3,c4]
theorem yok{f p N:Nat}{st:HSt}{ah:HV}:Run C0 K TH h116l0 (env116 ah f p N N,st) (.exit 0) ([],st):=by
 refine Run.of 60 ?_
 simp (config:={ maxSteps:=4000000 }) [↓yg,↓yc,yl,h116l0,env116]
def InFn(K:HCalls)(f:Nat):Prop:=∀(st:HSt) (p:Nat) (at':Int),st[p]? = some (.box [hI at'])->∀(a:Area) (n:Nat),evHF C0 K TH (n+30) f [hA a,.ptr p 0] st=some (.p (.bool (inA a at')),st++[.box [hI a.Lo,hI a.Hi,hI a.Next]])
theorem ylL{f p:Nat}{ah:HV}{ars:List Area}(has:ars.length<1000){at':Int}(hf:InFn K f):∀(m i:Nat) (st:HSt),ars.length-i=m->i<=ars.length->AreasAt st ah ars->st[p]? = some (.box [hI at']) ->
 ∃g,(inAny (ars.drop i) at'=true/\∃j:Nat,Run C0 K TH (.loop h116l0 [0,1,7,8]) (env116 ah f p ars.length i,st) .ret ([(4,hI j)],st++g))\/(inAny (ars.drop i) at'=false/\Run C0 K TH (.loop h116l0 [0,1,7,8]) (env116 ah f p ars.length i,st) (.exit 0) ([],st++g))
 | 0,i,st,hm,hi,hA,hp=>by
   have:i=ars.length:=by omega
   subst this
   refine⟨[],.inr ⟨by rw[Bw];rfl,?_⟩⟩
   rw[Br]
   exact Run.loopX yok (by simp)
 | m+1,i,st,hm,hi,hA,hp=>by
   have hil:i<ars.length:=by omega
   have r1:=yoj (f:=f) (p:=p) hA has (i:=i) (a:=ars[i]) (by simp[hil]) (fun n=>hf st p at' hp ars[i] n)
   have hd:inAny (ars.drop i) at'=(inA ars[i] at'||inAny (ars.drop (i+1)) at'):=by rw[A8 hil];rfl
   rw[hd]
   by_cases hin:inA ars[i] at'=true
   ·rw[if_pos hin] at r1
    exact⟨[.box [hI ars[i].Lo,hI ars[i].Hi,hI ars[i].Next]],.inl ⟨by rw[hin];rfl,i,Run.loopX r1 (by simp)⟩⟩
   ·rw[if_neg hin] at r1
    obtain⟨g2,r2⟩:=ylL (ah:=ah) (p:=p) has hf m (i+1) (st++[.box [hI ars[i].Lo,hI ars[i].Hi,hI ars[i].Next]]) (by omega) (by omega) (hA.app _) (by rw[Aj (Ad.1 hp).1];exact hp)
    refine⟨[.box [hI ars[i].Lo,hI ars[i].Hi,hI ars[i].Next]]++g2,?_⟩
    have hin':inA ars[i] at'=false:=by simpa using hin
    rw[hin',Bool.false_or,←A4]
    rcases r2 with⟨h1,j,r2⟩|⟨h1,r2⟩
    ·exact .inl ⟨h1,j,Run.loopN r1 r2⟩
    ·exact .inr ⟨h1,Run.loopN r1 r2⟩
theorem e78(hk:(∀ws st,K 78 ws st = .none)/\∀ws st,K 116 ws st = .none){f p:Nat}{st:HSt}{ah:HV}{ars:List Area}(hA:AreasAt st ah ars)(has:ars.length<1000){at':Int}(hf:InFn K f)(hp:st[p]? = some (.box [hI at'])):
 ∃g n0,∀n,n0<=n->evHF C0 K TH n 78 [ah,.fn f [.ptr p 0]] st=some (.p (.bool (inAny ars at')),st++g):=by
 obtain⟨g,h⟩:=ylL (p:=p) (ah:=ah) (at':=at') has hf ars.length 0 st (by omega) (by omega) hA hp
 rw[A5] at h
 have z0:((0:Nat):Int)=0:=rfl
 have hk116:=hk.2
 rcases h with⟨hin,j,r⟩|⟨hin',h⟩
 ·obtain⟨n0,hn0⟩:=Run.all r
  simp only[env116,hI,z0] at hn0
  have e116:∀n,evHF C0 K TH (n0+60+n) 116 [ah,.fn f [.ptr p 0]] st=some (hI j,st++g):=fun n=>by
   refine yz (by omega) _ _ _ _ (yD (n:=n0+59) hk116 (x:=h116) rfl rfl ?_)
   rcases hA.sh with⟨q,cs,rfl⟩|⟨b,o,q,z,rfl⟩
   ·have:q=ars.length:=by
     rcases hA with h1|⟨b,h1,_⟩
     ·simp[hAs] at h1;exact h1.1
     ·cases h1
    subst this
    simp (config:={ maxSteps:=4000000 }) [↓yg,↓yc,yl,h116,hn0]
   ·have:q=ars.length:=by
     rcases hA with h1|⟨b,h1,_⟩
     ·cases h1
     ·cases h1;rfl
    subst this
    simp (config:={ maxSteps:=4000000 }) [↓yg,↓yc,yl,h116,hn0]
  have hj:(0:Int)<=j:=by omega
  refine⟨g,n0+120,fun n hn=>yz hn _ _ _ _ (yD (n:=n0+60+59) hk.1 (x:=h78) rfl rfl ?_)⟩
  rw[hin]
  rcases hA.sh with⟨q,cs,rfl⟩|⟨b,o,q,z,rfl⟩
  ·simp (config:={ maxSteps:=4000000 }) [↓yg,↓yc,yl,h78,e116,hj]
  ·simp (config:={ maxSteps:=4000000 }) [↓yg,↓yc,yl,h78,e116,hj]
 ·obtain⟨n0,hn0⟩:=Run.all h
  simp only[env116,hI,z0] at hn0
  have e116:∀n,evHF C0 K TH (n0+60+n) 116 [ah,.fn f [.ptr p 0]] st=some (hI (-1),st++g):=fun n=>by
   refine yz (by omega) _ _ _ _ (yD (n:=n0+59) hk116 (x:=h116) rfl rfl ?_)
   rcases hA.sh with⟨q,cs,rfl⟩|⟨b,o,q,z,rfl⟩
   ·have:q=ars.length:=by
     rcases hA with h1|⟨b,h1,_⟩
     ·simp[hAs] at h1;exact h1.1
     ·cases h1
    subst this
    simp (config:={ maxSteps:=4000000 }) [↓yg,↓yc,yl,h116,hn0]
   ·have:q=ars.length:=by
     rcases hA with h1|⟨b,h1,_⟩
     ·cases h1
     ·cases h1;rfl
    subst this
    simp (config:={ maxSteps:=4000000 }) [↓yg,↓yc,yl,h116,hn0]
  refine⟨g,n0+120,fun n hn=>yz hn _ _ _ _ (yD (n:=n0+60+59) hk.1 (x:=h78) rfl rfl ?_)⟩
  rw[hin']
  rcases hA.sh with⟨q,cs,rfl⟩|⟨b,o,q,z,rfl⟩
  ·simp (config:={ maxSteps:=4000000 }) [↓yg,↓yc,yl,h78,e116]
  ·simp (config:={ maxSteps:=4000000 }) [↓yg,↓yc,yl,h78,e116]
open Go
set_option maxRecDepth 10000
set_option maxHeartbeats 4000000
variable {K:HCalls}
structure LPos where
 sp:Nat
 wb:Nat
 mb:Nat
 p4:Nat
 p5:Nat
 p10:Nat
 p11:Nat
 p12:Nat
structure LPos.Ok (P:LPos) (base:Nat):Prop where
 lo:P.sp<base/\P.wb<base
 hi:base<=P.mb/\base<=P.p4/\base<=P.p5/\base<=P.p10/\base<=P.p11/\base<=P.p12
 ne:P.mb≠P.p4/\P.mb≠P.p5/\P.mb≠P.p10/\P.mb≠P.p11/\P.mb≠P.p12/\P.p10≠P.p4/\P.p10≠P.p5/\P.p10≠P.p11/\P.p10≠P.p12/\P.p12≠P.p4/\P.p12≠P.p5/\P.p12≠P.p11
def wsum(ws out:List Int):Int:=(out.map fun p=>1+(ws.getD p.toNat 0) % 32).sum
theorem yjT(ws out:List Int)(p:Int):wsum ws (out++[p])=wsum ws out+(1+(ws.getD p.toNat 0) % 32):=by simp[wsum]
theorem yea(ws:List Int):∀out:List Int,0<=wsum ws out/\wsum ws out<=40*out.length
 | []=>by simp[wsum]
 | p::out=>by
   have:=yea ws out
   simp only[wsum,Bu,List.sum_cons,Bv] at this ⊢
   omega
structure LV (base:Nat) (P:LPos) (ah:HV) (ars:List Area) (ws:List Int) (st:HSt) (out met:List Int) (oh:HV):Prop where
 S:SpaceAt st P.sp P.wb ws
 A:AreasAt st ah ars
 R:RowI base st oh out
 on:∀b n,oh = .row b 0 n 1->b≠P.mb
 b4:st[P.p4]? = some (.box [.ptr P.sp 0])
 b5:st[P.p5]? = some (.box [ah])
 b10:st[P.p10]? = some (.box [oh])
 b11:st[P.p11]? = some (.box [.row P.mb 0 ws.length 1])
 b12:st[P.p12]? = some (.box [hI (wsum ws out)])
 bm:st[P.mb]? = some (.row 1 ws.length (met.map fun n=>.p (.int .i64 n)))
 ml:met.length=ws.length
 mv:∀j:Nat,j<ws.length->met[j]? = some (if (j:Int)∈out then 1 else 0)
def Boxes(a b:Nat)(st st':HSt):Prop:=∀q cs,q≠a->q≠b->st[q]? = some (.box cs)->st'[q]? = some (.box cs)
theorem Boxes.trans{a b:Nat}{x y z:HSt}(h:Boxes a b x y)(h':Boxes a b y z):Boxes a b x z:=fun q cs h1 h2 e=>h' q cs h1 h2 (h q cs h1 h2 e)
theorem Boxes.app{a b:Nat}(st g:HSt):Boxes a b st (st++g):=fun q cs _ _ e=>by rw[yx (Ad.1 e).1];exact e
structure LVNext (K:HCalls) (f:Nat) (args:List HV) (base:Nat) (P:LPos) (ah:HV) (ars:List Area) (ws:List Int) (st:HSt) (out':List Int):Prop where
 ex:∃st' met' oh' n0,(∀n,n0<=n->evHF C0 K TH n f args st=some (.p (.tup []),st'))/\LV base P ah ars ws st' out' met' oh'/\Same base st st'/\Boxes P.p10 P.p12 st st'
theorem LV.app{base:Nat}{P:LPos}{ah:HV}{ars:List Area}{ws:List Int}{st:HSt}{out met:List Int}{oh:HV}(H:LV base P ah ars ws st out met oh)(g:HSt):LV base P ah ars ws (st++g) out met oh:=by
 have lt:∀{i:Nat} {x:HB},st[i]? = some x->(st++g)[i]? = some x:=fun {i x} e=>by rw[yx (Ad.1 e).1];exact e
 exact⟨H.S.app g,H.A.app g,H.R.app g,H.on,lt H.b4,lt H.b5,lt H.b10,lt H.b11,lt H.b12,lt H.bm,H.ml,H.mv⟩
theorem LV.next{base:Nat}{P:LPos}(hP:P.Ok base){ah:HV}{ars:List Area}(hab:∀b,ah = .row b 0 ars.length 3->b<base){ws:List Int}{st st':HSt}(hbase:base<=st.length){out met:List Int}{oh oh':HV}(H:LV base P ah ars ws st out met oh){a:Nat}(ha:a<ws.length){W:Int}(hW:wsum ws (out++[(a:Int)])=W)
 (hs:∀q y,st[q]? = some y->q≠P.mb->q≠P.p10->q≠P.p12->(∀b n,oh = .row b 0 n 1->q≠b)->st'[q]? = some y)(hlen:st.length<=st'.length)(h10:st'[P.p10]? = some (.box [oh']))(h12:st'[P.p12]? = some (.box [hI W]))(hm:st'[P.mb]? = some (.row 1 ws.length ((met.set a 1).map fun n=>.p (.int .i64 n))))
 (hR:RowI base st' oh' (out++[(a:Int)]))(hon:∀b n,oh' = .row b 0 n 1->b≠P.mb):LV base P ah ars ws st' (out++[(a:Int)]) (met.set a 1) oh'/\Same base st st'/\Boxes P.p10 P.p12 st st':=by
 obtain⟨S,A,R,on,b4,b5,b10,b11,b12,bm,ml,mv⟩:=H
 obtain⟨⟨o1,o2⟩,⟨o3,o4,o5,o6,o7,o8⟩,n1,n2,n3,n4,n5,n6,n7,n8,n9,n10,n11,n12⟩:=hP
 have hb:∀b n,oh = .row b 0 n 1->base<=b/\∃m cs,st[b]? = some (.row 1 m cs):=fun b n e=>by
  rcases R with⟨_,rfl⟩|⟨b',hne,hb',rfl,hst⟩
  ·cases e
  ·cases e;exact⟨hb',_,_,hst⟩
 have hbox:∀q cs,st[q]? = some (.box cs)->∀b n,oh = .row b 0 n 1->q≠b:=fun q cs e b n e2 e3=>by
  obtain⟨_,m,ds,h⟩:=hb b n e2
  rw[←e3,e] at h;simp at h
 have hmb:∀q cs,st[q]? = some (.box cs)->q≠P.mb:=fun q cs e e3=>by rw[e3,bm] at e;simp at e
 have same:Same base st st':=⟨hlen,fun i hi=>by
  have hil:i<st.length:=by omega
  have:=hs i st[i] (by simp[hil]) (by omega) (by omega) (by omega) (fun b n e=>by have:=(hb b n e).1;omega)
  rw[this];simp[hil]⟩
 have boxes:Boxes P.p10 P.p12 st st':=fun q cs h1 h2 e=>hs q _ e (hmb q cs e) h1 h2 (hbox q cs e)
 refine⟨⟨same.space S o1 o2,A.same same hab,hR,hon,boxes _ _ (by omega) (by omega) b4,boxes _ _ (by omega) (by omega) b5,h10,boxes _ _ (by omega) (by omega) b11,by rw[hW];exact h12,hm,by simpa using ml,fun j hj=>?_⟩,same,boxes⟩
 rw[List.getElem?_set]
 by_cases e:a=j
 ·subst e;rw[if_pos rfl,if_pos (by omega),if_pos (by simp)]
 ·rw[if_neg e,mv j hj]
  have:((j:Int)∈out++[(a:Int)])↔(j:Int)∈out:=by simp;omega
  simp only[this]
theorem visit(B:KB K){base:Nat}{P:LPos}(hP:P.Ok base){ah:HV}{ars:List Area}(hab:∀b,ah = .row b 0 ars.length 3->b<base)(has:ars.length<1000){ws:List Int}(hws:ws.length<1000000000){st:HSt}(hbase:base<=st.length){out met:List Int}{oh:HV}(H:LV base P ah ars ws st out met oh)(hol:out.length<80000)
 (p:Int)(hp:inAny ars p=true->∃x,OkSh x/\0<p/\ws[p.toNat]? = some (hdB x)):
 LVNext K 77 [hI p,.ptr P.p5 0,.ptr P.p11 0,.ptr P.p10 0,.ptr P.p4 0,.ptr P.p12 0] base P ah ars ws st (mt ars out p):=by
 obtain⟨S,A,R,on,b4,b5,b10,b11,b12,bm,ml,mv⟩:=H
 have l4:=(Ad.1 b4).1
 have l5:=(Ad.1 b5).1
 have l10:=(Ad.1 b10).1
 have l11:=(Ad.1 b11).1
 have l12:=(Ad.1 b12).1
 have lm:=(Ad.1 bm).1
 obtain⟨ls,lw,lsw⟩:=S.lt
 have hin:InFn K 79:=fun st p at' hp a n=>e79 (B.no 79 rfl) B.toKPu hp a n
 obtain⟨g,n0,f78⟩:=e78 (K:=K) ⟨B.no 78 rfl,B.no 116 rfl⟩ (A.app [.box [hI p]]) has (p:=st.length) (at':=p) hin (by rw[yy];rfl)
 have e78':∀k,evHF C0 K TH (n0+k) 78 [ah,.fn 79 [.ptr st.length 0]] (st++[.box [hI p]])=some (.p (.bool (inAny ars p)),st++(.box [hI p]::g)):=fun k=>by
  have:=f78 (n0+k) (by omega)
  rw[A4] at this
  exact this
 cases hany:inAny ars p with
 | false=>
   rw[hany] at e78'
   have hm:mt ars out p=out:=by unfold mt;rw[hany];rfl
   rw[hm]
   refine⟨⟨st++(.box [hI p]::g),met,oh,n0+60,fun n hn=>yz hn _ _ _ _ (yD (n:=n0+59) (B.no 77 rfl) (x:=h77) rfl rfl ?_),LV.app ⟨S,A,R,on,b4,b5,b10,b11,b12,bm,ml,mv⟩ _,Same.app hbase _,Boxes.app _ _⟩⟩
   rcases A.sh with⟨q,cs,rfl⟩|⟨b,o,q,z,rfl⟩
   ·simp (config:={ maxSteps:=4000000 }) [↓yg,↓yc,yl,-getElem?_pos,Ah,Ai,yx,yA,ye,yd,yp,yj,yu,yk,yw,h77,e78',b5,l5]
   ·simp (config:={ maxSteps:=4000000 }) [↓yg,↓yc,yl,-getElem?_pos,Ah,Ai,yx,yA,ye,yd,yp,yj,yu,yk,yw,h77,e78',b5,l5]
 | true=>
   rw[hany] at e78'
   obtain⟨x,hx,hp0,hhd⟩:=hp hany
   obtain⟨a,rfl⟩:∃a:Nat,p=a:=⟨p.toNat,by omega⟩
   rw[Bq] at hhd
   have hal:=(Ad.1 hhd).1
   have ham:a<met.length:=by omega
   have hmv:=mv a hal
   have i1:a+1<=met.length:=by omega
   have i2:a+1<=ws.length:=by omega
   by_cases hmem:(a:Int)∈out
   ·have hm:mt ars out a=out:=by unfold mt;rw[hany];simp[hmem]
    rw[hm]
    rw[if_pos hmem] at hmv
    refine⟨⟨st++(.box [hI a]::g),met,oh,n0+60,fun n hn=>yz hn _ _ _ _ (yD (n:=n0+59) (B.no 77 rfl) (x:=h77) rfl rfl ?_),LV.app ⟨S,A,R,on,b4,b5,b10,b11,b12,bm,ml,mv⟩ _,Same.app hbase _,Boxes.app _ _⟩⟩
    rcases A.sh with⟨q,cs,rfl⟩|⟨b,o,q,z,rfl⟩
    ·simp (config:={ maxSteps:=4000000 }) [↓yg,↓yc,yl,-getElem?_pos,Ah,Ai,yx,yA,ye,yd,yp,yj,yu,yk,yw,h77,e78',b5,b11,bm,l5,l11,lm,hal,i1,i2,ml,hmv]
    ·simp (config:={ maxSteps:=4000000 }) [↓yg,↓yc,yl,-getElem?_pos,Ah,Ai,yx,yA,ye,yd,yp,yj,yu,yk,yw,h77,e78',b5,b11,bm,l5,l11,lm,hal,i1,i2,ml,hmv]
   ·have hm:mt ars out a=out++[(a:Int)]:=by unfold mt;rw[hany];simp[hmem]
    rw[hm]
    rw[if_neg hmem] at hmv
    obtain⟨⟨o1,o2⟩,⟨o3,o4,o5,o6,o7,o8⟩,n1,n2,n3,n4,n5,n6,n7,n8,n9,n10,n11,n12⟩:=hP
    have m1:¬P.mb=P.sp:=by omega
    have m2:¬P.p10=P.sp:=by omega
    have m3:¬P.p12=P.sp:=by omega
    have m4:¬P.mb=P.wb:=by omega
    have m5:¬P.p10=P.wb:=by omega
    have m6:¬P.p12=P.wb:=by omega
    have hwd:ws.getD a 0=hdB x:=by simp[List.getD,hhd]
    have hmod:(hdB x) % 32=x.Slots:=by have:=hx.1;have:=hx.2.1;unfold hdB;omega
    have hws':wsum ws (out++[(a:Int)])=wsum ws out+(1+x.Slots):=by rw[yjT,Bq,hwd,hmod]
    have hb40:=yea ws out
    have h16:=hx.2.1
    have h00:=hx.1
    have w1:IntKind.i64.wrap (1+x.Slots)=1+x.Slots:=yK (by omega)
    have w2:IntKind.i64.wrap (wsum ws out+(1+x.Slots))=wsum ws out+(1+x.Slots):=yK (by omega)
    have s1:=S.s
    have s2:=S.w
    have e22:∀n (X:HSt),X[P.sp]? = some (.box [.row P.wb 0 ws.length 1])->X[P.wb]? = some (.row 1 ws.length (ws.map fun n=>.p (.int .i64 n)))->evHF C0 K TH (n+30) 22 [.ptr P.sp 0,hI a] X=some (.p (.tup [.agg [.int .i64 x.Slots,.int .i64 x.Mask],.int .i64 0]),X++[.box [hI x.Slots,hI x.Mask]]):=fun n X h1 h2=>e22 B ⟨h1,h2⟩ a (by omega) hx hhd n
    have HL:LV base P ah ars ws st out met oh:=⟨S,A,R,on,b4,b5,b10,b11,b12,bm,ml,mv⟩
    rcases R with⟨rfl,rfl⟩|⟨b,hne,hb,rfl,hst⟩
    ·have walk:∃G,evHF C0 K TH (n0+60) 77 [hI a,.ptr P.p5 0,.ptr P.p11 0,.ptr P.p10 0,.ptr P.p4 0,.ptr P.p12 0] st=some (.p (.tup []),((st.set P.mb (.row 1 ws.length ((met.set a 1).map fun n=>.p (.int .i64 n)))).set P.p10 (.box [.row (st.length+(g.length+1+1)) 0 1 1])).set P.p12 (.box [hI (wsum ws []+(1+x.Slots))])++(.box [hI a]::(g ++ .row 1 1 [hI a] :: .row 1 1 [hI a]::G))):=by
      apply Exists.intro
      refine yD (n:=n0+59) (B.no 77 rfl) (x:=h77) rfl rfl ?_
      rcases A.sh with⟨q,cs,rfl⟩|⟨b,o,q,z,rfl⟩
      ·simp (config:={ maxSteps:=4000000 }) [↓yg,↓yc,yl,-getElem?_pos,Ah,Ai,yx,yA,ye,yd,yp,yj,yu,yk,yw,h77,e78',b4,b5,b10,b11,b12,bm,l4,l5,l10,l11,l12,lm,ls,lw,s1,s2,hal,ham,i1,i2,ml,hmv,w1,w2,e22,n1,n2,n3,n4,n5,n6,n7,n8,n9,n10,n11,n12,m1,m2,m3,m4,m5,m6,List.map_set]
       all_goals exact rfl
      ·simp (config:={ maxSteps:=4000000 }) [↓yg,↓yc,yl,-getElem?_pos,Ah,Ai,yx,yA,ye,yd,yp,yj,yu,yk,yw,h77,e78',b4,b5,b10,b11,b12,bm,l4,l5,l10,l11,l12,lm,ls,lw,s1,s2,hal,ham,i1,i2,ml,hmv,w1,w2,e22,n1,n2,n3,n4,n5,n6,n7,n8,n9,n10,n11,n12,m1,m2,m3,m4,m5,m6,List.map_set]
       all_goals exact rfl
     obtain⟨G,walk⟩:=walk
     have nx:=LV.next (P:=P) ⟨⟨o1,o2⟩,⟨o3,o4,o5,o6,o7,o8⟩,n1,n2,n3,n4,n5,n6,n7,n8,n9,n10,n11,n12⟩ hab hbase HL hal hws' (st':=((st.set P.mb (.row 1 ws.length ((met.set a 1).map fun n=>.p (.int .i64 n)))).set P.p10 (.box [.row (st.length+(g.length+1+1)) 0 1 1])).set P.p12 (.box [hI (wsum ws []+(1+x.Slots))])++(.box [hI a]::(g ++ .row 1 1 [hI a] :: .row 1 1 [hI a]::G))) (oh':=.row (st.length+(g.length+1+1)) 0 1 1)
      (fun q y hq a1 a2 a3 _=>by
        have hl:=(Ad.1 hq).1
        rw[yx (by simpa using hl),ye (fun e=>a3 e.symm),ye (fun e=>a2 e.symm),ye (fun e=>a1 e.symm)];exact hq)
      (by simp)
      (by rw[yx (by simpa using l10),ye (by omega),yd (by simpa using l10)])
      (by rw[yx (by simpa using l12),yd (by simpa using l12)])
      (by rw[yx (by simpa using lm),ye (by omega),ye (by omega),yd lm])
      (.inr ⟨_,by simp,by omega,rfl,by
        rw[yp (by simp),show g.length+1+1=(g.length+1)+1 by omega,Ai,ym];rfl⟩)
      (fun b n e=>by cases e;omega)
     exact⟨⟨_,_,_,n0+60,fun n hn=>yz hn _ _ _ _ walk,nx.1,nx.2.1,nx.2.2⟩⟩
    ·have hbl:b<st.length:=(Ad.1 hst).1
     have hx0:0<out.length:=Cf.2 hne
     obtain⟨m,hm'⟩:∃m,out.length=m:=⟨_,rfl⟩
     have d1:(m+1)*8<=1099511627776:=by omega
     have d2:m+1<=1099511627776:=by omega
     have d3:(out.map fun n=>HV.p (.int .i64 n)).take m=out.map fun n=>HV.p (.int .i64 n):=Aw (by simp;omega)
     have k1:¬P.mb=b:=fun e=>on b _ rfl e.symm
     have k2:¬P.p10=b:=fun e=>by rw[←e,b10] at hst;simp at hst
     have k3:¬P.p12=b:=fun e=>by rw[←e,b12] at hst;simp at hst
     have k4:¬b=P.p4:=fun e=>by rw[e,b4] at hst;simp at hst
     have k5:¬b=P.p12:=fun e=>k3 e.symm
     have k6:¬b=P.p10:=fun e=>k2 e.symm
     have k7:¬b=P.sp:=by omega
     have k8:¬b=P.wb:=by omega
     rw[hm'] at hst b10
     have walk:∃G,evHF C0 K TH (n0+60) 77 [hI a,.ptr P.p5 0,.ptr P.p11 0,.ptr P.p10 0,.ptr P.p4 0,.ptr P.p12 0] st=some (.p (.tup []),(((st.set P.mb (.row 1 ws.length ((met.set a 1).map fun n=>.p (.int .i64 n)))).set b .dead).set P.p10 (.box [.row (st.length+(g.length+1+1)) 0 (m+1) 1])).set P.p12 (.box [hI (wsum ws out+(1+x.Slots))])++(.box [hI a]::(g ++ .row 1 1 [hI a] :: .row 1 (m+1) ((out++[(a:Int)]).map fun n=>.p (.int .i64 n))::G))):=by
      apply Exists.intro
      refine yD (n:=n0+59) (B.no 77 rfl) (x:=h77) rfl rfl ?_
      rcases A.sh with⟨q,cs,rfl⟩|⟨b,o,q,z,rfl⟩
      ·simp (config:={ maxSteps:=4000000 }) [↓yg,↓yc,yl,-getElem?_pos,Ah,Ai,yx,yA,ye,yd,yp,yj,yu,yk,yw,h77,e78',b4,b5,b10,b11,b12,bm,l4,l5,l10,l11,l12,lm,ls,lw,s1,s2,hal,ham,i1,i2,ml,hmv,w1,w2,e22,n1,n2,n3,n4,n5,n6,n7,n8,n9,n10,n11,n12,m1,m2,m3,m4,m5,m6,List.map_set,hst,hbl,hx0,hm',d1,d2,d3,k1,k2,k3,k4,k5,k6,k7,k8]
       all_goals exact rfl
      ·simp (config:={ maxSteps:=4000000 }) [↓yg,↓yc,yl,-getElem?_pos,Ah,Ai,yx,yA,ye,yd,yp,yj,yu,yk,yw,h77,e78',b4,b5,b10,b11,b12,bm,l4,l5,l10,l11,l12,lm,ls,lw,s1,s2,hal,ham,i1,i2,ml,hmv,w1,w2,e22,n1,n2,n3,n4,n5,n6,n7,n8,n9,n10,n11,n12,m1,m2,m3,m4,m5,m6,List.map_set,hst,hbl,hx0,hm',d1,d2,d3,k1,k2,k3,k4,k5,k6,k7,k8]
       all_goals exact rfl
     obtain⟨G,walk⟩:=walk
     have nx:=LV.next (P:=P) ⟨⟨o1,o2⟩,⟨o3,o4,o5,o6,o7,o8⟩,n1,n2,n3,n4,n5,n6,n7,n8,n9,n10,n11,n12⟩ hab hbase HL hal hws' (st':=(((st.set P.mb (.row 1 ws.length ((met.set a 1).map fun n=>.p (.int .i64 n)))).set b .dead).set P.p10 (.box [.row (st.length+(g.length+1+1)) 0 (m+1) 1])).set P.p12 (.box [hI (wsum ws out+(1+x.Slots))])++(.box [hI a]::(g ++ .row 1 1 [hI a] :: .row 1 (m+1) ((out++[(a:Int)]).map fun n=>.p (.int .i64 n))::G))) (oh':=.row (st.length+(g.length+1+1)) 0 (m+1) 1)
      (fun q y hq a1 a2 a3 a4=>by
        have hl:=(Ad.1 hq).1
        rw[yx (by simpa using hl),ye (fun e=>a3 e.symm),ye (fun e=>a2 e.symm),ye (fun e=>a4 b _ rfl e.symm),ye (fun e=>a1 e.symm)];exact hq)
      (by simp)
      (by rw[yx (by simpa using l10),ye (by omega),yd (by simpa using l10)])
      (by rw[yx (by simpa using l12),yd (by simpa using l12)])
      (by rw[yx (by simpa using lm),ye (by omega),ye (by omega),ye (by omega),yd lm])
      (.inr ⟨st.length+(g.length+1+1),by simp,by omega,by simp[hm'],by
        rw[yp (by simp),show g.length+1+1=(g.length+1)+1 by omega,Ai,ym];simp[hm']⟩)
      (fun b n e=>by cases e;omega)
     exact⟨⟨_,_,_,n0+60,fun n hn=>yz hn _ _ _ _ walk,nx.1,nx.2.1,nx.2.2⟩⟩
open Go
set_option maxRecDepth 10000
set_option maxHeartbeats 4000000
variable {K:HCalls}
def env71(sp a:Nat)(f:Nat)(caps:List HV)(p6 s i:Nat):HEnv:=[(0,.ptr sp 0),(1,hI a),(2,.fn f caps),(6,.ptr p6 0),(16,hI s),(17,hI i)]
theorem yol(B:KPu K){st:HSt}{sp a f:Nat}{caps:List HV}{p6 i s:Nat}{x:Shape}(hx:OkSh x)(hs:x.Slots=s)(hi:i<s)(e6:st[p6]? = some (.box [hI x.Slots,hI x.Mask]))(hb:ptB x i=false):
 Run C0 K TH h71l0 (env71 sp a f caps p6 s i,st) .norm (env71 sp a f caps p6 s (i+1),st):=by
 have h16:=hx.2.1
 have w:=wrN (i:=i) (by omega)
 have e98:=fun n st=>k98 B hx (i:Int) n st
 rw[hb] at e98
 refine Run.of 60 ?_
 simp (config:={ maxSteps:=4000000 }) [↓yg,↓yc,yl,h71l0,env71,hi,e6,e98,w]
theorem ypA(B:KPu K){st st':HSt}{sp wb W a f:Nat}{caps:List HV}{p6 i s:Nat}{x:Shape}(hx:OkSh x)(hs:x.Slots=s)(hi:i<s)(e6:st[p6]? = some (.box [hI x.Slots,hI x.Mask]))(hb:ptB x i=true)(es:st[sp]? = some (.box [.row wb 0 W 1])){j:Nat}(hj:a+1+i=j)(hjW:j<W)(hW:W<140737488355328){n0:Nat}
 (hf:∀n,n0<=n->evHF C0 K TH n f (.ptr wb j::caps) st=some (.p (.tup []),st')):
 Run C0 K TH h71l0 (env71 sp a f caps p6 s i,st) .norm (env71 sp a f caps p6 s (i+1),st'):=by
 have h16:=hx.2.1
 have w:=wrN (i:=i) (by omega)
 have w1:=wrN (i:=a) (by omega)
 have w2:IntKind.i64.wrap (((a+1:Nat):Int)+(i:Int))=(j:Int):=by rw[yK (by omega)];omega
 have w1':IntKind.i64.wrap ((a:Int)+1)=(a:Int)+1:=yK (by omega)
 have w2':IntKind.i64.wrap ((a:Int)+1+(i:Int))=(j:Int):=by rw[yK (by omega)];omega
 have e98:=fun n st=>k98 B hx (i:Int) n st
 rw[hb] at e98
 have hf':evHF C0 K TH (n0+60) f (.ptr wb j::caps) st=some (.p (.tup []),st'):=hf _ (by omega)
 have j1:j+1<=W:=by omega
 refine Run.of (n0+60) ?_
 simp (config:={ maxSteps:=4000000 }) [↓yg,↓yc,yl,h71l0,env71,hi,e6,e98,w,w1',w2',es,hjW,j1,hf']
theorem ypB{st:HSt}{sp a f:Nat}{caps:List HV}{p6 s:Nat}:Run C0 K TH h71l0 (env71 sp a f caps p6 s s,st) (.exit 0) ([],st):=by
 refine Run.of 60 ?_
 simp (config:={ maxSteps:=4000000 }) [↓yg,↓yc,yl,h71l0,env71]
def Kept(N:Nat)(st st':HSt):Prop:=∀q cs,N<=q->st[q]? = some (.box cs)->st'[q]? = some (.box cs)
theorem ylM(B:KPu K){sp wb W a f:Nat}{caps:List HV}{p6 s N:Nat}(hN:N<=p6){x:Shape}(hx:OkSh x)(hs:x.Slots=s)(haW:a+1+s<=W)(hW:W<140737488355328)(I:Nat->HSt->Prop)(hI0:∀i st,I i st->st[sp]? = some (.box [.row wb 0 W 1]))
 (hstep:∀i st,I i st->i<s->st[p6]? = some (.box [hI x.Slots,hI x.Mask])->(ptB x i=false->I (i+1) st)/\(ptB x i=true->∃st' n0,(∀n,n0<=n->evHF C0 K TH n f (.ptr wb (a+1+i)::caps) st=some (.p (.tup []),st'))/\I (i+1) st'/\Kept N st st')):∀(m i:Nat) (st:HSt),s-i=m->i<=s->I i st->st[p6]? = some (.box [hI x.Slots,hI x.Mask]) ->
 ∃st',Run C0 K TH (.loop h71l0 [0,1,2,6,16,17]) (env71 sp a f caps p6 s i,st) (.exit 0) ([],st')/\I s st'
 | 0,i,st,hm,hi,h,e6=>by
   have:i=s:=by omega
   subst this
   exact⟨st,Run.loopX ypB (by simp),h⟩
 | m+1,i,st,hm,hi,h,e6=>by
   obtain⟨h1,h2⟩:=hstep i st h (by omega) e6
   cases hb:ptB x i with
   | false=>
     obtain⟨st',r,h3⟩:=ylM B hN hx hs haW hW I hI0 hstep m (i+1) st (by omega) (by omega) (h1 hb) e6
     exact⟨st',Run.loopN (yol B hx hs (by omega) e6 hb) r,h3⟩
   | true=>
     obtain⟨st1,n0,h4,h5,h6⟩:=h2 hb
     obtain⟨st',r,h3⟩:=ylM B hN hx hs haW hW I hI0 hstep m (i+1) st1 (by omega) (by omega) h5 (h6 _ _ hN e6)
     exact⟨st',Run.loopN (ypA B hx hs (by omega) e6 hb (hI0 i st h) rfl (by omega) hW h4) r,h3⟩
theorem e71(B:KB K){st:HSt}{sp wb:Nat}{ws:List Int}(S:SpaceAt st sp wb ws)(hws:ws.length<140737488355328){a:Nat}(ha:0<a){x:Shape}(hx:OkSh x)(hhd:ws[a]? = some (hdB x))(hw:a+1+x.Slots.toNat<=ws.length)(f:Nat)(caps:List HV)(I:Nat->HSt->Prop)(happ:∀g,I 0 st->I 0 (st++g))(hI0:∀i st,I i st->st[sp]? = some (.box [.row wb 0 ws.length 1]))(h0:I 0 st)
 (hstep:∀i st1,I i st1->i<x.Slots.toNat->(ptB x i=false->I (i+1) st1)/\(ptB x i=true->∃st' n0,(∀n,n0<=n->evHF C0 K TH n f (.ptr wb (a+1+i)::caps) st1=some (.p (.tup []),st'))/\I (i+1) st'/\Kept st.length st1 st')):
 ∃st' n0,(∀n,n0<=n->evHF C0 K TH n 71 [.ptr sp 0,hI a,.fn f caps] st=some (.p (.tup []),st'))/\I x.Slots.toNat st':=by
 obtain⟨s,hs⟩:∃s:Nat,x.Slots=s:=⟨x.Slots.toNat,by have:=hx.1;omega⟩
 have hst:x.Slots.toNat=s:=by omega
 rw[hst] at hstep hw ⊢
 have e22:=fun n=>e22 B S a ha hx hhd n
 let g:HSt:=[.box [hI x.Slots,hI x.Mask],.box [hI x.Slots,hI x.Mask]]
 obtain⟨st',r,h3⟩:=ylM B.toKPu (sp:=sp) (wb:=wb) (W:=ws.length) (a:=a) (f:=f) (caps:=caps) (p6:=st.length+1) (N:=st.length) (by omega) hx hs hw hws I hI0 (fun i st1 h1 h2 _=>hstep i st1 h1 h2) s 0 (st++g) (by omega) (by omega) (happ g h0) (by rw[ym];rfl)
 obtain⟨n0,hn0⟩:=Run.all r
 have z0:((0:Nat):Int)=0:=rfl
 simp only[env71,hI,z0,g] at hn0
 rw[←hs] at hn0
 refine⟨st',n0+60,fun n hn=>yz hn _ _ _ _ (yD (n:=n0+59) (B.no 71 rfl) (x:=h71) rfl rfl ?_),h3⟩
 simp (config:={ maxSteps:=4000000 }) [↓yg,↓yc,yl,h71,e22,hn0]
open Go
set_option maxRecDepth 10000
set_option maxHeartbeats 4000000
variable {K:HCalls}
abbrev fn77(P:LPos):HV:=.fn 77 [.ptr P.p5 0,.ptr P.p11 0,.ptr P.p10 0,.ptr P.p4 0,.ptr P.p12 0]
structure LW (base:Nat) (P:LPos) (p13:Nat) (ah:HV) (ars:List Area) (ws:List Int) (L:List r26_Object) (st:HSt) (out:List Int):Prop where
 lv:∃met oh,LV base P ah ars ws st out met oh
 b13:st[p13]? = some (.box [fn77 P])
 n13:p13≠P.p10/\p13≠P.p12/\base<=p13
 ok:OutOk L ars out
 ge:base<=st.length
structure Lk (ars:List Area) (ws:List Int) (L:List r26_Object):Prop where
 ok:∀o∈L,ObjOk ws o/\0<o.At
 ptr:∀o∈L,PtrOk L o
 ap:(L.map keyOf).Pairwise Apart
 z:inAny ars 0=false
 len:L.length<70000
 wl:ws.length<100000000
 al:ars.length<1000
theorem Lk.addr{ars:List Area}{ws:List Int}{L:List r26_Object}(H:Lk ars ws L){p:Int}(hp:AddrOk L p):inAny ars p=true->∃x,OkSh x/\0<p/\ws[p.toNat]? = some (hdB x):=fun h=>by
 rcases hp with rfl|⟨o,ho,rfl⟩
 ·rw[H.z] at h;cases h
 ·exact⟨o.Shape,(H.ok o ho).1.sh,(H.ok o ho).2,(H.ok o ho).1.hd⟩
variable {base:Nat} {P:LPos} {p13:Nat} {ah:HV} {ars:List Area} {ws:List Int} {L:List r26_Object}
theorem LW.visit(B:KB K)(hP:P.Ok base)(hab:∀b,ah = .row b 0 ars.length 3->b<base)(hk:Lk ars ws L){st:HSt}{out:List Int}(H:LW base P p13 ah ars ws L st out){p:Int}(hp:AddrOk L p):
 ∃st' n0,(∀n,n0<=n->evHF C0 K TH n 77 [hI p,.ptr P.p5 0,.ptr P.p11 0,.ptr P.p10 0,.ptr P.p4 0,.ptr P.p12 0] st=some (.p (.tup []),st'))/\LW base P p13 ah ars ws L st' (mt ars out p)/\Same base st st'/\Boxes P.p10 P.p12 st st':=by
 obtain⟨met,oh,lv⟩:=H.lv
 have hl:=H.ok.le
 obtain⟨st',met',oh',n0,h1,h2,h3,h4⟩:=(Go.Ab.visit B hP hab hk.al (by have:=hk.wl;omega) H.ge lv (by have:=hk.len;omega) p (hk.addr hp)).ex
 exact⟨st',n0,h1,⟨⟨met',oh',h2⟩,h4 _ _ H.n13.1 H.n13.2.1 H.b13,H.n13,H.ok.mt hk.z hp,B5 H.ge h3.len⟩,h3,h4⟩
theorem e80(hk:∀ws st,K 80 ws st = .none){st st':HSt}{j:Nat}{v:Int}(S:SpaceAt st P.sp P.wb ws)(hj:ws[j]? = some v)(b13:st[p13]? = some (.box [fn77 P])){n0:Nat}(hv:∀n,n0<=n->evHF C0 K TH n 77 [hI v,.ptr P.p5 0,.ptr P.p11 0,.ptr P.p10 0,.ptr P.p4 0,.ptr P.p12 0] st=some (.p (.tup []),st')):
 ∀n,n0+60<=n->evHF C0 K TH n 80 [.ptr P.wb j,.ptr p13 0] st=some (.p (.tup []),st'):=fun n hn=>by
 have hjl:j<ws.length:=(Ad.1 hj).1
 have j1:j+1<=ws.length:=by omega
 have e1:=S.w
 have hv':evHF C0 K TH (n0+59) 77 [.p (.int .i64 v),.ptr P.p5 0,.ptr P.p11 0,.ptr P.p10 0,.ptr P.p4 0,.ptr P.p12 0] st=some (.p (.tup []),st'):=hv _ (by omega)
 have e3:ws[j]=v:=(Ad.1 hj).2
 refine yz hn _ _ _ _ (yD (n:=n0+59) hk (x:=h80) rfl rfl ?_)
 simp (config:={ maxSteps:=4000000 }) [↓yg,↓yc,yl,h80,e1,hj,e3,j1,hjl,b13,hv']
theorem e81(hk:∀ws st,K 81 ws st = .none){st st':HSt}{j:Nat}{v:Int}(S:SpaceAt st P.sp P.wb ws)(hj:ws[j]? = some v)(b13:st[p13]? = some (.box [fn77 P])){n0:Nat}(hv:∀n,n0<=n->evHF C0 K TH n 77 [hI v,.ptr P.p5 0,.ptr P.p11 0,.ptr P.p10 0,.ptr P.p4 0,.ptr P.p12 0] st=some (.p (.tup []),st')):
 ∀n,n0+60<=n->evHF C0 K TH n 81 [.ptr P.wb j,.ptr p13 0] st=some (.p (.tup []),st'):=fun n hn=>by
 have hjl:j<ws.length:=(Ad.1 hj).1
 have j1:j+1<=ws.length:=by omega
 have e1:=S.w
 have hv':evHF C0 K TH (n0+59) 77 [.p (.int .i64 v),.ptr P.p5 0,.ptr P.p11 0,.ptr P.p10 0,.ptr P.p4 0,.ptr P.p12 0] st=some (.p (.tup []),st'):=hv _ (by omega)
 have e3:ws[j]=v:=(Ad.1 hj).2
 refine yz hn _ _ _ _ (yD (n:=n0+59) hk (x:=h81) rfl rfl ?_)
 simp (config:={ maxSteps:=4000000 }) [↓yg,↓yc,yl,h81,e1,hj,e3,j1,hjl,b13,hv']
theorem LW.app{st:HSt}{out:List Int}(H:LW base P p13 ah ars ws L st out)(g:HSt):LW base P p13 ah ars ws L (st++g) out:=by
 obtain⟨met,oh,lv⟩:=H.lv
 exact⟨⟨met,oh,lv.app g⟩,by rw[yx (Ad.1 H.b13).1];exact H.b13,H.n13,H.ok,by have:=H.ge;simp;omega⟩
theorem LW.ptrs(B:KB K)(hP:P.Ok base)(hab:∀b,ah = .row b 0 ars.length 3->b<base)(hk:Lk ars ws L){f:Nat}(hf:f=80\/f=81){st:HSt}{out:List Int}(H:LW base P p13 ah ars ws L st out){o:r26_Object}(ho:o∈L):
 ∃st' n0,(∀n,n0<=n->evHF C0 K TH n 71 [.ptr P.sp 0,hI o.At,.fn f [.ptr p13 0]] st=some (.p (.tup []),st'))/\LW base P p13 ah ars ws L st' (mtL ars out (ptrs o))/\Same base st st':=by
 obtain⟨o1,o2⟩:=hk.ok o ho
 obtain⟨met,oh,lv⟩:=H.lv
 obtain⟨a,ha⟩:∃a:Nat,o.At=a:=⟨o.At.toNat,by omega⟩
 have hhd:=o1.hd
 have hsl:=o1.sl
 have hlen:=o1.len
 have hwl:=hk.wl
 rw[ha,Bq] at hhd hsl
 have hn:o.Shape.Slots.toNat=o.Slots.length:=by omega
 have hext:a+1+o.Shape.Slots.toNat<=ws.length:=by
  rw[hn]
  have h1:=(Ad.1 hhd).1
  rcases Nat.eq_zero_or_pos o.Slots.length with h0|h0
  ·omega
  ·have:=hsl (o.Slots.length-1) o.Slots[o.Slots.length-1] (by simp[h0])
   have:=(Ad.1 this).1
   omega
 obtain⟨hlo,hhi,_⟩:=id hP
 have h10:P.p10<st.length:=(Ad.1 lv.b10).1
 have h12:P.p12<st.length:=(Ad.1 lv.b12).1
 let I:Nat->HSt->Prop:=fun i s1=>∃o',LW base P p13 ah ars ws L s1 o'/\Same base st s1/\st.length<=s1.length/\mtL ars o' (ptrsL o.Shape i (o.Slots.drop i))=mtL ars out (Go.Ab.ptrs o)
 obtain⟨st',n0,h1,o',h2,h3,_,h4⟩:=e71 B lv.S (by omega) (a:=a) (by omega) o1.sh hhd hext f [.ptr p13 0] I
  (fun g ⟨o',h1,h2,h3,h4⟩=>⟨o',h1.app g,h2.trans (Same.app (by have:=h1.ge;omega) g),by rw[Bj];omega,h4⟩)
  (fun i s1 ⟨o',h1,_⟩=>by obtain⟨_,_,l⟩:=h1.lv;exact l.S.s)
  ⟨out,H,Same.refl _ _,Av _,rfl⟩
  (fun i s1 ⟨o',h1,h2,h3,h4⟩ hi=>by
    have hil:i<o.Slots.length:=by omega
    rw[A8 hil] at h4
    simp only[ptrsL] at h4
    refine⟨fun hb=>⟨o',h1,h2,h3,by rw[hb] at h4;simpa using h4⟩,fun hb=>?_⟩
    rw[if_pos hb,ybA] at h4
    have hv:o.Slots[i]? = some o.Slots[i]:=by simp[hil]
    have hp:AddrOk L o.Slots[i]:=hk.ptr o ho i _ hv hb
    obtain⟨st',n0,h5,h6,h7,h8⟩:=h1.visit B hP hab hk hp
    obtain⟨_,_,l⟩:=h1.lv
    have hw:=hsl i _ hv
    refine⟨st',n0+60,?_,⟨_,h6,h2.trans h7,B5 h3 h7.len,h4⟩,fun q cs hq e=>h8 q cs (by omega) (by omega) e⟩
    rcases hf with rfl|rfl
    ·exact e80 (B.no 80 rfl) l.S hw h1.b13 h5
    ·exact e81 (B.no 81 rfl) l.S hw h1.b13 h5)
 rw[hn,Bw] at h4
 simp only[ptrsL,mtL,List.foldl_nil] at h4
 subst h4
 rw[←ha] at h1
 exact⟨st',n0,h1,h2,h3⟩
def env27a(P:LPos)(p13:Nat)(al:HV)(rs:List Int)(i:Nat):HEnv:=[(3,al),(4,.ptr P.p4 0),(10,.ptr P.p10 0),(12,.ptr P.p12 0),(13,.ptr p13 0),(26,hN rs),(27,hI rs.length),(28,hI i)]
def env27b(P:LPos)(p13:Nat)(al:HV)(n i:Nat):HEnv:=[(4,.ptr P.p4 0),(10,.ptr P.p10 0),(12,.ptr P.p12 0),(13,.ptr p13 0),(36,al),(37,hI n),(38,hI i)]
def env27c(P:LPos)(p13 i:Nat):HEnv:=[(4,.ptr P.p4 0),(10,.ptr P.p10 0),(12,.ptr P.p12 0),(13,.ptr p13 0),(18,hI i)]
theorem yom{st st':HSt}{al:HV}{rs:List Int}{i:Nat}{v:Int}(hv:rs[i]? = some v)(hrs:rs.length<100000)(b13:st[p13]? = some (.box [fn77 P])){n0:Nat}(h77:∀n,n0<=n->evHF C0 K TH n 77 [hI v,.ptr P.p5 0,.ptr P.p11 0,.ptr P.p10 0,.ptr P.p4 0,.ptr P.p12 0] st=some (.p (.tup []),st')):
 Run C0 K TH h27l0 (env27a P p13 al rs i,st) .norm (env27a P p13 al rs (i+1),st'):=by
 have hil:i<rs.length:=(Ad.1 hv).1
 have hil':(i:Int)<rs.length:=by omega
 have c2:=yba hv
 have w:=wrN (i:=i) (by omega)
 have hv':evHF C0 K TH (n0+60) 77 [.p (.int .i64 v),.ptr P.p5 0,.ptr P.p11 0,.ptr P.p10 0,.ptr P.p4 0,.ptr P.p12 0] st=some (.p (.tup []),st'):=h77 _ (by omega)
 refine Run.of (n0+60) ?_
 simp (config:={ maxSteps:=4000000 }) [↓yg,↓yc,yl,h27l0,env27a,hil,hil',c2,w,b13,hv']
theorem yon{st:HSt}{al:HV}{rs:List Int}:Run C0 K TH h27l0 (env27a P p13 al rs rs.length,st) (.exit 0) ([(3,al),(4,.ptr P.p4 0),(10,.ptr P.p10 0),(12,.ptr P.p12 0),(13,.ptr p13 0)],st):=by
 refine Run.of 60 ?_
 simp (config:={ maxSteps:=4000000 }) [↓yg,↓yc,yl,h27l0,env27a]
theorem ylN(B:KB K)(hP:P.Ok base)(hab:∀b,ah = .row b 0 ars.length 3->b<base)(hk:Lk ars ws L){al:HV}{rs:List Int}(hrs:rs.length<100000)(hro:∀p∈rs,AddrOk L p):∀(m i:Nat) (st:HSt) (out:List Int),rs.length-i=m->i<=rs.length->LW base P p13 ah ars ws L st out ->
 ∃st',Run C0 K TH (.loop h27l0 [3,4,10,12,13,26,27,28]) (env27a P p13 al rs i,st) (.exit 0) ([(3,al),(4,.ptr P.p4 0),(10,.ptr P.p10 0),(12,.ptr P.p12 0),(13,.ptr p13 0)],st')/\LW base P p13 ah ars ws L st' (mtL ars out (rs.drop i))/\Same base st st'
 | 0,i,st,out,hm,hi,H=>by
   have:i=rs.length:=by omega
   subst this
   rw[Bw]
   exact⟨st,Run.loopX yon (by simp),H,Same.refl _ _⟩
 | m+1,i,st,out,hm,hi,H=>by
   have hil:i<rs.length:=by omega
   obtain⟨st1,n0,h1,h2,h3,_⟩:=H.visit B hP hab hk (hro rs[i] (Au hil))
   obtain⟨st2,r,h4,h5⟩:=ylN B hP hab hk (al:=al) hrs hro m (i+1) st1 _ (by omega) (by omega) h2
   rw[A8 hil,ybA]
   exact⟨st2,Run.loopN (yom (by simp[hil]) hrs H.b13 h1) r,h4,h3.trans h5⟩
theorem yoo{st st':HSt}{al:HV}{l:List Int}(hal:IntsAt st al l){i:Nat}{v:Int}(hv:l[i]? = some v)(hrs:l.length<100000)(b4:st[P.p4]? = some (.box [.ptr P.sp 0])){n0:Nat}(h71':∀n,n0<=n->evHF C0 K TH n 71 [.ptr P.sp 0,hI v,.fn 80 [.ptr p13 0]] st=some (.p (.tup []),st')):
 Run C0 K TH h27l1 (env27b P p13 al l.length i,st) .norm (env27b P p13 al l.length (i+1),st'):=by
 have hil:i<l.length:=(Ad.1 hv).1
 have hil':(i:Int)<l.length:=by omega
 have c2:=yba hv
 have w:=wrN (i:=i) (by omega)
 have hv':evHF C0 K TH (n0+60) 71 [.ptr P.sp 0,.p (.int .i64 v),.fn 80 [.ptr p13 0]] st=some (.p (.tup []),st'):=h71' _ (by omega)
 rcases hal with⟨_,rfl⟩|rfl|⟨b,rfl,hb⟩
 ·simp at hil
 ·refine Run.of (n0+60) ?_
  simp (config:={ maxSteps:=4000000 }) [↓yg,↓yc,yl,h27l1,env27b,hil,hil',c2,w,b4,hv']
 ·have i1:i+1<=l.length:=by omega
  have c3:(l.map fun n=>HV.p (.int .i64 n))[i]? = some (hI v):=by simp[hv]
  refine Run.of (n0+60) ?_
  obtain⟨cs,hcs⟩:∃cs,(l.map fun n=>HV.p (.int .i64 n))=cs:=⟨_,rfl⟩
  have c4:cs.length=l.length:=by rw[←hcs];simp
  rw[hcs] at hb c3
  simp (config:={ maxSteps:=4000000 }) [↓yg,↓yc,yl,-getElem?_pos,Ah,Ai,yx,yA,ye,yd,yp,yj,yu,yk,yw,h27l1,env27b,hil,hil',c3,c4,i1,w,b4,hb,hv']
theorem yop{st:HSt}{al:HV}{n:Nat}:Run C0 K TH h27l1 (env27b P p13 al n n,st) (.exit 2) ([(4,.ptr P.p4 0),(10,.ptr P.p10 0),(12,.ptr P.p12 0),(13,.ptr p13 0)],st):=by
 refine Run.of 60 ?_
 simp (config:={ maxSteps:=4000000 }) [↓yg,↓yc,yl,h27l1,env27b]
theorem ylO(B:KB K)(hP:P.Ok base)(hab:∀b,ah = .row b 0 ars.length 3->b<base)(hk:Lk ars ws L){al:HV}{l:List Int}(hl:l.length<100000)(hbl:∀b,al = .row b 0 l.length 1->b<base)(hob:∀p∈l,∃o∈L,o.At=p):∀(m i:Nat) (st:HSt) (out:List Int),l.length-i=m->i<=l.length->IntsAt st al l->LW base P p13 ah ars ws L st out ->
 ∃st',Run C0 K TH (.loop h27l1 [4,10,12,13,36,37,38]) (env27b P p13 al l.length i,st) (.exit 2) ([(4,.ptr P.p4 0),(10,.ptr P.p10 0),(12,.ptr P.p12 0),(13,.ptr p13 0)],st')/\LW base P p13 ah ars ws L st' (mtL ars out ((l.drop i).flatMap (ptrsAt L)))/\Same base st st'
 | 0,i,st,out,hm,hi,hA,H=>by
   have:i=l.length:=by omega
   subst this
   rw[Bw]
   exact⟨st,Run.loopX yop (by simp),H,Same.refl _ _⟩
 | m+1,i,st,out,hm,hi,hA,H=>by
   have hil:i<l.length:=by omega
   obtain⟨o,ho,hat⟩:=hob l[i] (Au hil)
   obtain⟨met,oh,lv⟩:=H.lv
   obtain⟨st1,n0,h1,h2,h3⟩:=H.ptrs B hP hab hk (f:=80) (.inl rfl) ho
   rw[hat] at h1
   obtain⟨st2,r,h4,h5⟩:=ylO B hP hab hk (al:=al) hl hbl hob m (i+1) st1 _ (by omega) (by omega) (hA.same h3 hbl) h2
   rw[A8 hil,Bn,yha]
   have hpa:ptrsAt L l[i]=Go.Ab.ptrs o:=by unfold ptrsAt;rw[←hat,yaQ hk.ap ho]
   rw[hpa]
   exact⟨st2,Run.loopN (yoo hA (by simp[hil]) hl lv.b4 h1) r,h4,h3.trans h5⟩
theorem yoq{st st':HSt}{oh:HV}{out:List Int}{i:Nat}{v:Int}(hv:out[i]? = some v)(hrs:out.length<100000)(b4:st[P.p4]? = some (.box [.ptr P.sp 0]))(b10:st[P.p10]? = some (.box [oh]))(R:RowI base st oh out){n0:Nat}(h71':∀n,n0<=n->evHF C0 K TH n 71 [.ptr P.sp 0,hI v,.fn 81 [.ptr p13 0]] st=some (.p (.tup []),st')):
 Run C0 K TH h27l2 (env27c P p13 i,st) .norm (env27c P p13 (i+1),st'):=by
 have hil:i<out.length:=(Ad.1 hv).1
 have hil':(i:Int)<out.length:=by omega
 have w:=wrN (i:=i) (by omega)
 have hv':evHF C0 K TH (n0+60) 71 [.ptr P.sp 0,.p (.int .i64 v),.fn 81 [.ptr p13 0]] st=some (.p (.tup []),st'):=h71' _ (by omega)
 rcases R with⟨rfl,_⟩|⟨b,hne,hb,rfl,hst⟩
 ·simp at hil
 ·have i1:i+1<=out.length:=by omega
  have c3:(out.map fun n=>HV.p (.int .i64 n))[i]? = some (hI v):=by simp[hv]
  refine Run.of (n0+60) ?_
  obtain⟨cs,hcs⟩:∃cs,(out.map fun n=>HV.p (.int .i64 n))=cs:=⟨_,rfl⟩
  have c4:cs.length=out.length:=by rw[←hcs];simp
  rw[hcs] at hst c3
  simp (config:={ maxSteps:=4000000 }) [↓yg,↓yc,yl,-getElem?_pos,Ah,Ai,yx,yA,ye,yd,yp,yj,yu,yk,yw,h27l2,env27c,hil,hil',c3,c4,i1,w,b4,b10,hst,hv']
theorem yor{st:HSt}{oh:HV}{out:List Int}{i:Nat}(hi:i=out.length)(b10:st[P.p10]? = some (.box [oh]))(R:RowI base st oh out):Run C0 K TH h27l2 (env27c P p13 i,st) (.exit 4) ([(10,.ptr P.p10 0),(12,.ptr P.p12 0)],st):=by
 subst hi
 rcases R with⟨rfl,rfl⟩|⟨b,hne,hb,rfl,hst⟩
 ·refine Run.of 60 ?_
  simp (config:={ maxSteps:=4000000 }) [↓yg,↓yc,yl,h27l2,env27c,b10]
 ·refine Run.of 60 ?_
  simp (config:={ maxSteps:=4000000 }) [↓yg,↓yc,yl,h27l2,env27c,b10]
theorem ylP(B:KB K)(hP:P.Ok base)(hab:∀b,ah = .row b 0 ars.length 3->b<base)(hk:Lk ars ws L):∀(k i:Nat) (st:HSt) (out:List Int),L.length+1<=k+i->i<=out.length->LW base P p13 ah ars ws L st out ->
 ∃st',Run C0 K TH (.loop h27l2 [4,10,12,13,18]) (env27c P p13 i,st) (.exit 4) ([(10,.ptr P.p10 0),(12,.ptr P.p12 0)],st')/\LW base P p13 ah ars ws L st' (bfs L ars k i out)/\Same base st st'
 | 0,i,st,out,hm,hi,H=>by
   have:=H.ok.le
   omega
 | k+1,i,st,out,hm,hi,H=>by
   obtain⟨met,oh,lv⟩:=H.lv
   have hle:=H.ok.le
   have hlk:=hk.len
   by_cases hil:i<out.length
   ·have hv:out[i]? = some out[i]:=by simp[hil]
    obtain⟨_,o,ho,hat⟩:=H.ok.mem out[i] (Au hil)
    obtain⟨st1,n0,h1,h2,h3⟩:=H.ptrs B hP hab hk (f:=81) (.inr rfl) ho
    rw[hat] at h1
    have hpa:ptrsAt L out[i]=Go.Ab.ptrs o:=by unfold ptrsAt;rw[←hat,yaQ hk.ap ho]
    simp only[bfs,hv]
    rw[hpa]
    obtain⟨r1,hr1⟩:=ya9 ars (Go.Ab.ptrs o) out
    obtain⟨st2,r,h4,h5⟩:=ylP B hP hab hk k (i+1) st1 _ (by omega) (by rw[hr1];simp;omega) h2
    exact⟨st2,Run.loopN (yoq hv (by omega) lv.b4 lv.b10 lv.R h1) r,h4,h3.trans h5⟩
   ·have:out[i]? = none:=B4 (by omega)
    simp only[bfs,this]
    exact⟨st,Run.loopX (yor (by omega) lv.b10 lv.R) (by simp),H,Same.refl _ _⟩
open Go
set_option maxRecDepth 10000
set_option maxHeartbeats 4000000
variable {K:HCalls}
def lpos(sp wb N:Nat):LPos:=⟨sp,wb,N+2,N,N+4,N+5,N+1,N+3⟩
theorem yos{sp wb N:Nat}(h1:sp<N)(h2:wb<N):(lpos sp wb N).Ok N:=by
 refine⟨⟨h1,h2⟩,?_,?_⟩ <;> simp only[lpos]<;>omega
theorem e27(B:KB K){st:HSt}{sp wb:Nat}{ws:List Int}(S:SpaceAt st sp wb ws)(hw0:ws.length≠0){L:List r26_Object}{ars:List Area}(hk:Lk ars ws L){ah:HV}(hA:AreasAt st ah ars){rs:List Int}(hrs:rs.length<100000)(hro:∀p∈rs,AddrOk L p){al:HV}{l:List Int}(hal:IntsAt st al l)(hl:l.length<100000)(hob:∀p∈l,∃o∈L,o.At=p):
 ∃st' n0 oh,(∀n,n0<=n->evHF C0 K TH n 27 [.ptr sp 0,ah,hN rs,al] st=some (mkTup [oh,hI (wsum ws (live L ars rs l))],st'))/\RowI st.length st' oh (live L ars rs l)/\Same st.length st st':=by
 obtain⟨ls,lw,_⟩:=S.lt
 have hwl:=hk.wl
 have hP:=yos ls lw
 have hab:∀b,ah = .row b 0 ars.length 3->b<st.length:=fun b e=>by
  rcases hA with h|⟨b',h1,h2⟩
  ·rw[h] at e;cases e
  ·rw[h1] at e;cases e;exact (Ad.1 h2).1
 have hbl:∀b,al = .row b 0 l.length 1->b<st.length:=fun b e=>by
  rcases hal with⟨h,_⟩|h|⟨b',h1,h2⟩
  ·rw[h] at e;cases e
  ·rw[h] at e;cases e
  ·rw[h1] at e;cases e;exact (Ad.1 h2).1
 let g:HSt:=[.box [.ptr sp 0],.box [.row (st.length+2) 0 ws.length 1],.row 1 ws.length ((List.replicate ws.length (0:Int)).map fun n=>.p (.int .i64 n)),.box [hI 0],.box [ah],.box [.p .nils],.box [fn77 (lpos sp wb st.length)]]
 have H0:LW st.length (lpos sp wb st.length) (st.length+6) ah ars ws L (st++g) []:=by
  refine⟨⟨List.replicate ws.length 0,.p .nils,S.app g,hA.app g,.inl ⟨rfl,rfl⟩,fun b n e=>(by cases e),by rw[show (lpos sp wb st.length).p4=st.length from rfl,yy];rfl,?_,?_,?_,?_,?_,by simp,fun j hj=>?_⟩,?_,⟨?_,?_,?_⟩,OutOk.nil _ _,by simp⟩
  ·exact ym st g 4
  ·exact ym st g 5
  ·exact ym st g 1
  ·exact ym st g 3
  ·exact ym st g 2
  ·rw[Cr,if_pos hj];simp
  ·exact ym st g 6
  ·show st.length+6≠st.length+5;omega
  ·show st.length+6≠st.length+3;omega
  ·omega
 obtain⟨st1,r1,H1,S1⟩:=ylN B hP hab hk (al:=al) hrs hro rs.length 0 _ [] (by omega) (by omega) H0
 rw[A5] at H1
 have hal1:IntsAt st1 al l:=hal.same (n:=st.length) ((Same.app (Av _) g).trans S1) hbl
 obtain⟨st2,r2,H2,S2⟩:=ylO B hP hab hk (al:=al) hl hbl hob l.length 0 st1 _ (by omega) (by omega) hal1 H1
 rw[A5] at H2
 obtain⟨st3,r3,H3,S3⟩:=ylP B hP hab hk (L.length+1) 0 st2 _ (by omega) (by omega) H2
 obtain⟨met,oh,lv⟩:=H3.lv
 obtain⟨n1,hn1⟩:=Run.all r1
 obtain⟨n2,hn2⟩:=Run.all r2
 obtain⟨n3,hn3⟩:=Run.all r3
 have hn1':=fun j k=>hn1 (n1+n2+n3+j) (n1+n2+n3+k) (by omega) (by omega)
 have hn2':=fun j k=>hn2 (n1+n2+n3+j) (n1+n2+n3+k) (by omega) (by omega)
 have hn3':=fun j k=>hn3 (n1+n2+n3+j) (n1+n2+n3+k) (by omega) (by omega)
 have z0:((0:Nat):Int)=0:=rfl
 have e0:(List.replicate ws.length (0:Int)).map (fun n=>HV.p (.int .i64 n))=(rep ws.length [PV.int .i64 0]).map HV.p:=by rw[yik,←yes]
 simp only[env27a,env27b,env27c,hI,z0,lpos,g,fn77,e0] at hn1' hn2' hn3'
 have b10:=lv.b10
 have b12:=lv.b12
 have R3:=lv.R
 simp only[lpos] at b10 b12
 have q1:ws.length*8<=1099511627776:=by omega
 have q2:ws.length<=1099511627776:=by omega
 have q4:(rep ws.length [PV.int .i64 0]).all PV.free=true:=Ax.2 (ybg ws.length)
 have q5:(∀x∈rep ws.length [PV.int .i64 0],PV.free x=true)=True:=eq_true (ybg ws.length)
 have s1:=S.s
 refine⟨st3,n1+n2+n3+60,oh,fun n hn=>yz hn _ _ _ _ (yD (n:=n1+n2+n3+59) (B.no 27 rfl) (x:=h27) rfl rfl ?_),R3,(Same.app (Av _) g).trans (S1.trans (S2.trans S3))⟩
 have live_eq:live L ars rs l=bfs L ars (L.length+1) 0 (mtL ars (mtL ars [] rs) (l.flatMap (ptrsAt L))):=rfl
 rw[live_eq]
 generalize bfs L ars (L.length+1) 0 (mtL ars (mtL ars [] rs) (l.flatMap (ptrsAt L)))=out at *
 rcases hA.sh with⟨q,cs,rfl⟩|⟨b,o,q,z,rfl⟩ <;> rcases hal with⟨rfl,rfl⟩|rfl|⟨b',rfl,_⟩ <;> rcases R3.sh with rfl|⟨b2,q2',rfl⟩
 all_goals (try simp only[Cc,z0] at hn2')
 all_goals simp (config:={ maxSteps:=4000000 }) [↓yg,↓yc,yl,-getElem?_pos,Ah,Ai,yx,yA,ye,yd,yp,yj,yu,yk,yw,h27,s1,ls,lw,q1,q2,hw0,q4,q5,hn1',hn2',hn3',b10,b12]
open Go
set_option maxRecDepth 10000
set_option maxHeartbeats 4000000
variable {K:HCalls} {base:Nat} {ah:HV} {ars:List Area} {ws:List Int} {L:List r26_Object}
structure RW (base:Nat) (ah:HV) (ars:List Area) (L:List r26_Object) (st:HSt) (h:HV) (out:List Int):Prop where
 A:AreasAt st ah ars
 R:RowI base st h out
 ok:OutOk L ars out
 ge:base<=st.length
theorem yot{st:HSt}{rs:List Int}{al h:HV}{i:Nat}(hi:i=rs.length){out:List Int}(R:RowI base st h out):Run C0 K TH h28l0 (env28a L ah rs al h i,st) (.exit 0) ([(0,hL L),(1,ah),(3,al),(9,h)],st):=by
 subst hi
 refine Run.of 60 ?_
 simp (config:={ maxSteps:=4000000 }) [↓yg,↓yc,yl,h28l0,env28a]
theorem ylQ(B:KPu K)(hk:Lk ars ws L)(hab:∀b,ah = .row b 0 ars.length 3->b<base){al:HV}{rs:List Int}(hrs:rs.length<80000)(hro:∀p∈rs,AddrOk L p):∀(m i:Nat) (st:HSt) (h:HV) (out:List Int),rs.length-i=m->i<=rs.length->RW base ah ars L st h out ->
 ∃st' h',Run C0 K TH (.loop h28l0 [0,1,2,3,9,10]) (env28a L ah rs al h i,st) (.exit 0) ([(0,hL L),(1,ah),(3,al),(9,h')],st')/\RW base ah ars L st' h' (mtL ars out (rs.drop i))/\Same base st st'
 | 0,i,st,h,out,hm,hi,H=>by
   have:i=rs.length:=by omega
   subst this
   rw[Bw]
   exact⟨st,h,Run.loopX (yot rfl H.R) (by simp),H,Same.refl _ _⟩
 | m+1,i,st,h,out,hm,hi,H=>by
   have hil:i<rs.length:=by omega
   have hle:=H.ok.le
   have hlk:=hk.len
   obtain⟨st1,h1,r1,R1,S1⟩:=yoi B H.ge (L:=L) H.A hk.al al (i:=i) (v:=rs[i]) (by simp[hil]) hrs H.R (by omega)
   have H1:RW base ah ars L st1 h1 (mt ars out rs[i]):=⟨H.A.same S1 hab,R1,H.ok.mt hk.z (hro _ (Au hil)),B5 H.ge S1.len⟩
   obtain⟨st2,h2,r2,H2,S2⟩:=ylQ B hk hab (al:=al) hrs hro m (i+1) st1 h1 _ (by omega) (by omega) H1
   rw[A8 hil,ybA]
   refine⟨st2,h2,Run.loopN r1 ?_,H2,S1.trans S2⟩
   have:(env28a L ah rs al h1 (i+1)).keep [0,1,2,3,9,10]=env28a L ah rs al h1 (i+1):=by simp[env28a,HEnv.keep]
   rw[this];exact r2
theorem RW.slots(B:KPu K)(hk83:∀ws st,K 83 ws st = .none)(hk:Lk ars ws L)(hab:∀b,ah = .row b 0 ars.length 3->b<base){st:HSt}{h:HV}{out:List Int}(H:RW base ah ars L st h out)(p:Int):
 ∃st1 h1 n0,(∀n,n0<=n->evHF C0 K TH n 83 [hL L,ah,hI p,h] st=some (h1,st1))/\RW base ah ars L st1 h1 (mtL ars out (ptrsAt L p))/\Same base st st1:=by
 have hle:=H.ok.le
 have hlk:=hk.len
 obtain⟨st1,h1,n0,e,R1,S1⟩:=e83 B hk83 (base:=base) hk.ap (fun o ho=>⟨(hk.ok o ho).1.sh,by have:=(hk.ok o ho).1.len;have:=(hk.ok o ho).1.sh.2.1;omega⟩) (by omega) H.ge H.A hab hk.al p H.R (by omega)
 exact⟨st1,h1,n0,e,⟨H.A.same S1 hab,R1,H.ok.mtL hk.z (yfF hk.ptr p),B5 H.ge S1.len⟩,S1⟩
theorem you{st st':HSt}{al h h':HV}{l:List Int}(hal:IntsAt st al l){i:Nat}{v:Int}(hv:l[i]? = some v)(hrs:l.length<100000){out out':List Int}(R:RowI base st h out)(R':RowI base st' h' out'){n0:Nat}(e83:∀n,n0<=n->evHF C0 K TH n 83 [hL L,ah,hI v,h] st=some (h',st'))(hah:Sh ah):
 Run C0 K TH h28l1 (env28b L ah al h i,st) .norm (env28b L ah al h' (i+1),st'):=by
 have hil:i<l.length:=(Ad.1 hv).1
 have hil':(i:Int)<l.length:=by omega
 have c2:=yba hv
 have w:=wrN (i:=i) (by omega)
 have hv':evHF C0 K TH (n0+60) 83 [hL L,ah,.p (.int .i64 v),h] st=some (h',st'):=e83 _ (by omega)
 rcases hal with⟨_,rfl⟩|rfl|⟨b,rfl,hb⟩
 ·simp at hil
 ·rcases R.sh with rfl|⟨b1,q1,rfl⟩ <;> rcases R'.sh with rfl|⟨b2,q2,rfl⟩ <;> rcases hah with⟨q,cs,rfl⟩|⟨b,o,q,z,rfl⟩
  all_goals
   refine Run.of (n0+60) ?_
   simp (config:={ maxSteps:=4000000 }) [↓yg,↓yc,yl,h28l1,env28b,hil,hil',c2,w,hv']
 ·have i1:i+1<=l.length:=by omega
  have c3:(l.map fun n=>HV.p (.int .i64 n))[i]? = some (hI v):=by simp[hv]
  obtain⟨cs0,hcs⟩:∃cs,(l.map fun n=>HV.p (.int .i64 n))=cs:=⟨_,rfl⟩
  have c4:cs0.length=l.length:=by rw[←hcs];simp
  rw[hcs] at hb c3
  rcases R.sh with rfl|⟨b1,q1,rfl⟩ <;> rcases R'.sh with rfl|⟨b2,q2,rfl⟩ <;> rcases hah with⟨q,cs,rfl⟩|⟨b,o,q,z,rfl⟩
  all_goals
   refine Run.of (n0+60) ?_
   simp (config:={ maxSteps:=4000000 }) [↓yg,↓yc,yl,-getElem?_pos,Ah,Ai,yx,yA,ye,yd,yp,yj,yu,yk,yw,h28l1,env28b,hil,hil',c3,c4,i1,w,hb,hv']
theorem yov{st:HSt}{al h:HV}{l:List Int}(hal:IntsAt st al l){i:Nat}(hi:i=l.length):Run C0 K TH h28l1 (env28b L ah al h i,st) (.exit 2) ([(0,hL L),(1,ah),(9,h)],st):=by
 subst hi
 rcases hal with⟨rfl,rfl⟩|rfl|⟨b,rfl,hb⟩
 all_goals
  refine Run.of 60 ?_
  simp (config:={ maxSteps:=4000000 }) [↓yg,↓yc,yl,h28l1,env28b]
theorem ylR(B:KPu K)(hk83:∀ws st,K 83 ws st = .none)(hk:Lk ars ws L)(hab:∀b,ah = .row b 0 ars.length 3->b<base){al:HV}{l:List Int}(hl:l.length<80000)(hbl:∀b,al = .row b 0 l.length 1->b<base):∀(m i:Nat) (st:HSt) (h:HV) (out:List Int),l.length-i=m->i<=l.length->IntsAt st al l->RW base ah ars L st h out ->
 ∃st' h',Run C0 K TH (.loop h28l1 [0,1,3,9,11]) (env28b L ah al h i,st) (.exit 2) ([(0,hL L),(1,ah),(9,h')],st')/\RW base ah ars L st' h' (mtL ars out ((l.drop i).flatMap (ptrsAt L)))/\Same base st st'
 | 0,i,st,h,out,hm,hi,hA,H=>by
   have:i=l.length:=by omega
   subst this
   rw[Bw]
   exact⟨st,h,Run.loopX (yov hA rfl) (by simp),H,Same.refl _ _⟩
 | m+1,i,st,h,out,hm,hi,hA,H=>by
   have hil:i<l.length:=by omega
   obtain⟨st1,h1,n0,e,H1,S1⟩:=H.slots B hk83 hk hab l[i]
   obtain⟨st2,h2,r2,H2,S2⟩:=ylR B hk83 hk hab (al:=al) hl hbl m (i+1) st1 h1 _ (by omega) (by omega) (hA.same S1 hbl) H1
   rw[A8 hil,Bn,yha]
   refine⟨st2,h2,Run.loopN (you hA (by simp[hil]) (by omega) H.R H1.R e H.A.sh) ?_,H2,S1.trans S2⟩
   have:(env28b L ah al h1 (i+1)).keep [0,1,3,9,11]=env28b L ah al h1 (i+1):=by simp[env28b,HEnv.keep]
   rw[this];exact r2
theorem yow{st st':HSt}{h h':HV}{i:Nat}{v:Int}{out out':List Int}(hv:out[i]? = some v)(hrs:out.length<100000)(R:RowI base st h out)(R':RowI base st' h' out'){n0:Nat}(e83:∀n,n0<=n->evHF C0 K TH n 83 [hL L,ah,hI v,h] st=some (h',st'))(hah:Sh ah):
 Run C0 K TH h28l2 (env28c L ah h i,st) .norm (env28c L ah h' (i+1),st'):=by
 have hil:i<out.length:=(Ad.1 hv).1
 have hil':(i:Int)<out.length:=by omega
 have w:=wrN (i:=i) (by omega)
 have hv':evHF C0 K TH (n0+60) 83 [hL L,ah,.p (.int .i64 v),h] st=some (h',st'):=e83 _ (by omega)
 rcases R with⟨rfl,_⟩|⟨b,hne,hb,rfl,hst⟩
 ·simp at hil
 ·have i1:i+1<=out.length:=by omega
  have c3:(out.map fun n=>HV.p (.int .i64 n))[i]? = some (hI v):=by simp[hv]
  obtain⟨cs0,hcs⟩:∃cs,(out.map fun n=>HV.p (.int .i64 n))=cs:=⟨_,rfl⟩
  have c4:cs0.length=out.length:=by rw[←hcs];simp
  rw[hcs] at hst c3
  rcases R'.sh with rfl|⟨b2,q2,rfl⟩ <;> rcases hah with⟨q,cs,rfl⟩|⟨b',o,q,z,rfl⟩
  all_goals
   refine Run.of (n0+60) ?_
   simp (config:={ maxSteps:=4000000 }) [↓yg,↓yc,yl,-getElem?_pos,Ah,Ai,yx,yA,ye,yd,yp,yj,yu,yk,yw,h28l2,env28c,hil,hil',c3,c4,i1,w,hst,hv']
theorem yox{st:HSt}{h:HV}{out:List Int}{i:Nat}(hi:i=out.length)(R:RowI base st h out):Run C0 K TH h28l2 (env28c L ah h i,st) (.exit 4) ([(9,h)],st):=by
 subst hi
 rcases R with⟨rfl,rfl⟩|⟨b,hne,hb,rfl,hst⟩
 all_goals
  refine Run.of 60 ?_
  simp (config:={ maxSteps:=4000000 }) [↓yg,↓yc,yl,h28l2,env28c]
theorem ylS(B:KPu K)(hk83:∀ws st,K 83 ws st = .none)(hk:Lk ars ws L)(hab:∀b,ah = .row b 0 ars.length 3->b<base):∀(k i:Nat) (st:HSt) (h:HV) (out:List Int),L.length+1<=k+i->i<=out.length->RW base ah ars L st h out ->
 ∃st' h',Run C0 K TH (.loop h28l2 [0,1,9,12]) (env28c L ah h i,st) (.exit 4) ([(9,h')],st')/\RW base ah ars L st' h' (bfs L ars k i out)/\Same base st st'
 | 0,i,st,h,out,hm,hi,H=>by
   have:=H.ok.le
   omega
 | k+1,i,st,h,out,hm,hi,H=>by
   have hle:=H.ok.le
   have hlk:=hk.len
   by_cases hil:i<out.length
   ·have hv:out[i]? = some out[i]:=by simp[hil]
    obtain⟨st1,h1,n0,e,H1,S1⟩:=H.slots B hk83 hk hab out[i]
    simp only[bfs,hv]
    obtain⟨r1,hr1⟩:=ya9 ars (ptrsAt L out[i]) out
    obtain⟨st2,h2,r,H2,S2⟩:=ylS B hk83 hk hab k (i+1) st1 h1 _ (by omega) (by rw[hr1];simp;omega) H1
    refine⟨st2,h2,Run.loopN (yow hv (by omega) H.R H1.R e H.A.sh) ?_,H2,S1.trans S2⟩
    have:(env28c L ah h1 (i+1)).keep [0,1,9,12]=env28c L ah h1 (i+1):=by simp[env28c,HEnv.keep]
    rw[this];exact r
   ·have:out[i]? = none:=B4 (by omega)
    simp only[bfs,this]
    exact⟨st,h,Run.loopX (yox (by omega) H.R) (by simp),H,Same.refl _ _⟩
theorem e28(B:KPu K)(hk28:∀ws st,K 28 ws st = .none)(hk83:∀ws st,K 83 ws st = .none){st:HSt}(hk:Lk ars ws L){ah:HV}(hA:AreasAt st ah ars){rs:List Int}(hrs:rs.length<80000)(hro:∀p∈rs,AddrOk L p){al:HV}{l:List Int}(hal:IntsAt st al l)(hl:l.length<80000):
 ∃st' n0 h,(∀n,n0<=n->evHF C0 K TH n 28 [hL L,ah,hN rs,al] st=some (h,st'))/\RowI st.length st' h (live L ars rs l)/\Same st.length st st':=by
 have hab:∀b,ah = .row b 0 ars.length 3->b<st.length:=fun b e=>by
  rcases hA with h|⟨b',h1,h2⟩
  ·rw[h] at e;cases e
  ·rw[h1] at e;cases e;exact (Ad.1 h2).1
 have hbl:∀b,al = .row b 0 l.length 1->b<st.length:=fun b e=>by
  rcases hal with⟨h,_⟩|h|⟨b',h1,h2⟩
  ·rw[h] at e;cases e
  ·rw[h] at e;cases e
  ·rw[h1] at e;cases e;exact (Ad.1 h2).1
 obtain⟨st1,h1,r1,H1,S1⟩:=ylQ B hk hab (al:=al) hrs hro rs.length 0 st (.p .nils) [] (by omega) (by omega) ⟨hA,.inl ⟨rfl,rfl⟩,OutOk.nil _ _,Av _⟩
 rw[A5] at H1
 obtain⟨st2,h2,r2,H2,S2⟩:=ylR B hk83 hk hab (al:=al) hl hbl l.length 0 st1 h1 _ (by omega) (by omega) (hal.same S1 hbl) H1
 rw[A5] at H2
 obtain⟨st3,h3,r3,H3,S3⟩:=ylS B hk83 hk hab (L.length+1) 0 st2 h2 _ (by omega) (by omega) H2
 obtain⟨n1,hn1⟩:=Run.all r1
 obtain⟨n2,hn2⟩:=Run.all r2
 obtain⟨n3,hn3⟩:=Run.all r3
 have hn1':=fun j k=>hn1 (n1+n2+n3+j) (n1+n2+n3+k) (by omega) (by omega)
 have hn2':=fun j k=>hn2 (n1+n2+n3+j) (n1+n2+n3+k) (by omega) (by omega)
 have hn3':=fun j k=>hn3 (n1+n2+n3+j) (n1+n2+n3+k) (by omega) (by omega)
 have z0:((0:Nat):Int)=0:=rfl
 simp only[env28a,env28b,env28c,hI,z0] at hn1' hn2' hn3'
 refine⟨st3,n1+n2+n3+60,h3,fun n hn=>yz hn _ _ _ _ (yD (n:=n1+n2+n3+59) hk28 (x:=h28) rfl rfl ?_),H3.R,S1.trans (S2.trans S3)⟩
 rcases H1.R.sh with rfl|⟨b1,q1,rfl⟩ <;> rcases H2.R.sh with rfl|⟨b2,q2,rfl⟩ <;> rcases H3.R.sh with rfl|⟨b3,q3,rfl⟩
 all_goals simp (config:={ maxSteps:=4000000 }) [↓yg,↓yc,yl,h28,hn1',hn2',hn3']
open Go
def slN(L:List r26_Object)(p:Int):Nat:=match objAt L p with
 | some o=>o.Slots.length
 | none=>0
def tos(L:List r26_Object):Int->List Int->List Int
 | _,[]=>[]
 | t,p::r=>t::tos L (t+1+slN L p) r
def endT(L:List r26_Object):Int->List Int->Int
 | t,[]=>t
 | t,p::r=>endT L (t+1+slN L p) r
def mvd:List Int->List Int->Int->Int
 | p::ps,t::ts,q=>if p=q then t else mvd ps ts q
 | _,_,q=>q
def cpy(L:List r26_Object)(t p:Int):r26_Object:=match objAt L p with
 | some o=>⟨t,o.Shape,o.Slots⟩
 | none=>⟨t,⟨0,0⟩,[]⟩
def cps(L:List r26_Object):Int->List Int->List r26_Object
 | _,[]=>[]
 | t,p::r=>cpy L t p::cps L (t+1+slN L p) r
variable {L:List r26_Object}
theorem yfH:∀(d:List Int) (t:Int),(tos L t d).length=d.length
 | [],_=>rfl
 | p::r,t=>by simp[tos,yfH r]
theorem ybH:∀(d:List Int) (t:Int),(cps L t d).length=d.length
 | [],_=>rfl
 | p::r,t=>by simp[cps,ybH r]
theorem yhd:∀(d e:List Int) (t:Int),tos L t (d++e)=tos L t d++tos L (endT L t d) e
 | [],e,t=>rfl
 | p::r,e,t=>by simp[tos,endT,yhd r]
theorem yhe:∀(d e:List Int) (t:Int),cps L t (d++e)=cps L t d++cps L (endT L t d) e
 | [],e,t=>rfl
 | p::r,e,t=>by simp[cps,endT,yhe r]
theorem ycW:∀(d e:List Int) (t:Int),endT L t (d++e)=endT L (endT L t d) e
 | [],e,t=>rfl
 | p::r,e,t=>by simp[endT,ycW r]
theorem ydk:∀(d:List Int) (t:Int),t<=endT L t d
 | [],t=>Ce _
 | p::r,t=>by have:=ydk r (t+1+slN L p);simp only[endT];omega
theorem yhf:∀{d ts:List Int} {q:Int},q∉d->mvd d ts q=q
 | [],ts,q,h=>by cases ts<;>rfl
 | p::r,[],q,h=>rfl
 | p::r,t::ts,q,h=>by
   simp only[Bi,not_or] at h
   simp only[mvd]
   rw[if_neg (fun e=>h.1 e.symm)]
   exact yhf h.2
theorem ylT:∀{d:List Int} (e ts:List Int) {us:List Int} {q:Int},d.length=us.length->q∈d->mvd (d++e) (us++ts) q=mvd d us q
 | p::r,e,ts,u::us,q,hl,h=>by
   simp only[Bx,mvd]
   by_cases hp:p=q
   ·rw[if_pos hp,if_pos hp]
   ·rw[if_neg hp,if_neg hp]
    exact ylT e ts (by simpa using hl) ((Bi.1 h).resolve_left fun e=>hp e.symm)
theorem ylU:∀{d us:List Int} {q t:Int},d.length=us.length->q∉d->mvd (d++[q]) (us++[t]) q=t
 | [],[],q,t,_,_=>by simp[mvd]
 | p::r,u::us,q,t,hl,h=>by
   simp only[Bi,not_or] at h
   simp only[Bx,mvd]
   rw[if_neg (fun e=>h.1 e.symm)]
   exact ylU (by simpa using hl) h.2
theorem ylV:∀{d:List Int} {t q:Int},0<t->q∈d->0<mvd d (tos L t d) q
 | p::r,t,q,ht,h=>by
   simp only[tos,mvd]
   by_cases hp:p=q
   ·rw[if_pos hp];exact ht
   ·rw[if_neg hp]
    exact ylV (by omega) ((Bi.1 h).resolve_left fun e=>hp e.symm)
theorem ynu:∀{d:List Int} {t q:Int},q∈d->mvd d (tos L t d) q<endT L t d
 | p::r,t,q,h=>by
   simp only[tos,mvd,endT]
   by_cases hp:p=q
   ·rw[if_pos hp];have:=ydk (L:=L) r (t+1+slN L p);omega
   ·rw[if_neg hp]
    exact ynu ((Bi.1 h).resolve_left fun e=>hp e.symm)
abbrev mv(L:List r26_Object)(t:Int)(d:List Int)(q:Int):Int:=mvd d (tos L t d) q
theorem ynv{t:Int}{d e:List Int}{q:Int}(h:q∈d):mv L t (d++e) q=mv L t d q:=by
 unfold mv
 rw[yhd]
 exact ylT e _ (yfH d t).symm h
theorem ynw{t:Int}{d:List Int}{q:Int}(h:q∉d):mv L t (d++[q]) q=endT L t d:=by
 unfold mv
 rw[yhd]
 exact ylU (yfH d t).symm h
theorem yi5(t p:Int):keyOf (cpy L t p)=(t,slN L p):=by
 unfold cpy slN keyOf
 cases objAt L p<;>rfl
theorem ynx{t p:Int}{o:r26_Object}(h:objAt L p=some o):cpy L t p=⟨t,o.Shape,o.Slots⟩:=by unfold cpy;rw[h]
theorem yiq{p:Int}{o:r26_Object}(h:objAt L p=some o):slN L p=o.Slots.length:=by unfold slN;rw[h]
structure MVI (L:List r26_Object) (ars:List Area) (t0 hi:Int) (ws done:List Int) (NL:List r26_Object):Prop where
 ok:∀o∈NL,ObjOk ws o
 un:∀o∈L,inAny ars o.At=true->o.At∉done->ObjOk ws o
 fw:∀p∈done,ws[p.toNat]? = some (-(mv L t0 done p))
 ap:(NL.map keyOf++(L.filter fun o=>inAny ars o.At).map keyOf).Pairwise Apart
 out:∀k∈NL.map keyOf++(L.filter fun o=>inAny ars o.At).map keyOf,0<k.1/\(k.1+1+k.2<=endT L t0 done\/hi<=k.1)
 dn:OutOk L ars done
 t0:0<t0
 hw:hi<=ws.length
theorem ycX{ars:List Area}{o:r26_Object}(h:o∈L)(hi:inAny ars o.At=true):keyOf o∈(L.filter fun o=>inAny ars o.At).map keyOf:=
 Bm.2 ⟨o,B7.2 ⟨h,hi⟩,rfl⟩
structure Blit (ws ws':List Int) (p t n:Nat):Prop where
 len:ws'.length=ws.length
 get:∀j:Nat,ws'[j]? = if j=p then some (-(t:Int)) else if t<=j/\j<t+n then ws[p+(j-t)]? else ws[j]?
theorem MVI.copy{ars:List Area}{t0 hi:Int}{ws ws' done:List Int}{NL:List r26_Object}(H:MVI L ars t0 hi ws done NL)(hapL:(L.map keyOf).Pairwise Apart){o:r26_Object}(ho:o∈L)(hin:inAny ars o.At=true)(hnd:o.At∉done)(hroom:endT L t0 done+1+o.Slots.length<=hi)
 (hB:Blit ws ws' o.At.toNat (endT L t0 done).toNat (1+o.Slots.length)):MVI L ars t0 hi ws' (done++[o.At]) (NL++[cpy L (endT L t0 done) o.At]):=by
 have hoa:=yaQ hapL ho
 have hc:=ynx (t:=endT L t0 done) hoa
 have hsl:=yiq hoa
 have hok:=H.un o ho hin hnd
 have hkf:=ycX ho hin
 have hko:=H.out _ (B3 _ hkf)
 simp only[keyOf] at hko
 have ht0:=ydk (L:=L) done t0
 have h00:=H.t0
 have hend:endT L t0 (done++[o.At])=endT L t0 done+1+o.Slots.length:=by rw[ycW];simp only[endT];rw[hsl]
 have hw:=H.hw
 have hnew:∀k∈NL.map keyOf++(L.filter fun o=>inAny ars o.At).map keyOf,Apart k (endT L t0 done,o.Slots.length):=fun k hk=>by
  have:=H.out k hk
  simp only[Apart];omega
 have other:∀o2:r26_Object,0<o2.At->Apart (keyOf o2) (keyOf o)->Apart (keyOf o2) (endT L t0 done,o.Slots.length)->ObjOk ws o2->ObjOk ws' o2:=fun o2 h0 h1 h2 h3=>by
  simp only[Apart,keyOf] at h1 h2
  refine h3.ext (by omega) fun j hj1 hj2=>?_
  rw[hB.get,if_neg (by omega),if_neg (by omega)]
 refine⟨fun o2 h2=>?_,fun o2 h2 hi2 hn2=>?_,fun p hp=>?_,?_,fun k hk=>?_,?_,H.t0,by rw[hB.len];exact hw⟩
 ·rcases Bl.1 h2 with h2|h2
  ·have hk2:keyOf o2∈NL.map keyOf:=Bm.2 ⟨o2,h2,rfl⟩
   have hk2':=Bz ((L.filter fun o=>inAny ars o.At).map keyOf) hk2
   exact other o2 (H.out _ hk2').1 ((Ca.1 H.ap).2.2 _ hk2 _ hkf) (hnew _ hk2') (H.ok o2 h2)
  ·rw[Be] at h2
   rw[h2,hc]
   have hlen:=hok.len
   refine⟨hok.sh,hok.len,?_,fun i v hv=>?_⟩
   ·rw[hB.get,if_neg (by simp only;omega),if_pos (by simp only;omega)]
    simp only[Nat.sub_self,Nat.add_zero]
    exact hok.hd
   ·have hil:i<o.Slots.length:=(Ad.1 hv).1
    simp only at hv ⊢
    rw[hB.get,if_neg (by omega),if_pos (by omega)]
    rw[show o.At.toNat+((endT L t0 done).toNat+1+i-(endT L t0 done).toNat)=o.At.toNat+1+i by omega]
    exact hok.sl i v hv
 ·simp only[Bl,Be,not_or] at hn2
  have hk2:=ycX h2 hi2
  have hk2':=B3 (NL.map keyOf) hk2
  obtain⟨i,hi'⟩:=Bp h2
  obtain⟨j,hj'⟩:=Bp ho
  have hne:i≠j:=fun e=>by subst e;rw[hi'] at hj';cases hj';exact hn2.2 rfl
  have h1:=ydM hapL (i:=i) (j:=j) (by rw[B0,hi'];rfl) (by rw[B0,hj'];rfl) hne
  exact other o2 (H.out _ hk2').1 h1 (hnew _ hk2') (H.un o2 h2 hi2 hn2.1)
 ·rcases Bl.1 hp with hp|hp
  ·rw[ynv hp,hB.get]
   obtain⟨hpi,o2,ho2,hat⟩:=H.dn.mem p hp
   subst hat
   have hk2:=ycX ho2 hpi
   have hk2':=B3 (NL.map keyOf) hk2
   have h3:=hnew _ hk2'
   have h4:=(H.out _ hk2').1
   simp only[Apart,keyOf] at h3 h4
   have hne:o2.At≠o.At:=fun e=>hnd (e▸hp)
   rw[if_neg (by omega),if_neg (by omega)]
   exact H.fw _ hp
  ·rw[Be] at hp;subst hp
   rw[ynw hnd,hB.get,if_pos rfl,Int.toNat_of_nonneg (by omega)]
 ·rw[Ck,A4]
  have e:List.map keyOf [cpy L (endT L t0 done) o.At]=[(endT L t0 done,o.Slots.length)]:=by simp[yi5,hsl]
  rw[e]
  obtain⟨a1,a2,a3⟩:=Ca.1 H.ap
  refine Ca.2 ⟨a1,Ca.2 ⟨by simp,a2,fun a ha b hb=>?_⟩,fun a ha b hb=>?_⟩
  ·rw[Be] at ha;subst ha
   exact (hnew b (B3 _ hb)).symm
  ·rcases Bl.1 hb with hb|hb
   ·rw[Be] at hb;subst hb
    exact hnew a (Bz _ ha)
   ·exact a3 a ha b hb
 ·rw[hend]
  rw[Ck,A4] at hk
  have e:List.map keyOf [cpy L (endT L t0 done) o.At]=[(endT L t0 done,o.Slots.length)]:=by simp[yi5,hsl]
  rw[e] at hk
  have old:∀k∈NL.map keyOf++(L.filter fun o=>inAny ars o.At).map keyOf,0<k.1/\(k.1+1+k.2<=endT L t0 done+1+o.Slots.length\/hi<=k.1):=fun k hk=>by
   have:=H.out k hk;omega
  rcases Bl.1 hk with hk|hk
  ·exact old k (Bz _ hk)
  ·rcases Bl.1 hk with hk|hk
   ·rw[Be] at hk;subst hk
    simp only;omega
   ·exact old k (B3 _ hk)
 ·exact⟨List.nodup_append.2 ⟨H.dn.nodup,by simp,fun a ha b hb=>by rw[Be] at hb;subst hb;exact fun e=>hnd (e▸ha)⟩,fun q hq=>by
   rcases Bl.1 hq with hq|hq
   ·exact H.dn.mem q hq
   ·rw[Be] at hq;subst hq;exact⟨hin,o,ho,rfl⟩⟩
theorem MVI.turn{ars:List Area}{t0 hi:Int}{ws done:List Int}{NL:List r26_Object}(H:MVI L ars t0 hi ws done NL){q:Nat}{o:r26_Object}(ho:NL[q]? = some o){i:Nat}(hi':i<o.Slots.length)(v:Int):
 MVI L ars t0 hi (ws.set (o.At.toNat+1+i) v) done (NL.set q ⟨o.At,o.Shape,o.Slots.set i v⟩):=by
 obtain⟨hql,hqo⟩:=Ad.1 ho
 have hom:o∈NL:=Bf ho
 have hok:=H.ok o hom
 have ek:(NL.set q ⟨o.At,o.Shape,o.Slots.set i v⟩).map keyOf=NL.map keyOf:=by
  rw[List.map_set]
  apply List.ext_getElem?
  intro j
  rw[List.getElem?_set]
  split
  ·rename_i e;subst e
   rw[if_pos (by simpa using hql),B0,ho]
   simp[keyOf]
  ·rfl
 have hko:keyOf o∈NL.map keyOf:=Bm.2 ⟨o,hom,rfl⟩
 have hko':=Bz ((L.filter fun o=>inAny ars o.At).map keyOf) hko
 have h0:=(H.out _ hko').1
 simp only[keyOf] at h0
 have other:∀o2:r26_Object,0<o2.At->Apart (keyOf o2) (keyOf o)->ObjOk ws o2->ObjOk (ws.set (o.At.toNat+1+i) v) o2:=fun o2 h1 h2 h3=>by
  simp only[Apart,keyOf] at h2
  exact h3.ext (by omega) fun j hj1 hj2=>Ar (by omega)
 obtain⟨a1,a2,a3⟩:=Ca.1 H.ap
 refine⟨fun o2 h2=>?_,fun o2 h2 hi2 hn2=>?_,fun p hp=>?_,by rw[ek];exact H.ap,by rw[ek];exact H.out,H.dn,H.t0,by rw[Ba];exact H.hw⟩
 ·obtain⟨j,hj⟩:=Bp h2
  by_cases e:q=j
  ·subst e
   rw[Bk hql] at hj
   cases hj
   refine⟨hok.sh,by simpa using hok.len,by simp only;rw[Ar (by omega)];exact hok.hd,fun k u hu=>?_⟩
   simp only at hu ⊢
   have hin:o.At.toNat+1+i<ws.length:=(Ad.1 (hok.sl i o.Slots[i] (by simp[hi']))).1
   rw[List.getElem?_set] at hu ⊢
   by_cases e:i=k
   ·subst e;rw[if_pos rfl,if_pos hi'] at hu;rw[if_pos rfl,if_pos hin];exact hu
   ·rw[if_neg e] at hu;rw[if_neg (by omega)];exact hok.sl k u hu
  ·rw[Ar e] at hj
   have hm2:=Bf hj
   have hkm:keyOf o2∈NL.map keyOf:=Bm.2 ⟨o2,hm2,rfl⟩
   have hk2:=Bz ((L.filter fun o=>inAny ars o.At).map keyOf) hkm
   exact other o2 (H.out _ hk2).1 (ydM a1 (i:=j) (j:=q) (by rw[B0,hj];rfl) (by rw[B0,ho];rfl) (fun h=>e h.symm)) (H.ok o2 hm2)
 ·have hk2:=ycX h2 hi2
  exact other o2 (H.out _ (B3 _ hk2)).1 (a3 _ hko _ hk2).symm (H.un o2 h2 hi2 hn2)
 ·obtain⟨hpi,o2,ho2,hat⟩:=H.dn.mem p hp
  subst hat
  have hk2:=ycX ho2 hpi
  have h3:=a3 _ hko _ hk2
  have h4:=(H.out _ (B3 _ hk2)).1
  simp only[Apart,keyOf] at h3 h4
  rw[Ar (by omega)]
  exact H.fw _ hp
theorem yjU{t:Int}{d r:List Int}{m:Nat}(h:m<=d.length):(cps L t (d++r)).drop m=(cps L t d).drop m++(cps L t (d++r)).drop d.length:=by
 rw[yhe,List.drop_append_of_le_length (by rw[ybH];exact h)]
 congr 1
 rw[List.drop_append_of_le_length (by rw[ybH];exact Av _),←ybH (L:=L) d t,Bw,Bt]
theorem ydN{t:Int}(d r:List Int):endT L t d<=endT L t (d++r):=by rw[ycW];exact ydk _ _
def trn(L:List r26_Object)(t:Int)(F:List Int)(x:Shape):Nat->Nat->List Int->List Int
 | _,_,[]=>[]
 | i,n,v::r=>(if i<n/\ptB x i=true then mv L t F v else v)::trn L t F x (i+1) n r
theorem yi6{t:Int}{F:List Int}{x:Shape}{n:Nat}:∀(os:List Int) (i:Nat),(trn L t F x i n os).length=os.length
 | [],_=>rfl
 | v::r,i=>by simp[trn,yi6 r]
theorem ydl{t:Int}{F:List Int}{x:Shape}{n:Nat}:∀(os:List Int) (i j:Nat),(trn L t F x i n os)[j]? = (os[j]?).map fun v=>if i+j<n/\ptB x (i+j:Nat)=true then mv L t F v else v
 | [],i,j=>by simp[trn]
 | v::r,i,0=>by simp[trn]
 | v::r,i,j+1=>by
   simp only[trn,Ai]
   rw[ydl r (i+1) j,show i+1+j=i+(j+1) by omega]
theorem ymW{t:Int}{F:List Int}{x:Shape}(os:List Int):trn L t F x 0 0 os=os:=by
 apply List.ext_getElem?
 intro j
 rw[ydl]
 simp
theorem yjV{t:Int}{F:List Int}{x:Shape}{os:List Int}{n:Nat}{v:Int}(hv:os[n]? = some v):trn L t F x 0 (n+1) os = if ptB x n=true then (trn L t F x 0 n os).set n (mv L t F v) else trn L t F x 0 n os:=by
 apply List.ext_getElem?
 intro j
 have hl:n<os.length:=(Ad.1 hv).1
 split
 ·rename_i hb
  rw[List.getElem?_set,ydl,ydl,yi6]
  by_cases e:n=j
  ·subst e;rw[if_pos rfl,if_pos hl,hv];simp[hb]
  ·rw[if_neg e]
   cases os[j]? with
   | none=>rfl
   | some u=>
     simp only[An,Az]
     by_cases h:j<n
     ·simp[h,show j<n+1 by omega]
     ·simp[h,show ¬j<n+1 by omega]
 ·rename_i hb
  rw[ydl,ydl]
  cases os[j]? with
  | none=>rfl
  | some u=>
    simp only[An,Az]
    by_cases e:n=j
    ·subst e;simp[hb]
    ·by_cases h:j<n
     ·simp[h,show j<n+1 by omega]
     ·simp[h,show ¬j<n+1 by omega]
open Go
set_option maxRecDepth 10000
set_option maxHeartbeats 4000000
variable {K:HCalls}
def setI:List Int->Nat->List Int->List Int
 | ws,_,[]=>ws
 | ws,i,y::ys=>setI (ws.set i y) (i+1) ys
theorem yeL:∀(ys ws:List Int) (i:Nat),(setI ws i ys).length=ws.length
 | [],_,_=>rfl
 | y::ys,ws,i=>by simp[setI,yeL ys]
theorem yjW:∀(ys ws:List Int) (i:Nat),setCellsH (ws.map fun n=>.p (.int .i64 n)) i (ys.map fun n=>.p (.int .i64 n))=(setI ws i ys).map fun n=>.p (.int .i64 n)
 | [],_,_=>rfl
 | y::ys,ws,i=>by
   have:=yjW ys (ws.set i y) (i+1)
   rw[List.map_set] at this
   simpa[setI,setCellsH] using this
theorem yjX:∀(ys ws:List Int) (i j:Nat),i+ys.length<=ws.length->(setI ws i ys)[j]? = if i<=j/\j<i+ys.length then ys[j-i]? else ws[j]?
 | [],ws,i,j,h=>by rw[setI,if_neg (by simp only[Cc];omega)]
 | y::ys,ws,i,j,h=>by
   simp only[Bv] at h ⊢
   rw[setI,yjX ys (ws.set i y) (i+1) j (by simp;omega)]
   by_cases h1:i+1<=j/\j<i+1+ys.length
   ·rw[if_pos h1,if_pos (by omega),show j-i=(j-(i+1))+1 by omega,Ai]
   ·rw[if_neg h1,List.getElem?_set]
    by_cases h2:i=j
    ·subst h2;rw[if_pos rfl,if_pos (by omega),if_pos (by omega)];simp
    ·rw[if_neg h2,if_neg (by omega)]
theorem yqB(B:KB K){st:HSt}{sp wb pm:Nat}{ws:List Int}(S:SpaceAt st sp wb ws)(hws:ws.length<1000000000){ah:HV}{ars:List Area}(A:AreasAt st ah ars)(has:ars.length<1000){tlo thi tnx:Int}(bm:st[pm]? = some (.box [.ptr sp 0,ah,hI tlo,hI thi,hI tnx]))(p:Int)(hin:inAny ars p=false):
 ∃g n0,∀n,n0<=n->evHF C0 K TH n 70 [.ptr pm 0,hI p] st=some (hI p,st++g):=by
 have lm:=(Ad.1 bm).1
 have hinf:InFn K 115:=fun st p at' hp a n=>yqA (B.no 115 rfl) B.toKPu hp a n
 obtain⟨g,n0,f78⟩:=e78 (K:=K) ⟨B.no 78 rfl,B.no 116 rfl⟩ (A.app [.box [hI p]]) has (p:=st.length) (at':=p) hinf (by rw[yy];rfl)
 have e78':∀k,evHF C0 K TH (n0+k) 78 [ah,.fn 115 [.ptr st.length 0]] (st++[.box [hI p]])=some (.p (.bool (inAny ars p)),st++(.box [hI p]::g)):=fun k=>by
  have:=f78 (n0+k) (by omega)
  rw[A4] at this
  exact this
 rw[hin] at e78'
 refine⟨.box [hI p]::g,n0+60,fun n hn=>yz hn _ _ _ _ (yD (n:=n0+59) (B.no 70 rfl) (x:=h70) rfl rfl ?_)⟩
 rcases A.sh with⟨q,cs,rfl⟩|⟨b,o,q,z,rfl⟩
 ·simp (config:={ maxSteps:=4000000 }) [↓yg,↓yc,yl,-getElem?_pos,Ah,Ai,yx,yA,ye,yd,yp,yj,yu,yk,yw,h70,e78',bm,lm]
 ·simp (config:={ maxSteps:=4000000 }) [↓yg,↓yc,yl,-getElem?_pos,Ah,Ai,yx,yA,ye,yd,yp,yj,yu,yk,yw,h70,e78',bm,lm]
theorem yqC(B:KB K){st:HSt}{sp wb pm:Nat}{ws:List Int}(S:SpaceAt st sp wb ws)(hws:ws.length<1000000000){ah:HV}{ars:List Area}(A:AreasAt st ah ars)(has:ars.length<1000){tlo thi tnx:Int}(bm:st[pm]? = some (.box [.ptr sp 0,ah,hI tlo,hI thi,hI tnx]))(a:Nat)(hin:inAny ars a=true){t:Int}(ht:0<t/\t<1000000000)(hw:ws[a]? = some (-t)):
 ∃g n0,∀n,n0<=n->evHF C0 K TH n 70 [.ptr pm 0,hI a] st=some (hI t,st++g):=by
 have lm:=(Ad.1 bm).1
 obtain⟨ls,lw,_⟩:=S.lt
 have s1:=S.s
 have s2:=S.w
 have hal:=(Ad.1 hw).1
 have hal':(a:Int)<ws.length:=by omega
 have i1:a+1<=ws.length:=by omega
 have hneg:-t<0:=by omega
 have w1:IntKind.i64.wrap (- -t)=t:=by rw[yK (by omega)];omega
 have w2:IntKind.i64.wrap t=t:=yK (by omega)
 have hinf:InFn K 115:=fun st p at' hp a n=>yqA (B.no 115 rfl) B.toKPu hp a n
 obtain⟨g,n0,f78⟩:=e78 (K:=K) ⟨B.no 78 rfl,B.no 116 rfl⟩ (A.app [.box [hI a]]) has (p:=st.length) (at':=a) hinf (by rw[yy];rfl)
 have e78':∀k,evHF C0 K TH (n0+k) 78 [ah,.fn 115 [.ptr st.length 0]] (st++[.box [hI a]])=some (.p (.bool (inAny ars a)),st++(.box [hI a]::g)):=fun k=>by
  have:=f78 (n0+k) (by omega)
  rw[A4] at this
  exact this
 rw[hin] at e78'
 refine⟨.box [hI a]::g,n0+60,fun n hn=>yz hn _ _ _ _ (yD (n:=n0+59) (B.no 70 rfl) (x:=h70) rfl rfl ?_)⟩
 rcases A.sh with⟨q,cs,rfl⟩|⟨b,o,q,z,rfl⟩
 ·simp (config:={ maxSteps:=4000000 }) [↓yg,↓yc,yl,-getElem?_pos,Ah,Ai,yx,yA,ye,yd,yp,yj,yu,yk,yw,h70,e78',bm,lm,ls,lw,s1,s2,hal,hal',i1,hw,ht.1,hneg,w1,w2]
 ·simp (config:={ maxSteps:=4000000 }) [↓yg,↓yc,yl,-getElem?_pos,Ah,Ai,yx,yA,ye,yd,yp,yj,yu,yk,yw,h70,e78',bm,lm,ls,lw,s1,s2,hal,hal',i1,hw,ht.1,hneg,w1,w2]
theorem yqD(B:KB K){st:HSt}{sp wb pm:Nat}{ws:List Int}(S:SpaceAt st sp wb ws)(hpm:¬wb=pm/\¬pm=sp/\¬pm=wb/\¬sp=pm/\¬wb=sp)(hws:ws.length<1000000000){ah:HV}{ars:List Area}(A:AreasAt st ah ars)(has:ars.length<1000){tlo thi:Int}{t:Nat}(bm:st[pm]? = some (.box [.ptr sp 0,ah,hI tlo,hI thi,hI t]))(a:Nat)(hin:inAny ars a=true){x:Shape}(hx:OkSh x)(hhd:ws[a]? = some (hdB x)){s:Nat}(hs:x.Slots=s)(ha0:0<a)(ha1:a+1+s<=ws.length)(ht0:0<t)(ht1:t+1+s<=ws.length):
 ∃G R1 n0,∀n,n0<=n->evHF C0 K TH n 70 [.ptr pm 0,hI a] st=some (hI t,((st.set wb R1).set pm (.box [.ptr sp 0,ah,hI tlo,hI thi,hI (t+(1+s))])).set wb (.row 1 ws.length (((setI ws t ((ws.drop a).take (1+s))).set a (-(t:Int))).map fun n=>.p (.int .i64 n)))++G):=by
 have lm:=(Ad.1 bm).1
 obtain⟨ls,lw,_⟩:=S.lt
 have s1:=S.s
 have s2:=S.w
 obtain⟨p1,p2,p3,p4,p5⟩:=hpm
 have hal:=(Ad.1 hhd).1
 have hal':(a:Int)<ws.length:=by omega
 have i1:a+1<=ws.length:=by omega
 have h16:=hx.2.1
 have hhp:=(yps hx).1
 have hneg:¬hdB x<0:=by omega
 have w1:IntKind.i64.wrap ((a:Int)+1)=(a:Int)+1:=yK (by omega)
 obtain⟨e,he⟩:∃e,a+1+s=e:=⟨_,rfl⟩
 have w2:IntKind.i64.wrap ((a:Int)+1+s)=(e:Int):=by rw[yK (by omega)];omega
 have w3:IntKind.i64.wrap (1+(s:Int))=1+(s:Int):=yK (by omega)
 have w4:IntKind.i64.wrap ((t:Int)+(1+s))=(t:Int)+(1+s):=yK (by omega)
 have w5:IntKind.i64.wrap (-(t:Int)) = -(t:Int):=yK (by omega)
 have e22:∀n (X:HSt),X[sp]? = some (.box [.row wb 0 ws.length 1])->X[wb]? = some (.row 1 ws.length (ws.map fun n=>.p (.int .i64 n)))->evHF C0 K TH (n+30) 22 [.ptr sp 0,hI a] X=some (.p (.tup [.agg [.int .i64 s,.int .i64 x.Mask],.int .i64 0]),X++[.box [hI s,hI x.Mask]]):=fun n X h1 h2=>by
  have:=e22 B ⟨h1,h2⟩ a (by omega) hx hhd n
  rw[←hs];exact this
 have hinf:InFn K 115:=fun st p at' hp a n=>yqA (B.no 115 rfl) B.toKPu hp a n
 obtain⟨g,n0,f78⟩:=e78 (K:=K) ⟨B.no 78 rfl,B.no 116 rfl⟩ (A.app [.box [hI a]]) has (p:=st.length) (at':=a) hinf (by rw[yy];rfl)
 have e78':∀k,evHF C0 K TH (n0+k) 78 [ah,.fn 115 [.ptr st.length 0]] (st++[.box [hI a]])=some (.p (.bool (inAny ars a)),st++(.box [hI a]::g)):=fun k=>by
  have:=f78 (n0+k) (by omega)
  rw[A4] at this
  exact this
 rw[hin] at e78'
 have c1:t<ws.length:=by omega
 have c2:t<=ws.length:=by omega
 have c3:¬t=0:=by omega
 have c4:¬a=0:=by omega
 have c5:a<e:=by omega
 have c6:a<=e:=by omega
 have c7:e<=ws.length:=by omega
 have d1:min (e-a) (ws.length-a)=e-a:=by omega
 have d2:min (ws.length-t) (e-a)=e-a:=by omega
 obtain⟨ys,hys⟩:∃ys,(ws.drop a).take (e-a)=ys:=⟨_,rfl⟩
 have d4:((ws.map fun n=>HV.p (.int .i64 n)).drop a).take (e-a)=ys.map fun n=>.p (.int .i64 n):=by rw[←List.map_drop,←List.map_take,hys]
 have d5:=yjW ys ws t
 have d6:ys.length=e-a:=by rw[←hys];simp;omega
 obtain⟨w1s,hw1s⟩:∃w1s,setI ws t ys=w1s:=⟨_,rfl⟩
 have d7:w1s.length=ws.length:=by rw[←hw1s,yeL]
 rw[hw1s] at d5
 have d8:(ys.map fun n=>HV.p (.int .i64 n)).take (e-a)=ys.map fun n=>.p (.int .i64 n):=Aw (by simp;omega)
 rw[show 1+s=e-a by omega,hys,hw1s]
 apply Exists.intro
 apply Exists.intro
 refine⟨n0+60,fun n hn=>yz hn _ _ _ _ (yD (n:=n0+59) (B.no 70 rfl) (x:=h70) rfl rfl ?_)⟩
 rcases A.sh with⟨q,cs,rfl⟩|⟨b,o,q,z,rfl⟩
 ·simp (config:={ maxSteps:=4000000 }) [↓yg,↓yc,yl,-getElem?_pos,Ah,Ai,yx,yA,ye,yd,yp,yj,yu,yk,yw,h70,e78',bm,lm,ls,lw,s1,s2,hal,hal',i1,hhd,hneg,d1,d2,d4,d5,d6,d7,d8,w1,w2,w3,w4,w5,e22,p1,p2,p3,p4,p5,c1,c2,c3,c4,c5,c6,c7,List.map_set]
  all_goals exact rfl
 ·simp (config:={ maxSteps:=4000000 }) [↓yg,↓yc,yl,-getElem?_pos,Ah,Ai,yx,yA,ye,yd,yp,yj,yu,yk,yw,h70,e78',bm,lm,ls,lw,s1,s2,hal,hal',i1,hhd,hneg,d1,d2,d4,d5,d6,d7,d8,w1,w2,w3,w4,w5,e22,p1,p2,p3,p4,p5,c1,c2,c3,c4,c5,c6,c7,List.map_set]
  all_goals exact rfl
theorem yoy{ws:List Int}{a t n:Nat}(h1:a+n<=ws.length)(h2:t+n<=ws.length)(h3:a<ws.length):Blit ws ((setI ws t ((ws.drop a).take n)).set a (-(t:Int))) a t n:=by
 have hl:((ws.drop a).take n).length=n:=by simp;omega
 refine⟨by rw[Ba,yeL],fun j=>?_⟩
 rw[List.getElem?_set,yeL,yjX _ _ _ _ (by rw[hl];exact h2),hl]
 by_cases e:a=j
 ·subst e;rw[if_pos rfl,if_pos h3,if_pos rfl]
 ·rw[if_neg e,if_neg (show ¬j=a from fun h=>e h.symm)]
  by_cases h:t<=j/\j<t+n
  ·rw[if_pos h,if_pos h,List.getElem?_take,if_pos (by omega),List.getElem?_drop]
  ·rw[if_neg h,if_neg h]
structure MS (base pm sp wb:Nat) (ah:HV) (ars:List Area) (L:List r26_Object) (tlo thi t0 hi:Int) (st:HSt) (ws done:List Int) (NL:List r26_Object):Prop where
 S:SpaceAt st sp wb ws
 A:AreasAt st ah ars
 bm:st[pm]? = some (.box [.ptr sp 0,ah,hI tlo,hI thi,hI (endT L t0 done)])
 I:MVI L ars t0 hi ws done NL
 ge:base<=st.length
 lo:sp<base/\wb<base/\base<=pm/\∀b,ah = .row b 0 ars.length 3->b<base
 wl:ws.length<1000000000
structure Stay (base wb pm:Nat) (st st':HSt):Prop where
 len:st.length<=st'.length
 low:∀i,i<base->i≠wb->st'[i]? = st[i]?
 box:∀q cs,q≠pm->st[q]? = some (.box cs)->st'[q]? = some (.box cs)
 row:∀q y,q≠wb->q≠pm->st[q]? = some y->st'[q]? = some y
theorem Stay.refl(base wb pm:Nat)(st:HSt):Stay base wb pm st st:=⟨Av _,fun _ _ _=>rfl,fun _ _ _ h=>h,fun _ _ _ _ h=>h⟩
theorem Stay.trans{base wb pm:Nat}{a b c:HSt}(h:Stay base wb pm a b)(h':Stay base wb pm b c):Stay base wb pm a c:=
 ⟨B5 h.len h'.len,fun i h1 h2=>(h'.low i h1 h2).trans (h.low i h1 h2),fun q cs h1 e=>h'.box q cs h1 (h.box q cs h1 e),fun q y h1 h2 e=>h'.row q y h1 h2 (h.row q y h1 h2 e)⟩
theorem Stay.app{base wb pm:Nat}{st:HSt}(h:base<=st.length)(g:HSt):Stay base wb pm st (st++g):=
 ⟨by simp,fun i hi _=>yx (by omega),fun q cs _ e=>by rw[yx (Ad.1 e).1];exact e,fun q y _ _ e=>by rw[yx (Ad.1 e).1];exact e⟩
variable {base pm sp wb:Nat} {ah:HV} {ars:List Area} {L:List r26_Object} {tlo thi t0 hi:Int}
theorem MS.app{st:HSt}{ws done:List Int}{NL:List r26_Object}(H:MS base pm sp wb ah ars L tlo thi t0 hi st ws done NL)(g:HSt):MS base pm sp wb ah ars L tlo thi t0 hi (st++g) ws done NL:=
 ⟨H.S.app g,H.A.app g,by rw[yx (Ad.1 H.bm).1];exact H.bm,H.I,by have:=H.ge;simp;omega,H.lo,H.wl⟩
theorem MS.move(B:KB K)(hz:inAny ars 0=false)(hap:(L.map keyOf).Pairwise Apart)(hhi:hi<1000000000)(has:ars.length<1000){st:HSt}{ws done:List Int}{NL:List r26_Object}(H:MS base pm sp wb ah ars L tlo thi t0 hi st ws done NL){p:Int}(hp:AddrOk L p)(hroom:endT L t0 (mt ars done p)<=hi):
 ∃st' ws' n0,(∀n,n0<=n->evHF C0 K TH n 70 [.ptr pm 0,hI p] st=some (hI (mv L t0 (mt ars done p) p),st'))/\MS base pm sp wb ah ars L tlo thi t0 hi st' ws' (mt ars done p) (NL++(cps L t0 (mt ars done p)).drop done.length)/\ws'.length=ws.length/\Stay base wb pm st st':=by
 obtain⟨S,A,bm,I,ge,⟨lo1,lo2,lo3,lo4⟩,wl⟩:=id H
 have hlen:(cps L t0 done).drop done.length=[]:=by rw[←ybH (L:=L) done t0,Bw]
 cases hin:inAny ars p with
 | false=>
   have hm:mt ars done p=done:=by unfold mt;rw[hin];rfl
   rw[hm,hlen,Br]
   obtain⟨g,n0,e⟩:=yqB B S wl A has bm p hin
   have hnd:p∉done:=fun h=>by have:=(I.dn.mem p h).1;rw[hin] at this;cases this
   have hmv:mv L t0 done p=p:=yhf hnd
   rw[hmv]
   exact⟨st++g,ws,n0,e,H.app g,rfl,Stay.app ge g⟩
 | true=>
   rcases hp with rfl|⟨o,ho,hat⟩
   ·rw[hz] at hin;cases hin
   ·subst hat
    have hk:=I.out _ (B3 _ (ycX ho hin))
    simp only[keyOf] at hk
    obtain⟨a,ha⟩:∃a:Nat,o.At=a:=⟨o.At.toNat,by omega⟩
    by_cases hmem:o.At∈done
    ·have hm:mt ars done o.At=done:=by unfold mt;rw[hin];simp[hmem]
     rw[hm,hlen,Br]
     have hfw:=I.fw _ hmem
     have hpos:=ylV (L:=L) I.t0 hmem
     have hbd:mvd done (tos L t0 done) o.At<1000000000:=by
      have:=ynu (L:=L) (d:=done) (t:=t0) hmem
      rw[hm] at hroom
      omega
     rw[ha,Bq] at hfw
     rw[ha] at hin hpos hbd ⊢
     obtain⟨g,n0,e⟩:=yqC B S wl A has bm a hin ⟨hpos,hbd⟩ hfw
     exact⟨st++g,ws,n0,e,H.app g,rfl,Stay.app ge g⟩
    ·have hm:mt ars done o.At=done++[o.At]:=by unfold mt;rw[hin];simp[hmem]
     rw[hm] at hroom ⊢
     have hoa:=yaQ hap ho
     have hsl:=yiq hoa
     have hend:endT L t0 (done++[o.At])=endT L t0 done+1+o.Slots.length:=by rw[ycW];simp only[endT];rw[hsl]
     rw[hend] at hroom
     have hok:=I.un o ho hin hmem
     have ht0:=ydk (L:=L) done t0
     have h00:=I.t0
     have hw:=I.hw
     obtain⟨t,ht⟩:∃t:Nat,endT L t0 done=t:=⟨(endT L t0 done).toNat,by omega⟩
     have hhd:=hok.hd
     have hl2:=hok.len
     have hext:a+1+o.Slots.length<=ws.length:=by
      have h1:=(Ad.1 hhd).1
      rcases Nat.eq_zero_or_pos o.Slots.length with h0|h0
      ·omega
      ·have:=hok.sl (o.Slots.length-1) o.Slots[o.Slots.length-1] (by simp[h0])
       have:=(Ad.1 this).1
       omega
     rw[ha,Bq] at hhd
     have hlw:=S.lt
     have hpmw:pm≠wb:=by omega
     have bm':=bm
     rw[ht] at bm'
     obtain⟨G,R1,n0,e⟩:=yqD B S ⟨by omega,by omega,by omega,by omega,by omega⟩ wl A has bm' a (by rw[←ha];exact hin) hok.sh hhd (s:=o.Slots.length) hl2.symm (by omega) hext (by omega) (by omega)
     have hbl:=yoy (ws:=ws) (a:=a) (t:=t) (n:=1+o.Slots.length) (by omega) (by omega) (by omega)
     have hJ:=I.copy (ws':=(setI ws t ((ws.drop a).take (1+o.Slots.length))).set a (-(t:Int))) hap ho hin hmem (by omega) (by rw[ha,ht,Bq,Bq];exact hbl)
     have hcp:(cps L t0 (done++[o.At])).drop done.length=[cpy L (endT L t0 done) o.At]:=by
      rw[yhe,List.drop_append_of_le_length (by rw[ybH];exact Av _),hlen];rfl
     rw[hcp]
     have hmv:mv L t0 (done++[o.At]) o.At=t:=by rw[ynw hmem,ht]
     have lm:=(Ad.1 bm).1
     have st_len:(((st.set wb R1).set pm (.box [.ptr sp 0,ah,hI tlo,hI thi,hI (t+(1+(o.Slots.length:Int)))])).set wb (.row 1 ws.length (((setI ws t ((ws.drop a).take (1+o.Slots.length))).set a (-(t:Int))).map fun n=>.p (.int .i64 n)))).length=st.length:=by simp
     have low:∀i y,i≠wb->i≠pm->st[i]? = some y->(((st.set wb R1).set pm (.box [.ptr sp 0,ah,hI tlo,hI thi,hI (t+(1+(o.Slots.length:Int)))])).set wb (.row 1 ws.length (((setI ws t ((ws.drop a).take (1+o.Slots.length))).set a (-(t:Int))).map fun n=>.p (.int .i64 n)))++G)[i]? = some y:=fun i y h1 h2 e=>by
      rw[yx (by rw[st_len];exact (Ad.1 e).1),ye (fun e=>h1 e.symm),ye (fun e=>h2 e.symm),ye (fun e=>h1 e.symm)];exact e
     have stay:Stay base wb pm st (((st.set wb R1).set pm (.box [.ptr sp 0,ah,hI tlo,hI thi,hI (t+(1+(o.Slots.length:Int)))])).set wb (.row 1 ws.length (((setI ws t ((ws.drop a).take (1+o.Slots.length))).set a (-(t:Int))).map fun n=>.p (.int .i64 n)))++G):=by
      refine⟨by simp,fun i hi hn=>?_,fun q cs h1 e=>low q _ (fun h=>?_) h1 e,fun q y h1 h2 e=>low q y h1 h2 e⟩
      ·have hil:i<st.length:=by omega
       rw[low i st[i] hn (by omega) (by simp[hil])];simp[hil]
      ·rw[h,S.w] at e;simp at e
     refine⟨_,_,n0,by rw[hmv,ha];exact e,⟨⟨stay.box _ _ (by omega) S.s |>.trans (by rw[hbl.len]),?_⟩,?_,?_,hJ,B5 ge stay.len,⟨lo1,lo2,lo3,lo4⟩,by rw[hbl.len];exact wl⟩,hbl.len,stay⟩
     ·rw[yx (by rw[st_len];exact hlw.2.1),yd (by simpa using hlw.2.1),hbl.len]
     ·rcases A with h|⟨b,h1,h2⟩
      ·exact .inl h
      ·refine .inr ⟨b,h1,low b _ (fun e=>?_) (fun e=>?_) h2⟩
       ·rw[e,S.w] at h2;simp at h2
       ·rw[e,bm] at h2;simp at h2
     ·rw[yx (by rw[st_len];exact lm),ye (by omega),yd (by simpa using lm),hend,ht]
      simp;omega
open Go
set_option maxRecDepth 10000
set_option maxHeartbeats 4000000
variable {K:HCalls} {base pm sp wb:Nat} {ah:HV} {ars:List Area} {L:List r26_Object} {tlo thi t0 hi:Int}
structure Mk (ars:List Area) (L:List r26_Object) (t0 hi:Int) (F:List Int):Prop where
 z:inAny ars 0=false
 ap:(L.map keyOf).Pairwise Apart
 hb:hi<1000000000
 al:ars.length<1000
 FO:OutOk L ars F
 room:endT L t0 F<=hi
 len:L.length<70000
theorem ylW{F d r:List Int}{v:Int}(hF:F=mt ars d v++r)(hO:OutOk L ars F):mv L t0 F v=mv L t0 (mt ars d v) v:=by
 by_cases h:v∈mt ars d v
 ·rw[hF];exact ynv h
 ·have hin:inAny ars v=false:=by
   cases e:inAny ars v with
   | false=>rfl
   | true=>
     exfalso;apply h
     unfold mt
     by_cases hc:v∈d
     ·simp[e,hc]
     ·simp[e,hc]
  have hF2:v∉F:=fun hh=>by have:=(hO.mem v hh).1;rw[hin] at this;cases this
  show mvd _ _ _=mvd _ _ _
  rw[yhf hF2,yhf h]
theorem ypC(B:KB K){f:Nat}(hf:f=72\/f=73){F:List Int}(M:Mk ars L t0 hi F){p12:Nat}(h12:p12≠wb/\p12≠pm){st:HSt}{ws done:List Int}{NL:List r26_Object}(H:MS base pm sp wb ah ars L tlo thi t0 hi st ws done NL)(b12:st[p12]? = some (.box [.ptr pm 0])){q i:Nat}{o:r26_Object}(ho:NL[q]? = some o){v:Int}(hv:o.Slots[i]? = some v)(hp:AddrOk L v)(hroom:endT L t0 (mt ars done v)<=hi):
 ∃st' ws' n0,(∀n,n0<=n->evHF C0 K TH n f [.ptr wb (o.At.toNat+1+i),.ptr p12 0] st=some (.p (.tup []),st'))/\MS base pm sp wb ah ars L tlo thi t0 hi st' ws' (mt ars done v) ((NL++(cps L t0 (mt ars done v)).drop done.length).set q ⟨o.At,o.Shape,o.Slots.set i (mv L t0 (mt ars done v) v)⟩)/\ws'.length=ws.length/\Stay base wb pm st st':=by
 have hom:=Bf ho
 have hok:=H.I.ok o hom
 have hw:=hok.sl i v hv
 have hil:i<o.Slots.length:=(Ad.1 hv).1
 obtain⟨st1,ws1,n0,e1,H1,hl1,S1⟩:=H.move B M.z M.ap M.hb M.al hp hroom
 obtain⟨j,hj⟩:∃j,o.At.toNat+1+i=j:=⟨_,rfl⟩
 have hql:q<NL.length:=(Ad.1 ho).1
 have hH2:=H1.I.turn (q:=q) (o:=o) (by rw[Aj hql];exact ho) hil (mv L t0 (mt ars done v) v)
 rw[hj] at hw hH2 ⊢
 have hjl:j<ws.length:=(Ad.1 hw).1
 have j1:j+1<=ws.length:=by omega
 have s2:=H.S.w
 have s3:=H1.S.w
 have hlw:=H.S.lt
 have hlw1:=H1.S.lt
 have j2:j+1<=ws1.length:=by omega
 have e1':evHF C0 K TH (n0+59) 70 [.ptr pm 0,.p (.int .i64 v)] st=some (hI (mv L t0 (mt ars done v) v),st1):=e1 _ (by omega)
 obtain⟨u,hu⟩:∃u,mv L t0 (mt ars done v) v=u:=⟨_,rfl⟩
 rw[hu] at e1' hH2 ⊢
 have e3:ws[j]=v:=(Ad.1 hw).2
 refine⟨st1.set wb (.row 1 ws1.length ((ws1.set j u).map fun n=>.p (.int .i64 n))),ws1.set j u,n0+60,fun n hn=>yz hn _ _ _ _ ?_,?_,by rw[Ba,hl1],?_⟩
 ·rcases hf with rfl|rfl
  ·refine yD (n:=n0+59) (B.no 72 rfl) (x:=h72) rfl rfl ?_
   simp (config:={ maxSteps:=4000000 }) [↓yg,↓yc,yl,h72,b12,s2,s3,hw,e3,hjl,j1,j2,e1',List.map_set]
  ·refine yD (n:=n0+59) (B.no 73 rfl) (x:=h73) rfl rfl ?_
   simp (config:={ maxSteps:=4000000 }) [↓yg,↓yc,yl,h73,b12,s2,s3,hw,e3,hjl,j1,j2,e1',List.map_set]
 ·have hpw:pm≠wb:=by have:=H1.lo;omega
  have:=H1.S.set (ws1.set j u) (by simp)
  rw[show wRow (ws1.set j u)=HB.row 1 ws1.length ((ws1.set j u).map fun n=>.p (.int .i64 n)) by simp[wRow]] at this
  refine⟨this,?_,by rw[ye (fun e=>hpw e.symm)];exact H1.bm,hH2,by simpa using H1.ge,H1.lo,by simpa using H1.wl⟩
  rcases H1.A with h|⟨b,h1,h2⟩
  ·exact .inl h
  ·refine .inr ⟨b,h1,?_⟩
   rw[ye (fun e=>by rw[←e,s3] at h2;simp at h2)];exact h2
 ·refine S1.trans ⟨by simp,fun i _ hn=>ye (fun e=>hn e.symm),fun q cs _ e=>?_,fun q y h1 _ e=>by rw[ye (fun e=>h1 e.symm)];exact e⟩
  rw[ye (fun e2=>by rw[←e2,s3] at e;simp at e)];exact e
theorem MS.ptrs(B:KB K){f:Nat}(hf:f=72\/f=73){F:List Int}(M:Mk ars L t0 hi F){p12:Nat}(h12:p12≠wb/\p12≠pm/\base<=p12){st:HSt}{ws done:List Int}{front mid:List r26_Object}{at':Int}{sh:Shape}{os:List Int}{m:Nat}(hm:m<=done.length)
 (H:MS base pm sp wb ah ars L tlo thi t0 hi st ws done (front++⟨at',sh,os⟩::(mid++(cps L t0 done).drop m)))(b12:st[p12]? = some (.box [.ptr pm 0]))(hpo:∀(i:Nat) (v:Int),os[i]? = some v->ptB sh i=true->AddrOk L v)(hF:∃r,F=mtL ars done (ptrsL sh 0 os)++r):
 ∃st' ws' n0,(∀n,n0<=n->evHF C0 K TH n 71 [.ptr sp 0,hI at',.fn f [.ptr p12 0]] st=some (.p (.tup []),st'))/\MS base pm sp wb ah ars L tlo thi t0 hi st' ws' (mtL ars done (ptrsL sh 0 os)) (front++⟨at',sh,trn L t0 F sh 0 os.length os⟩::(mid++(cps L t0 (mtL ars done (ptrsL sh 0 os))).drop m))/\ws'.length=ws.length/\Stay base wb pm st st':=by
 have hom:(⟨at',sh,os⟩:r26_Object)∈front++⟨at',sh,os⟩::(mid++(cps L t0 done).drop m):=by simp
 have o1:=H.I.ok _ hom
 have h0:=(H.I.out _ (Bz _ (Bm.2 ⟨_,hom,rfl⟩))).1
 simp only[keyOf] at h0
 obtain⟨a,rfl⟩:∃a:Nat,at'=a:=⟨at'.toNat,by omega⟩
 have hhd:=o1.hd
 have hsl:=o1.sl
 have hlen:=o1.len
 have hwl:=H.wl
 simp only[Bq] at hhd hsl hlen
 have hn:sh.Slots.toNat=os.length:=by omega
 have hext:a+1+sh.Slots.toNat<=ws.length:=by
  rw[hn]
  have h1:=(Ad.1 hhd).1
  rcases Nat.eq_zero_or_pos os.length with h0|h0
  ·omega
  ·have:=hsl (os.length-1) os[os.length-1] (by simp[h0])
   have:=(Ad.1 this).1
   omega
 let D:=mtL ars done (ptrsL sh 0 os)
 let I:Nat->HSt->Prop:=fun i s1=>∃ws1 d,MS base pm sp wb ah ars L tlo thi t0 hi s1 ws1 d (front++⟨(a:Int),sh,trn L t0 F sh 0 i os⟩::(mid++(cps L t0 d).drop m))/\ws1.length=ws.length/\Stay base wb pm st s1/\m<=d.length/\mtL ars d (ptrsL sh i (os.drop i))=D
 have hwlen:∀i s1,I i s1->s1[sp]? = some (.box [.row wb 0 ws.length 1]):=fun i s1 ⟨ws1,d,h1,h2,_⟩=>by rw[←h2];exact h1.S.s
 obtain⟨st',n0,h1,ws',d,h2,h3,h4,h5,h6⟩:=e71 B H.S (by omega) (a:=a) (by omega) o1.sh hhd hext f [.ptr p12 0] I
  (fun g ⟨ws1,d,h1,h2,h3,h4,h5⟩=>⟨ws1,d,h1.app g,h2,h3.trans (Stay.app h1.ge g),h4,h5⟩)
  hwlen
  ⟨ws,done,by rw[ymW];exact H,rfl,Stay.refl _ _ _ _,hm,rfl⟩
  (fun i s1 ⟨ws1,d,h1,h2,h3,h4,h5⟩ hi'=>by
    have hil:i<os.length:=by have h9:i<sh.Slots.toNat:=hi';omega
    have hv:os[i]? = some os[i]:=by simp[hil]
    rw[A8 hil] at h5
    simp only[ptrsL] at h5
    refine⟨fun hb=>⟨ws1,d,?_,h2,h3,h4,by rw[hb] at h5;simpa using h5⟩,fun hb=>?_⟩
    ·rw[yjV hv,hb];exact h1
    ·rw[if_pos hb,ybA] at h5
     obtain⟨r0,hF0⟩:=hF
     obtain⟨r1,hr1⟩:=ya9 ars (ptrsL sh (i+1) (os.drop (i+1))) (mt ars d os[i])
     have hFd:F=mt ars d os[i]++(r1++r0):=by rw[hF0];show D++r0=_;rw[←h5,hr1,A4]
     have hroom:endT L t0 (mt ars d os[i])<=hi:=by
      have:=M.room
      have h7:endT L t0 (mt ars d os[i])<=endT L t0 F:=by rw[hFd];exact ydN _ _
      exact Int.le_trans h7 M.room
     have hq:(front++(⟨(a:Int),sh,trn L t0 F sh 0 i os⟩:r26_Object)::(mid++(cps L t0 d).drop m))[front.length]? = some ⟨(a:Int),sh,trn L t0 F sh 0 i os⟩:=by
      rw[A7 (Av _),Nat.sub_self];rfl
     have hvt:(trn L t0 F sh 0 i os)[i]? = some os[i]:=by rw[ydl,hv];simp
     have b12':=h3.box _ _ h12.2.1 b12
     obtain⟨st',ws',n0,h7,h8,h9,h10⟩:=ypC B hf M ⟨h12.1,h12.2.1⟩ h1 b12' hq hvt (hpo i _ hv hb) hroom
     simp only[Bq] at h7 h8
     refine⟨st',n0,h7,⟨ws',mt ars d os[i],?_,by omega,h3.trans h10,?_,h5⟩,fun q cs hq2 e=>h10.box q cs (fun e2=>?_) e⟩
     ·have e1:mv L t0 (mt ars d os[i]) os[i]=mv L t0 F os[i]:=(ylW hFd M.FO).symm
      rw[e1] at h8
      rw[yjV hv,if_pos hb]
      obtain⟨r2,hr2⟩:=yjO ars d os[i]
      have e2:(cps L t0 (mt ars d os[i])).drop m=(cps L t0 d).drop m++(cps L t0 (mt ars d os[i])).drop d.length:=by rw[hr2];exact yjU h4
      rw[e2]
      have e3:(front++(⟨(a:Int),sh,trn L t0 F sh 0 i os⟩:r26_Object)::(mid++(cps L t0 d).drop m)++(cps L t0 (mt ars d os[i])).drop d.length).set front.length ⟨(a:Int),sh,(trn L t0 F sh 0 i os).set i (mv L t0 F os[i])⟩=front++⟨(a:Int),sh,(trn L t0 F sh 0 i os).set i (mv L t0 F os[i])⟩::(mid++((cps L t0 d).drop m++(cps L t0 (mt ars d os[i])).drop d.length)):=by
       rw[A4,Ch _ _ (Av _),Nat.sub_self]
       simp
      rw[←e3];exact h8
     ·obtain⟨r2,hr2⟩:=yjO ars d os[i]
      rw[hr2,Bj];omega
     ·have:=(Ad.1 H.bm).1;omega)
 rw[hn,Bw] at h6
 simp only[ptrsL,mtL,List.foldl_nil] at h6
 subst h6
 rw[hn] at h2
 exact⟨st',ws',n0,h1,h2,h3,h4⟩
open Go
set_option maxRecDepth 10000
set_option maxHeartbeats 4000000
variable {K:HCalls} {base pm sp wb:Nat} {ah:HV} {ars:List Area} {L:List r26_Object} {tlo thi t0 hi:Int}
def OutR(base pm:Nat)(st:HSt)(oh:HV)(vals:List Int):Prop:=(vals=[]/\oh = .p .nils)\/∃ob,vals≠[]/\base<=ob/\ob≠pm/\oh = .row ob 0 vals.length 1/\st[ob]? = some (.row 1 vals.length (vals.map fun n=>.p (.int .i64 n)))
theorem OutR.stay{st st':HSt}{oh:HV}{vals:List Int}(H:OutR base pm st oh vals)(hw:wb<base)(S:Stay base wb pm st st'):OutR base pm st' oh vals:=by
 rcases H with h|⟨ob,h1,h2,h3,h4,h5⟩
 ·exact .inl h
 ·exact .inr ⟨ob,h1,h2,h3,h4,S.row ob _ (by omega) h3 h5⟩
theorem MS.setr{st:HSt}{ws done:List Int}{NL:List r26_Object}(H:MS base pm sp wb ah ars L tlo thi t0 hi st ws done NL){ob:Nat}(h1:base<=ob)(h2:ob≠pm)(x:HB):MS base pm sp wb ah ars L tlo thi t0 hi (st.set ob x) ws done NL:=by
 obtain⟨l1,l2,l3,l4⟩:=H.lo
 refine⟨⟨by rw[ye (by omega)];exact H.S.s,by rw[ye (by omega)];exact H.S.w⟩,?_,by rw[ye h2];exact H.bm,H.I,by simpa using H.ge,H.lo,H.wl⟩
 rcases H.A with h|⟨b,h3,h4⟩
 ·exact .inl h
 ·exact .inr ⟨b,h3,by rw[ye (by have:=l4 b h3;omega)];exact h4⟩
def env18a(sp p7 p12:Nat)(al oh v10:HV)(rs:List Int)(i:Nat):HEnv:=[(0,.ptr sp 0),(4,al),(7,.ptr p7 0),(10,v10),(12,.ptr p12 0),(13,oh),(29,hN rs),(30,hI rs.length),(31,hI i)]
def env18b(sp p7 p12:Nat)(al oh v10:HV)(n i:Nat):HEnv:=[(0,.ptr sp 0),(7,.ptr p7 0),(10,v10),(12,.ptr p12 0),(13,oh),(43,al),(44,hI n),(45,hI i)]
def env18c(sp p12:Nat)(oh v10:HV)(a:Int):HEnv:=[(0,.ptr sp 0),(10,v10),(12,.ptr p12 0),(13,oh),(18,hI a)]
theorem yoz{st st1:HSt}{p7 p12:Nat}{al v10:HV}{rs:List Int}{i:Nat}{v u:Int}(hv:rs[i]? = some v)(hrs:rs.length<100000)(b12:st[p12]? = some (.box [.ptr pm 0])){ob:Nat}{vals:List Int}(hvl:vals.length=rs.length)(hob:st1[ob]? = some (.row 1 vals.length (vals.map fun n=>.p (.int .i64 n)))){n0:Nat}(e70:∀n,n0<=n->evHF C0 K TH n 70 [.ptr pm 0,hI v] st=some (hI u,st1)):
 Run C0 K TH h18l0 (env18a sp p7 p12 al (.row ob 0 vals.length 1) v10 rs i,st) .norm (env18a sp p7 p12 al (.row ob 0 vals.length 1) v10 rs (i+1),st1.set ob (.row 1 (vals.set i u).length ((vals.set i u).map fun n=>.p (.int .i64 n)))):=by
 have hil:i<rs.length:=(Ad.1 hv).1
 have hil':(i:Int)<rs.length:=by omega
 have c2:=yba hv
 have w:=wrN (i:=i) (by omega)
 have e70':evHF C0 K TH (n0+60) 70 [.ptr pm 0,.p (.int .i64 v)] st=some (hI u,st1):=e70 _ (by omega)
 obtain⟨m,hm⟩:∃m,vals.length=m:=⟨_,rfl⟩
 have i1:i+1<=m:=by omega
 have i2:i<m:=by omega
 have i3:(i:Int)<m:=by omega
 rw[hm] at hob hvl ⊢
 refine Run.of (n0+60) ?_
 simp (config:={ maxSteps:=4000000 }) [↓yg,↓yc,yl,h18l0,env18a,hil,hil',c2,w,b12,e70',hob,i1,i2,i3,hm,List.map_set,Ba]
theorem yoA{st:HSt}{p7 p12:Nat}{al v10 oh:HV}{rs:List Int}:Run C0 K TH h18l0 (env18a sp p7 p12 al oh v10 rs rs.length,st) (.exit 0) ([(0,.ptr sp 0),(4,al),(7,.ptr p7 0),(10,v10),(12,.ptr p12 0),(13,oh)],st):=by
 refine Run.of 60 ?_
 simp (config:={ maxSteps:=4000000 }) [↓yg,↓yc,yl,h18l0,env18a]
def nf(L:List r26_Object)(ars:List Area):List r26_Object:=L.filter fun o=>!inAny ars o.At
theorem ylX(B:KB K){F:List Int}(M:Mk ars L t0 hi F){p7 p12:Nat}(h12:p12≠wb/\p12≠pm/\base<=p12){al v10:HV}{rs:List Int}(hrs:rs.length<100000)(hro:∀p∈rs,AddrOk L p):∀(m i:Nat) (st:HSt) (ws done:List Int) (oh:HV) (vals:List Int),rs.length-i=m->i<=rs.length->MS base pm sp wb ah ars L tlo thi t0 hi st ws done (nf L ars++cps L t0 done)->st[p12]? = some (.box [.ptr pm 0])->OutR base pm st oh vals->vals.length=rs.length->(∀j v,j<i->rs[j]? = some v->vals[j]? = some (mv L t0 F v))->(∃r,F=mtL ars done (rs.drop i)++r) ->
 ∃st' ws' vals',Run C0 K TH (.loop h18l0 [0,4,7,10,12,13,29,30,31]) (env18a sp p7 p12 al oh v10 rs i,st) (.exit 0) ([(0,.ptr sp 0),(4,al),(7,.ptr p7 0),(10,v10),(12,.ptr p12 0),(13,oh)],st')/\MS base pm sp wb ah ars L tlo thi t0 hi st' ws' (mtL ars done (rs.drop i)) (nf L ars++cps L t0 (mtL ars done (rs.drop i)))/\ws'.length=ws.length/\st'[p12]? = some (.box [.ptr pm 0])/\OutR base pm st' oh vals'/\vals'=rs.map (mv L t0 F)/\(∀q,q<base->q≠wb->st'[q]? = st[q]?)/\(∀q cs,q≠pm->st[q]? = some (.box cs)->st'[q]? = some (.box cs))/\st.length<=st'.length
 | 0,i,st,ws,done,oh,vals,hm,hq,H,b12,hO,hvl,hvv,hF=>by
   have:i=rs.length:=by omega
   subst this
   rw[Bw]
   refine⟨st,ws,vals,Run.loopX yoA (by simp),H,rfl,b12,hO,?_,fun _ _ _=>rfl,fun _ _ _ h=>h,Av _⟩
   apply List.ext_getElem?
   intro j
   by_cases hj:j<rs.length
   ·rw[hvv j rs[j] hj (by simp[hj]),B0];simp[hj]
   ·rw[B4 (by omega),B4 (by simp;omega)]
 | m+1,i,st,ws,done,oh,vals,hm,hq,H,b12,hO,hvl,hvv,hF=>by
   have hil:i<rs.length:=by omega
   have hv:rs[i]? = some rs[i]:=by simp[hil]
   obtain⟨r0,hF0⟩:=hF
   rw[A8 hil,ybA] at hF0
   obtain⟨r1,hr1⟩:=ya9 ars (rs.drop (i+1)) (mt ars done rs[i])
   have hFd:F=mt ars done rs[i]++(r1++r0):=by rw[hF0,hr1,A4]
   have hroom:endT L t0 (mt ars done rs[i])<=hi:=by
    have h7:endT L t0 (mt ars done rs[i])<=endT L t0 F:=by rw[hFd];exact ydN _ _
    exact Int.le_trans h7 M.room
   obtain⟨st1,ws1,n0,e1,H1,hl1,S1⟩:=H.move B M.z M.ap M.hb M.al (hro rs[i] (Au hil)) hroom
   have hcd:nf L ars++cps L t0 done++(cps L t0 (mt ars done rs[i])).drop done.length=nf L ars++cps L t0 (mt ars done rs[i]):=by
    obtain⟨r2,hr2⟩:=yjO ars done rs[i]
    have:=yjU (L:=L) (t:=t0) (d:=done) (r:=r2) (m:=0) (by omega)
    rw[A5,A5,←hr2] at this
    rw[A4,←this]
   rw[hcd] at H1
   rcases hO with⟨h1,h2⟩|⟨ob,h1,h2,h3,rfl,h5⟩
   ·exfalso;rw[h1] at hvl;simp at hvl;omega
   ·have hlo:=H.lo
    have h5':=S1.row ob _ (by omega) h3 h5
    have r1':=yoz (K:=K) (sp:=sp) (p7:=p7) (p12:=p12) (al:=al) (v10:=v10) hv hrs b12 hvl h5' e1
    have hset:=H1.setr h2 h3 (.row 1 (vals.set i (mv L t0 (mt ars done rs[i]) rs[i])).length ((vals.set i (mv L t0 (mt ars done rs[i]) rs[i])).map fun n=>.p (.int .i64 n)))
    have b12':=S1.box _ _ h12.2.1 b12
    have hobl:ob<st1.length:=(Ad.1 h5').1
    have hne12:ob≠p12:=fun e=>by rw[e,b12'] at h5';simp at h5'
    have hvne:vals.set i (mv L t0 (mt ars done rs[i]) rs[i])≠[]:=fun e=>by
     have:=congrArg List.length e
     rw[Ba] at this;simp at this;exact h1 this
    have hsl:(vals.set i (mv L t0 (mt ars done rs[i]) rs[i])).length=vals.length:=Ba ..
    obtain⟨st2,ws2,vals2,r2,H2,hl2,hb2,hO2,hv2,k1,k2,k3⟩:=ylX B M h12 (p7:=p7) (al:=al) (v10:=v10) hrs hro m (i+1) _ ws1 _ (.row ob 0 vals.length 1) (vals.set i (mv L t0 (mt ars done rs[i]) rs[i])) (by omega) (by omega) hset (by rw[ye hne12];exact b12') (.inr ⟨ob,hvne,h2,h3,by rw[hsl],yd hobl⟩) (by rw[hsl];exact hvl) (fun j v hj hjv=>by
     by_cases e:i=j
     ·subst e
      rw[hv] at hjv;cases hjv
      rw[Bk (by omega)]
      rw[ylW hFd M.FO]
     ·rw[Ar e];exact hvv j v (by omega) hjv) ⟨r0,hF0⟩
    rw[A8 hil,ybA]
    refine⟨st2,ws2,vals2,Run.loopN r1' ?_,H2,by omega,hb2,hO2,hv2,fun q h6 h7=>by rw[k1 q h6 h7,ye (by omega)];exact S1.low q h6 h7,fun q cs h6 h7=>k2 q cs h6 ?_,by rw[Ba] at k3;exact B5 S1.len k3⟩
    ·exact r2
    ·have h8:=S1.box q cs h6 h7
     rw[ye (fun e=>by rw[e,h8] at h5';simp at h5')];exact h8
open Go
set_option maxRecDepth 10000
set_option maxHeartbeats 4000000
variable {K:HCalls} {base pm sp wb:Nat} {ah:HV} {ars:List Area} {L:List r26_Object} {tlo thi t0 hi:Int}
def trnO(L:List r26_Object)(t:Int)(F:List Int)(o:r26_Object):r26_Object:=⟨o.At,o.Shape,trn L t F o.Shape 0 o.Slots.length o.Slots⟩
def trnIf(L:List r26_Object)(t:Int)(F l:List Int)(o:r26_Object):r26_Object:=if o.At∈l then trnO L t F o else o
theorem yoB{st st':HSt}{p7 p12:Nat}{al oh v10:HV}{l:List Int}(hal:IntsAt st al l){i:Nat}{v:Int}(hv:l[i]? = some v)(hrs:l.length<100000){n0:Nat}(h71':∀n,n0<=n->evHF C0 K TH n 71 [.ptr sp 0,hI v,.fn 72 [.ptr p12 0]] st=some (.p (.tup []),st')):
 Run C0 K TH h18l1 (env18b sp p7 p12 al oh v10 l.length i,st) .norm (env18b sp p7 p12 al oh v10 l.length (i+1),st'):=by
 have hil:i<l.length:=(Ad.1 hv).1
 have hil':(i:Int)<l.length:=by omega
 have c2:=yba hv
 have w:=wrN (i:=i) (by omega)
 have hv':evHF C0 K TH (n0+60) 71 [.ptr sp 0,.p (.int .i64 v),.fn 72 [.ptr p12 0]] st=some (.p (.tup []),st'):=h71' _ (by omega)
 rcases hal with⟨_,rfl⟩|rfl|⟨b,rfl,hb⟩
 ·simp at hil
 ·refine Run.of (n0+60) ?_
  simp (config:={ maxSteps:=4000000 }) [↓yg,↓yc,yl,h18l1,env18b,hil,hil',c2,w,hv']
 ·have i1:i+1<=l.length:=by omega
  have c3:(l.map fun n=>HV.p (.int .i64 n))[i]? = some (hI v):=by simp[hv]
  refine Run.of (n0+60) ?_
  obtain⟨cs,hcs⟩:∃cs,(l.map fun n=>HV.p (.int .i64 n))=cs:=⟨_,rfl⟩
  have c4:cs.length=l.length:=by rw[←hcs];simp
  rw[hcs] at hb c3
  simp (config:={ maxSteps:=4000000 }) [↓yg,↓yc,yl,-getElem?_pos,Ah,Ai,yx,yA,ye,yd,yp,yj,yu,yk,yw,h18l1,env18b,hil,hil',c3,c4,i1,w,hb,hv']
theorem yoC{st:HSt}{p7 p12:Nat}{al v10 oh:HV}{n:Nat}:Run C0 K TH h18l1 (env18b sp p7 p12 al oh v10 n n,st) (.exit 2) ([(0,.ptr sp 0),(7,.ptr p7 0),(10,v10),(12,.ptr p12 0),(13,oh)],st):=by
 refine Run.of 60 ?_
 simp (config:={ maxSteps:=4000000 }) [↓yg,↓yc,yl,h18l1,env18b]
theorem yoD(o:r26_Object):(⟨o.At,o.Shape,o.Slots⟩:r26_Object)=o:=by cases o;rfl
theorem ylY(B:KB K){F:List Int}(M:Mk ars L t0 hi F)(hptr:∀o∈L,PtrOk L o){p7 p12:Nat}(h12:p12≠wb/\p12≠pm/\base<=p12){al oh v10:HV}{l:List Int}(hl:l.length<100000)(hbl:∀b,al = .row b 0 l.length 1->b≠wb/\b≠pm)(hnd:l.Nodup)(hob:∀p∈l,∃o∈L,o.At=p/\inAny ars p=false):∀(m i:Nat) (st:HSt) (ws done:List Int),l.length-i=m->i<=l.length->IntsAt st al l->MS base pm sp wb ah ars L tlo thi t0 hi st ws done ((nf L ars).map (trnIf L t0 F (l.take i))++cps L t0 done)->st[p12]? = some (.box [.ptr pm 0])->(∃r,F=mtL ars done ((l.drop i).flatMap (ptrsAt L))++r) ->
 ∃st' ws',Run C0 K TH (.loop h18l1 [0,7,10,12,13,43,44,45]) (env18b sp p7 p12 al oh v10 l.length i,st) (.exit 2) ([(0,.ptr sp 0),(7,.ptr p7 0),(10,v10),(12,.ptr p12 0),(13,oh)],st')/\MS base pm sp wb ah ars L tlo thi t0 hi st' ws' (mtL ars done ((l.drop i).flatMap (ptrsAt L))) ((nf L ars).map (trnIf L t0 F l)++cps L t0 (mtL ars done ((l.drop i).flatMap (ptrsAt L))))/\ws'.length=ws.length/\Stay base wb pm st st'
 | 0,i,st,ws,done,hm,hq,hA,H,b12,hF=>by
   have:i=l.length:=by omega
   subst this
   rw[Co] at H
   rw[Bw]
   exact⟨st,ws,Run.loopX yoC (by simp),H,rfl,Stay.refl _ _ _ _⟩
 | m+1,i,st,ws,done,hm,hq,hA,H,b12,hF=>by
   have hil:i<l.length:=by omega
   have hv:l[i]? = some l[i]:=by simp[hil]
   obtain⟨o,ho,hat,hno⟩:=hob l[i] (Au hil)
   have hoa:=yaQ M.ap ho
   have hpa:ptrsAt L l[i]=Go.Ab.ptrs o:=by unfold ptrsAt;rw[←hat,hoa]
   obtain⟨r0,hF0⟩:=hF
   rw[A8 hil,Bn,yha,hpa] at hF0
   obtain⟨r1,hr1⟩:=ya9 ars ((l.drop (i+1)).flatMap (ptrsAt L)) (mtL ars done (Go.Ab.ptrs o))
   have honf:o∈nf L ars:=B7.2 ⟨ho,by rw[hat,hno];rfl⟩
   obtain⟨f1,f2,hsplit⟩:=List.append_of_mem honf
   have hnt:o.At∉l.take i:=fun h=>by
    obtain⟨j,hj⟩:=Bp h
    rw[List.getElem?_take] at hj
    split at hj
    ·rename_i hji
     have hjl:j<l.length:=by omega
     rw[Bd hjl] at hj
     have:l[j]=l[i]:=by rw[←hat];simpa using hj
     exact List.pairwise_iff_getElem.1 hnd j i hjl hil hji this
    ·cases hj
   have hapn:((nf L ars).map keyOf).Pairwise Apart:=M.ap.sublist ((List.filter_sublist).map _)
   have hoth:∀o2,o2∈f1\/o2∈f2->o2.At≠o.At:=fun o2 h e=>by
    rw[hsplit,Ck,Bu] at hapn
    obtain⟨_,a2,a3⟩:=Ca.1 hapn
    rcases h with h|h
    ·have:=a3 _ (Bm.2 ⟨o2,h,rfl⟩) (keyOf o) (by simp)
     simp only[Apart,keyOf] at this;omega
    ·have:=(List.pairwise_cons.1 a2).1 _ (Bm.2 ⟨o2,h,rfl⟩)
     simp only[Apart,keyOf] at this;omega
   have htk:∀o2,o2.At≠o.At->trnIf L t0 F (l.take (i+1)) o2=trnIf L t0 F (l.take i) o2:=fun o2 h=>by
    unfold trnIf
    rw[List.take_add_one,hv]
    have:(o2.At∈l.take i++(some l[i]).toList)↔o2.At∈l.take i:=by
     simp only[Bl,Option.toList_some,Be]
     exact⟨fun h2=>h2.resolve_right fun e=>h (e.trans hat.symm),.inl⟩
    simp only[this]
   have e1:(nf L ars).map (trnIf L t0 F (l.take i))++cps L t0 done=f1.map (trnIf L t0 F (l.take i))++⟨o.At,o.Shape,o.Slots⟩::(f2.map (trnIf L t0 F (l.take i))++(cps L t0 done).drop 0):=by
    rw[hsplit,A5,yoD]
    have:trnIf L t0 F (l.take i) o=o:=if_neg hnt
    simp[this]
   have e2:∀d,f1.map (trnIf L t0 F (l.take i))++⟨o.At,o.Shape,trn L t0 F o.Shape 0 o.Slots.length o.Slots⟩::(f2.map (trnIf L t0 F (l.take i))++(cps L t0 d).drop 0)=(nf L ars).map (trnIf L t0 F (l.take (i+1)))++cps L t0 d:=fun d=>by
    rw[hsplit,A5]
    have h1:trnIf L t0 F (l.take (i+1)) o=⟨o.At,o.Shape,trn L t0 F o.Shape 0 o.Slots.length o.Slots⟩:=by
     unfold trnIf
     rw[if_pos (by rw[List.take_add_one,hv,hat];exact B3 _ (by simp))];rfl
    have h2:f1.map (trnIf L t0 F (l.take (i+1)))=f1.map (trnIf L t0 F (l.take i)):=Bs fun o2 h=>htk o2 (hoth o2 (.inl h))
    have h3:f2.map (trnIf L t0 F (l.take (i+1)))=f2.map (trnIf L t0 F (l.take i)):=Bs fun o2 h=>htk o2 (hoth o2 (.inr h))
    rw[Ck,Bu,h1,h2,h3]
    simp
   rw[e1] at H
   obtain⟨st1,ws1,n0,h1,H1,hl1,S1⟩:=H.ptrs B (f:=72) (.inl rfl) M h12 (by omega) b12 (fun i v h h'=>hptr o ho i v h h') ⟨r1++r0,by rw[hF0,hr1,A4];rfl⟩
   rw[e2] at H1
   rw[hat] at h1
   have hA1:IntsAt st1 al l:=by
    rcases hA with h|h|⟨b,h2,h3⟩
    ·exact .inl h
    ·exact .inr (.inl h)
    ·have:=hbl b h2
     exact .inr (.inr ⟨b,h2,S1.row b _ this.1 this.2 h3⟩)
   obtain⟨st2,ws2,r2,H2,hl2,S2⟩:=ylY B M hptr h12 (p7:=p7) (al:=al) (oh:=oh) (v10:=v10) hl hbl hnd hob m (i+1) st1 ws1 _ (by omega) (by omega) hA1 H1 (S1.box _ _ h12.2.1 b12) ⟨r0,hF0⟩
   rw[A8 hil,Bn,yha,hpa]
   exact⟨st2,ws2,Run.loopN (yoB hA hv hl h1) r2,H2,by omega,S1.trans S2⟩
theorem yi7(L:List r26_Object)(ars:List Area):∀(k i:Nat) (out:List Int),∃r,bfs L ars k i out=out++r
 | 0,i,out=>⟨[],by simp[bfs]⟩
 | k+1,i,out=>by
   simp only[bfs]
   split
   ·rename_i p hp
    obtain⟨r1,h1⟩:=ya9 ars (ptrsAt L p) out
    obtain⟨r2,h2⟩:=yi7 L ars k (i+1) (mtL ars out (ptrsAt L p))
    exact⟨r1++r2,by rw[h2,h1,A4]⟩
   ·exact⟨[],by simp⟩
theorem yoE(B:KB K){st st':HSt}{p12:Nat}{oh v10:HV}{ws:List Int}(S:SpaceAt st sp wb ws){a:Nat}(ha:0<a){x:Shape}(hx:OkSh x)(hhd:ws[a]? = some (hdB x))(b12:st[p12]? = some (.box [.ptr pm 0])){tlo thi e:Int}(bm:st[pm]? = some (.box [.ptr sp 0,ah,hI tlo,hI thi,hI e]))(hlt:(a:Int)<e)(he:e<1000000000){n0:Nat}
 (h71':∀n,n0<=n->evHF C0 K TH n 71 [.ptr sp 0,hI a,.fn 73 [.ptr p12 0]] (st++[.box [hI x.Slots,hI x.Mask],.box [hI x.Slots,hI x.Mask]])=some (.p (.tup []),st'))(b19:st'[st.length+1]? = some (.box [hI x.Slots,hI x.Mask])):
 Run C0 K TH h18l2 (env18c sp p12 oh v10 a,st) .norm (env18c sp p12 oh v10 (a+1+x.Slots),st'):=by
 have h16:=hx.2.1
 have h00:=hx.1
 have w1:IntKind.i64.wrap (1+x.Slots)=1+x.Slots:=yK (by omega)
 have w2:IntKind.i64.wrap ((a:Int)+(1+x.Slots))=(a:Int)+1+x.Slots:=by rw[yK (by omega)];omega
 have e22:=fun n=>e22 B S a ha hx hhd n
 have hv':evHF C0 K TH (n0+60) 71 [.ptr sp 0,.p (.int .i64 a),.fn 73 [.ptr p12 0]] (st++[.box [hI x.Slots,hI x.Mask],.box [hI x.Slots,hI x.Mask]])=some (.p (.tup []),st'):=h71' _ (by omega)
 refine Run.of (n0+60) ?_
 simp (config:={ maxSteps:=4000000 }) [↓yg,↓yc,yl,h18l2,env18c,e22,b12,bm,hlt,hv',b19,w1,w2]
theorem yoF{st:HSt}{p12:Nat}{oh v10:HV}(b12:st[p12]? = some (.box [.ptr pm 0])){tlo thi e:Int}(bm:st[pm]? = some (.box [.ptr sp 0,ah,hI tlo,hI thi,hI e])):Run C0 K TH h18l2 (env18c sp p12 oh v10 e,st) (.exit 4) ([(10,v10),(12,.ptr p12 0),(13,oh)],st):=by
 refine Run.of 60 ?_
 simp (config:={ maxSteps:=4000000 }) [↓yg,↓yc,yl,h18l2,env18c,b12,bm]
theorem ylZ{t:Int}:∀(d:List Int) (k:Nat) (p:Int),d[k]? = some p->(cps L t d)[k]? = some (cpy L (endT L t (d.take k)) p)
 | q::r,0,p,h=>by simp at h;subst h;simp[cps,endT]
 | q::r,k+1,p,h=>by
   simp only[Ai] at h
   simp only[cps,Ai,List.take_succ_cons,endT]
   exact ylZ r k p h
theorem yl0(B:KB K){F:List Int}(M:Mk ars L t0 hi F)(hptr:∀o∈L,PtrOk L o)(hok:∀o∈L,OkSh o.Shape/\(o.Slots.length:Int)=o.Shape.Slots){p12:Nat}(h12:p12≠wb/\p12≠pm/\base<=p12){oh v10:HV}(A:List r26_Object):∀(fu k:Nat) (st:HSt) (ws done:List Int),L.length+1<=fu+k->k<=done.length->MS base pm sp wb ah ars L tlo thi t0 hi st ws done (A++(((cps L t0 F).take k).map (trnO L t0 F)++(cps L t0 done).drop k))->st[p12]? = some (.box [.ptr pm 0])->F=bfs L ars fu k done ->
 ∃st' ws',Run C0 K TH (.loop h18l2 [0,10,12,13,18]) (env18c sp p12 oh v10 (endT L t0 (done.take k)),st) (.exit 4) ([(10,v10),(12,.ptr p12 0),(13,oh)],st')/\MS base pm sp wb ah ars L tlo thi t0 hi st' ws' F (A++(cps L t0 F).map (trnO L t0 F))/\ws'.length=ws.length/\Stay base wb pm st st'
 | 0,k,st,ws,done,hm,hq,H,b12,hF=>by
   have:=H.I.dn.le
   omega
 | fu+1,k,st,ws,done,hm,hq,H,b12,hF=>by
   by_cases hkl:k<done.length
   ·have hv:done[k]? = some done[k]:=by simp[hkl]
    simp only[bfs,hv] at hF
    obtain⟨_,o,ho,hat⟩:=H.I.dn.mem done[k] (Au hkl)
    have hoa:objAt L done[k]=some o:=by rw[←hat];exact yaQ M.ap ho
    have hpa:ptrsAt L done[k]=ptrsL o.Shape 0 o.Slots:=by unfold ptrsAt;rw[hoa];rfl
    rw[hpa] at hF
    obtain⟨r1,hr1⟩:=yi7 L ars fu (k+1) (mtL ars done (ptrsL o.Shape 0 o.Slots))
    have hFr:F=mtL ars done (ptrsL o.Shape 0 o.Slots)++r1:=by rw[hF,hr1]
    obtain⟨r2,hr2⟩:=ya9 ars (ptrsL o.Shape 0 o.Slots) done
    have hFd:F=done++(r2++r1):=by rw[hFr,hr2,A4]
    have hcg:=ylZ (L:=L) (t:=t0) done k done[k] hv
    have hcp:=ynx (L:=L) (t:=endT L t0 (done.take k)) hoa
    rw[hcp] at hcg
    have hdrop:(cps L t0 done).drop k=⟨endT L t0 (done.take k),o.Shape,o.Slots⟩::(cps L t0 done).drop (k+1):=ylB hcg
    have hFg:(cps L t0 F)[k]? = some ⟨endT L t0 (done.take k),o.Shape,o.Slots⟩:=by
     rw[hFd,yhe,Aj (by rw[ybH];exact hkl)];exact hcg
    have e1:A++(((cps L t0 F).take k).map (trnO L t0 F)++(cps L t0 done).drop k)=(A++((cps L t0 F).take k).map (trnO L t0 F))++⟨endT L t0 (done.take k),o.Shape,o.Slots⟩::([]++(cps L t0 done).drop (k+1)):=by
     rw[hdrop,A4];rfl
    have e2:∀d,(A++((cps L t0 F).take k).map (trnO L t0 F))++⟨endT L t0 (done.take k),o.Shape,trn L t0 F o.Shape 0 o.Slots.length o.Slots⟩::([]++(cps L t0 d).drop (k+1))=A++(((cps L t0 F).take (k+1)).map (trnO L t0 F)++(cps L t0 d).drop (k+1)):=fun d=>by
     rw[List.take_add_one,hFg]
     simp[trnO]
    have hx:=hok o ho
    have hNLm:(⟨endT L t0 (done.take k),o.Shape,o.Slots⟩:r26_Object)∈A++(((cps L t0 F).take k).map (trnO L t0 F)++(cps L t0 done).drop k):=by rw[e1];simp
    have hobj:=H.I.ok _ hNLm
    have hpos:=(H.I.out _ (Bz _ (Bm.2 ⟨_,hNLm,rfl⟩))).1
    simp only[keyOf] at hpos
    have hend:endT L t0 (done.take (k+1))=endT L t0 (done.take k)+1+o.Shape.Slots:=by
     rw[List.take_add_one,hv]
     simp only[Option.toList_some]
     rw[ycW]
     simp only[endT]
     rw[yiq hoa,hx.2]
    have hle:endT L t0 (done.take (k+1))<=endT L t0 done:=by
     have:=ydN (L:=L) (t:=t0) (done.take (k+1)) (done.drop (k+1))
     rwa [Cm] at this
    have hx0:=hx.1.1
    have hroomF:endT L t0 done<=endT L t0 F:=by rw[hFd];exact ydN _ _
    have hbd:=M.room
    have hhb:=M.hb
    have Happ:=H.app [.box [hI o.Shape.Slots,hI o.Shape.Mask],.box [hI o.Shape.Slots,hI o.Shape.Mask]]
    rw[e1] at Happ
    obtain⟨st1,ws1,n0,h1,H1,hl1,S1⟩:=Happ.ptrs B (f:=73) (.inr rfl) M h12 (m:=k+1) (by omega) (by rw[yx (Ad.1 b12).1];exact b12) (fun i v h h'=>hptr o ho i v h h') ⟨r1,hFr⟩
    rw[e2] at H1
    have hS:=H.S
    have hbm:=H.bm
    obtain⟨a,ha⟩:∃a:Nat,endT L t0 (done.take k)=a:=⟨(endT L t0 (done.take k)).toNat,by omega⟩
    have hhd:=hobj.hd
    simp only at hhd
    rw[ha] at hhd h1 hend hpos ⊢
    rw[Bq] at hhd
    have hpml:=(Ad.1 hbm).1
    have b19:st1[st.length+1]? = some (.box [hI o.Shape.Slots,hI o.Shape.Mask]):=S1.box _ _ (by omega) (by rw[ym];rfl)
    have rs:=yoE (p12:=p12) (oh:=oh) (v10:=v10) B hS (a:=a) (by omega) hx.1 hhd b12 hbm (by omega) (by omega) h1 b19
    have S0:Stay base wb pm st (st++[.box [hI o.Shape.Slots,hI o.Shape.Mask],.box [hI o.Shape.Slots,hI o.Shape.Mask]]):=Stay.app H.ge _
    have S01:=S0.trans S1
    obtain⟨st2,ws2,r3,H2,hl2,S2⟩:=yl0 B M hptr hok h12 (oh:=oh) (v10:=v10) A fu (k+1) st1 ws1 _ (by omega) (by rw[hr2,Bj];omega) H1 (S01.box _ _ h12.2.1 b12) hF
    have hend2:endT L t0 ((mtL ars done (ptrsL o.Shape 0 o.Slots)).take (k+1))=(a:Int)+1+o.Shape.Slots:=by
     rw[hr2,List.take_append_of_le_length (by omega)];exact hend
    rw[hend2] at r3
    exact⟨st2,ws2,Run.loopN rs r3,H2,by omega,S01.trans S2⟩
   ·have hkn:done[k]? = none:=B4 (by omega)
    simp only[bfs,hkn] at hF
    subst hF
    have hk:k=F.length:=by omega
    subst hk
    rw[Co]
    have e1:(cps L t0 F).take F.length=cps L t0 F:=Aw (by rw[ybH];exact Av _)
    have e2:(cps L t0 F).drop F.length=[]:=by rw[←ybH (L:=L) F t0,Bw]
    rw[e1,e2,Br] at H
    exact⟨st,ws,Run.loopX (yoF b12 H.bm) (by simp),H,rfl,Stay.refl _ _ _ _⟩
open Go
set_option maxRecDepth 10000
set_option maxHeartbeats 4000000
variable {K:HCalls} {ars:List Area} {L:List r26_Object} {hi:Int}
theorem e18(B:KB K){st:HSt}{sp wb:Nat}{ws:List Int}(S:SpaceAt st sp wb ws)(hwl:ws.length<1000000000){ah:HV}(hAr:AreasAt st ah ars)(to:Area){rs:List Int}(hrs:rs.length<100000)(hro:∀p∈rs,AddrOk L p){al:HV}{l:List Int}(hal:IntsAt st al l)(hbw:∀b n,al = .row b 0 n 1->b≠wb)(hl:l.length<100000)(hnd:l.Nodup)(hob:∀p∈l,∃o∈L,o.At=p/\inAny ars p=false)
 (M:Mk ars L to.Next hi (live L ars rs l))(hptr:∀o∈L,PtrOk L o)(hok:∀o∈L,OkSh o.Shape/\(o.Slots.length:Int)=o.Shape.Slots)(H0:MVI L ars to.Next hi ws [] (nf L ars)):
 ∃st' ws' n0 oh,(∀n,n0<=n->evHF C0 K TH n 18 [.ptr sp 0,ah,hA to,hN rs,al] st=some (mkTup [hA ⟨to.Lo,to.Hi,endT L to.Next (live L ars rs l)⟩,oh],st'))/\SpaceAt st' sp wb ws'/\ws'.length=ws.length /\
  MVI L ars to.Next hi ws' (live L ars rs l) ((nf L ars).map (trnIf L to.Next (live L ars rs l) l)++(cps L to.Next (live L ars rs l)).map (trnO L to.Next (live L ars rs l)))/\RowI st.length st' oh (rs.map (mv L to.Next (live L ars rs l)))/\Keeps wb st st':=by
 obtain⟨ls,lw,lne⟩:=S.lt
 obtain⟨F,hF⟩:∃F,live L ars rs l=F:=⟨_,rfl⟩
 rw[hF] at M ⊢
 have hFb:F=bfs L ars (L.length+1) 0 (mtL ars (mtL ars [] rs) (l.flatMap (ptrsAt L))):=hF.symm
 obtain⟨r0,hr0⟩:=yi7 L ars (L.length+1) 0 (mtL ars (mtL ars [] rs) (l.flatMap (ptrsAt L)))
 obtain⟨r1,hr1⟩:=ya9 ars (l.flatMap (ptrsAt L)) (mtL ars [] rs)
 let N:=st.length
 let g:HSt:=[.box [hI to.Lo,hI to.Hi,hI to.Next],.box [.ptr (st.length+2) 0],.box [.ptr sp 0,ah,hI to.Lo,hI to.Hi,hI to.Next]]
 have hab:∀b,ah = .row b 0 ars.length 3->b<st.length:=fun b e=>by
  rcases hAr with h|⟨b',h1,h2⟩
  ·rw[h] at e;cases e
  ·rw[h1] at e;cases e;exact (Ad.1 h2).1
 have hbl:∀b,al = .row b 0 l.length 1->b≠wb/\b≠st.length+2:=fun b e=>by
  refine⟨hbw b _ e,?_⟩
  rcases hal with⟨h,_⟩|h|⟨b',h1,h2⟩
  ·rw[h] at e;cases e
  ·rw[h] at e;cases e
  ·rw[h1] at e;cases e;have:=(Ad.1 h2).1;omega
 have start:∀g2:HSt,MS st.length (st.length+2) sp wb ah ars L to.Lo to.Hi to.Next hi (st++(g++g2)) ws [] (nf L ars++cps L to.Next []):=fun g2=>
  ⟨S.app _,hAr.app _,by rw[ym];rfl,by simpa[cps] using H0,by simp,⟨ls,lw,by omega,hab⟩,hwl⟩
 have b12:∀g2:HSt,(st++(g++g2))[st.length+1]? = some (.box [.ptr (st.length+2) 0]):=fun g2=>by rw[ym];rfl
 have h12:st.length+1≠wb/\st.length+1≠st.length+2/\st.length<=st.length+1:=⟨by omega,by omega,by omega⟩
 obtain⟨g2,oh,hg2,hO⟩:∃(g2:HSt) (oh:HV),((rs.length=0/\g2=[]/\oh = .p .nils)\/(rs.length≠0/\g2=[.row 1 rs.length ((rep rs.length [.int .i64 0]).map .p)]/\oh = .row (st.length+3) 0 rs.length 1))/\OutR st.length (st.length+2) (st++(g++g2)) oh (List.replicate rs.length 0):=by
  by_cases h:rs.length=0
  ·exact⟨[],.p .nils,.inl ⟨h,rfl,rfl⟩,.inl ⟨by rw[h];rfl,rfl⟩⟩
  ·refine⟨_,_,.inr ⟨h,rfl,rfl⟩,.inr ⟨st.length+3,by simpa using h,by omega,by omega,by simp,?_⟩⟩
   rw[ym,Cn,yik,←yes];rfl
 obtain⟨st1,ws1,vals,q1,H1,hl1,b1,hO1,hv1,k1,k2,k3⟩:=ylX B M (p7:=st.length) (p12:=st.length+1) h12 (al:=al) (v10:=.p (.box [.int .i64 0,.int .i64 0,.int .i64 0])) hrs hro rs.length 0 _ ws [] oh _ (by omega) (by omega) (start g2) (b12 g2) hO (by simp) (fun j v hj=>by omega) ⟨r1++r0,by rw[A5,hFb,hr0,hr1,A4]⟩
 rw[A5] at H1
 have hA1:IntsAt st1 al l:=by
  rcases hal with h|h|⟨b,h1,h2⟩
  ·exact .inl h
  ·exact .inr (.inl h)
  ·have h3:=hbl b h1
   have hbl':=(Ad.1 h2).1
   exact .inr (.inr ⟨b,h1,by rw[k1 b hbl' h3.1,yx hbl'];exact h2⟩)
 have e0:(nf L ars).map (trnIf L to.Next F (l.take 0))=nf L ars:=by
  rw[List.take_zero]
  exact (Bs (fun o _=>by simp[trnIf])).trans (List.map_id _)
 obtain⟨st2,ws2,q2,H2,hl2,S2⟩:=ylY B M hptr (p7:=st.length) (p12:=st.length+1) h12 (al:=al) (oh:=oh) (v10:=.p (.box [.int .i64 0,.int .i64 0,.int .i64 0])) hl hbl hnd hob l.length 0 st1 ws1 (mtL ars [] rs) (by omega) (by omega) hA1 (by rw[e0];exact H1) b1 ⟨r0,by rw[A5,hFb,hr0]⟩
 rw[A5] at H2
 have b2:=S2.box _ _ (by omega) b1
 obtain⟨st3,ws3,q3,H3,hl3,S3⟩:=yl0 B M hptr hok (p12:=st.length+1) h12 (oh:=oh) (v10:=.p (.box [.int .i64 0,.int .i64 0,.int .i64 0])) ((nf L ars).map (trnIf L to.Next F l)) (L.length+1) 0 st2 ws2 (mtL ars (mtL ars [] rs) (l.flatMap (ptrsAt L))) (by omega) (by omega) (by simpa using H2) b2 hFb
 have b3:=S3.box _ _ (by omega) b2
 have hO3:=(hO1.stay lw S2).stay lw S3
 rw[hv1] at hO3
 rw[List.take_zero] at q3
 simp only[endT] at q3
 obtain⟨n1,hn1⟩:=Run.all q1
 obtain⟨n2,hn2⟩:=Run.all q2
 obtain⟨n3,hn3⟩:=Run.all q3
 have hn1':=fun j k=>hn1 (n1+n2+n3+j) (n1+n2+n3+k) (by omega) (by omega)
 have hn2':=fun j k=>hn2 (n1+n2+n3+j) (n1+n2+n3+k) (by omega) (by omega)
 have hn3':=fun j k=>hn3 (n1+n2+n3+j) (n1+n2+n3+k) (by omega) (by omega)
 have z0:((0:Nat):Int)=0:=rfl
 have bm3:=H3.bm
 have lm3:=(Ad.1 bm3).1
 have l123:=(Ad.1 b3).1
 have b70:st3[st.length]? = some (.box [hI to.Lo,hI to.Hi,hI to.Next]):=by
  refine S3.box _ _ (by omega) (S2.box _ _ (by omega) (k2 _ _ (by omega) ?_))
  rw[yy];rfl
 have b72:st2[st.length]? = some (.box [hI to.Lo,hI to.Hi,hI to.Next]):=by
  refine S2.box _ _ (by omega) (k2 _ _ (by omega) ?_)
  rw[yy];rfl
 have q4:rs.length*8<=1099511627776:=by omega
 have q5:rs.length<=1099511627776:=by omega
 have q6:(rep rs.length [PV.int .i64 0]).all PV.free=true:=Ax.2 (ybg rs.length)
 have q7:(∀x∈rep rs.length [PV.int .i64 0],PV.free x=true)=True:=eq_true (ybg rs.length)
 refine⟨st3++[.box [hI to.Lo,hI to.Hi,hI (endT L to.Next F)]],ws3,n1+n2+n3+60,oh,fun n hn=>yz hn _ _ _ _ (yD (n:=n1+n2+n3+59) (B.no 18 rfl) (x:=h18) rfl rfl ?_),H3.S.app _,by omega,H3.I,?_,?_⟩
 ·simp only[env18a,env18b,env18c,hI,z0,g,Bx,Bt] at hn1' hn2' hn3'
  rcases hg2 with⟨h0,rfl,rfl⟩|⟨h0,rfl,rfl⟩
  ·have:rs=[]:=A3 h0
   subst this
   simp only[hN,Cc,List.flatMap_nil,z0,Br] at hn1'
   rcases hAr.sh with⟨q,cs,rfl⟩|⟨b,o,q,z,rfl⟩ <;> rcases hal with⟨rfl,rfl⟩|rfl|⟨b',rfl,_⟩
   all_goals (try simp only[Cc,z0] at hn2')
   all_goals simp (config:={ maxSteps:=4000000 }) [↓yg,↓yc,yl,-getElem?_pos,Ah,Ai,yx,yA,ye,yd,yp,yj,yu,yk,yw,h18,ls,lw,q4,q5,q6,q7,hn1',hn2',hn3',bm3,b3,lm3,l123,b72]
  ·rcases hAr.sh with⟨q,cs,rfl⟩|⟨b,o,q,z,rfl⟩ <;> rcases hal with⟨rfl,rfl⟩|rfl|⟨b',rfl,_⟩
   all_goals (try simp only[Cc,z0] at hn2')
   all_goals simp (config:={ maxSteps:=4000000 }) [↓yg,↓yc,yl,-getElem?_pos,Ah,Ai,yx,yA,ye,yd,yp,yj,yu,yk,yw,h18,h0,ls,lw,q4,q5,q6,q7,hn1',hn2',hn3',bm3,b3,lm3,l123,b72]
 ·rcases hO3 with⟨h1,h2⟩|⟨ob,h1,h2,h3,h4,h5⟩
  ·exact .inl ⟨h1,h2⟩
  ·exact .inr ⟨ob,h1,h2,h4,by rw[yx (Ad.1 h5).1];exact h5⟩
 ·refine⟨?_,fun i hi hn=>?_⟩
  ·have:=H3.ge;simp;omega
  ·rw[yx (by have:=H3.ge;omega),S3.low i hi hn,S2.low i hi hn,k1 i hi hn,yx hi]
open Go
theorem ypD{ars:List Area}{out:List Int}{p:Int}(h:inAny ars p=true):p∈mt ars out p:=by
 unfold mt
 by_cases hc:p∈out
 ·simp[h,hc]
 ·simp[h,hc]
theorem yhg{ars:List Area}{ps out:List Int}{q:Int}(h:q∈out):q∈mtL ars out ps:=by
 obtain⟨r,hr⟩:=ya9 ars ps out
 rw[hr];exact Bz _ h
theorem yi8{ars:List Area}:∀{ps out:List Int} {q:Int},q∈ps->inAny ars q=true->q∈mtL ars out ps
 | p::ps,out,q,h,hi=>by
   rw[ybA]
   rcases Bi.1 h with rfl|h
   ·exact yhg (ypD hi)
   ·exact yi8 h hi
theorem yjY(L:List r26_Object)(ars:List Area):∀(k i:Nat) (out:List Int),∃r,bfs L ars k i out=out++r
 | 0,i,out=>⟨[],by simp[bfs]⟩
 | k+1,i,out=>by
   simp only[bfs]
   split
   ·rename_i p hp
    obtain⟨r1,h1⟩:=ya9 ars (ptrsAt L p) out
    obtain⟨r2,h2⟩:=yjY L ars k (i+1) (mtL ars out (ptrsAt L p))
    exact⟨r1++r2,by rw[h2,h1,A4]⟩
   ·exact⟨[],by simp⟩
theorem ygA{L:List r26_Object}{ars:List Area}(hz:inAny ars 0=false)(hp:∀o∈L,PtrOk L o):∀(k i:Nat) (out:List Int),L.length+1<=k+i->i<=out.length->OutOk L ars out->(∀(j:Nat) (p:Int),j<i->out[j]? = some p->∀q∈ptrsAt L p,inAny ars q=true->q∈out) ->
 OutOk L ars (bfs L ars k i out)/\∀p∈bfs L ars k i out,∀q∈ptrsAt L p,inAny ars q=true->q∈bfs L ars k i out
 | 0,i,out,h1,h2,ho,hc=>by have:=ho.le;omega
 | k+1,i,out,h1,h2,ho,hc=>by
   by_cases hil:i<out.length
   ·have hv:out[i]? = some out[i]:=by simp[hil]
    simp only[bfs,hv]
    obtain⟨r1,hr1⟩:=ya9 ars (ptrsAt L out[i]) out
    refine ygA hz hp k (i+1) _ (by omega) (by rw[hr1];simp;omega) (ho.mtL hz (yfF hp _)) fun j p hj hjp q hq hi=>?_
    rw[hr1,Aj (by omega)] at hjp
    by_cases e:j=i
    ·subst e
     rw[hv] at hjp;cases hjp
     exact yi8 hq hi
    ·exact yhg (hc j p (by omega) hjp q hq hi)
   ·have:out[i]? = none:=B4 (by omega)
    simp only[bfs,this]
    refine⟨ho,fun p hpm q hq hi=>?_⟩
    obtain⟨j,hj⟩:=Bp hpm
    have:=(Ad.1 hj).1
    exact hc j p (by omega) hj q hq hi
theorem yoG{L:List r26_Object}{ars:List Area}(hz:inAny ars 0=false)(hp:∀o∈L,PtrOk L o){rs al:List Int}(hr:∀p∈rs,AddrOk L p):OutOk L ars (live L ars rs al)/\(∀p∈rs,inAny ars p=true->p∈live L ars rs al)/\∀p∈live L ars rs al,∀q∈ptrsAt L p,inAny ars q=true->q∈live L ars rs al:=by
 have h1:OutOk L ars (mtL ars [] rs):=(OutOk.nil L ars).mtL hz hr
 have h2:OutOk L ars (mtL ars (mtL ars [] rs) (al.flatMap (ptrsAt L))):=h1.mtL hz fun p h=>by
  obtain⟨a,_,h⟩:=Cd.1 h
  exact yfF hp a p h
 obtain⟨h3,h4⟩:=ygA hz hp (L.length+1) 0 _ (by omega) (by omega) h2 (fun j p hj=>by omega)
 refine⟨h3,fun p hpr hi=>?_,h4⟩
 obtain⟨r,hr⟩:=yjY L ars (L.length+1) 0 (mtL ars (mtL ars [] rs) (al.flatMap (ptrsAt L)))
 unfold live
 rw[hr]
 exact Bz _ (yhg (yi8 hpr hi))
variable {L:List r26_Object}
theorem ymX(L:List r26_Object)(hL:L.length<100000)(fr:List Int)(hf:fr.length<100000)(hfr:∀x∈fr,0<=x/\x<256):∃rs,l26_roots L fr=some rs/\rs.length=fr.length/\∀p∈rs,AddrOk L p:=by
 have w0:IntKind.wrap .i64 ((L.length:Int)+1)=(L.length:Int)+1:=yfC (by omega) (by omega)
 have key:∃r,l26_roots_l5 L fr ([],0)=some r/\(r.length=fr.length/\∀p∈r,AddrOk L p):=by
  refine ydj (σ:=List Int×Int) (ρ:=List Int) fr.length (fun s=>s.2) (fun s=>s.1.length=s.2.toNat/\∀p∈s.1,AddrOk L p) (fun r=>r.length=fr.length/\∀p∈r,AddrOk L p) (fun s hI h0 h1=>?_) _ ⟨rfl,fun p h=>by cases h⟩ (Ce _) (by simp)
  obtain⟨out,i⟩:=s
  simp only at hI h0 h1 ⊢
  unfold l26_roots_l5_b
  by_cases hlt:i<fr.length
  ·obtain⟨x,hx,hx'⟩:=yaO h0 hlt
   have hxr:=hfr x (Bf hx')
   right
   have w1:IntKind.wrap .i64 x=x:=yfC (by omega) (by omega)
   have hm0:0<=Int.tmod x ((L.length:Int)+1):=Int.tmod_nonneg _ hxr.1
   have hm1:Int.tmod x ((L.length:Int)+1)<(L.length:Int)+1:=Int.tmod_lt_of_pos _ (by omega)
   rw[if_pos (by simpa using hlt),hx,Bg,w0,if_neg (by simp;omega)]
   unfold l26_roots_j4
   rw[w0,w1]
   have happ:∀v,app out [v] 8=some (out++[v]):=fun v=>by unfold app;rw[if_pos (by simp;omega)]
   have w2:IntKind.wrap .i64 (i+1)=i+1:=yfC (by omega) (by omega)
   by_cases hk:Int.tmod x ((L.length:Int)+1)<L.length
   ·obtain⟨o,ho,ho'⟩:=yaO hm0 hk
    rw[if_pos (by simpa using hk),ho,Bg,happ,w2]
    refine⟨_,rfl,⟨by simp;omega,fun p hp=>?_⟩,rfl,by simp only;omega⟩
    rcases Bl.1 hp with hp|hp
    ·exact hI.2 p hp
    ·rw[Be] at hp;subst hp;exact .inr ⟨o,Bf ho',rfl⟩
   ·rw[if_neg (by simpa using hk),happ,w2]
    refine⟨_,rfl,⟨by simp;omega,fun p hp=>?_⟩,rfl,by simp only;omega⟩
    rcases Bl.1 hp with hp|hp
    ·exact hI.2 p hp
    ·rw[Be] at hp;subst hp;exact .inl rfl
  ·left
   exact⟨out,by rw[if_neg (by simpa using hlt)],by have:=hI.1;omega,hI.2⟩
 obtain⟨r,h1,h2,h3⟩:=key
 refine⟨r,?_,h2,h3⟩
 unfold l26_roots
 rw[h1];rfl
open Go
set_option maxRecDepth 100000
set_option maxHeartbeats 4000000
def isTrueH:Option (HV×HSt)->Bool
 | some (.p (.bool true),_)=>true
 | _=>false
theorem yir{r:Option (HV×HSt)}(h:isTrueH r=true):∃st,r=some (.p (.bool true),st):=by
 unfold isTrueH at h
 split at h
 ·exact⟨_,rfl⟩
 ·cases h
def KN:HCalls:=fun _ _ _=>Option.none
theorem yqE{P:Program}:HCallOk P KN:=fun _ _ _ _ _ h=>by cases h
theorem w15:isTrueH (evHF C0 KN TH 300 15 [] [])=true:=by kernel_rfl
def KW:HCalls:=fun f ws st=>if f=15 then sealed (evHF C0 KN TH 300) f ws st else Option.none
theorem yqF(st:HSt):KW 15 [] st=some (.p (.bool true),st):=by
 obtain⟨st',h⟩:=yir w15
 simp[KW,sealed,h,PV.flat,PV.flat1]
theorem ypE{f:Nat}(h:f≠15):KW f = fun _ _=>Option.none:=by
 funext ws st;exact if_neg h
theorem yqG{P:Program}(hm:P.follows .mixedOrders=true)(hT:TOkH P TH):HCallOk P KW:=by
 intro f ws st r st' h
 unfold KW at h
 split at h
 ·exact ylh (yd0 hm yn3 yqE hT 300) f ws st r st' h
 ·cases h
noncomputable def KS0:HCalls:=orK KW KP
theorem yoH{f:Nat}(h:lp.contains f=false)(ws:List HV)(st:HSt):KP f ws st=Option.none:=by
 have hc:∀vs,pureC T lp f vs=Option.none:=fun vs=>by unfold pureC;rw[h];rfl
 unfold KP orK pureK lentC
 simp only[hc]
 split
 ·rename_i r hr
  split at hr
  ·split at hr
   ·split at hr <;> cases hr
   ·cases hr
  ·cases hr
 ·split<;>rfl
theorem yhh{f:Nat}(h:lp.contains f=false)(h2:f≠15)(ws:List HV)(st:HSt):KS0 f ws st=Option.none:=by
 unfold KS0 orK
 rw[ypE h2]
 exact yoH h ws st
theorem yoI:KB KS0 where
 pu f hf:=by
  funext ws st
  unfold KS0 orK
  rw[ypE (fun e=>by subst e;exact absurd hf (by decide))]
 no f hf ws st:=by
  refine yhh ?_ (fun e=>by subst e;exact absurd hf (by decide)) ws st
  simp only[lw,List.contains_eq_mem,Bi,B8,or_false,B6] at hf
  rcases hf with rfl|rfl|rfl|rfl|rfl|rfl|rfl|rfl|rfl|rfl|rfl|rfl|rfl|rfl|rfl|rfl|rfl|rfl|rfl<;>decide
open Go
set_option maxRecDepth 10000
set_option maxHeartbeats 4000000
variable {K:HCalls}
open Go
set_option maxRecDepth 10000
set_option maxHeartbeats 4000000
variable {K:HCalls} {ars:List Area} {L:List r26_Object} {hi:Int}
theorem yis{st:HSt}{b i:Nat}{x:HB}(h:st[i]? = some x)(hn:i≠b):(killD [b] st)[i]? = some x:=by
 rw[yaD,if_neg (by simp;intro e;exact absurd e hn),h]
theorem yqH{l li:List Nat}{f:Nat}(h1:l.contains f=false)(h2:li.contains f=true){wv:List HV}{st st':HSt}{a:Area}{oh:HV}{xs:List Int}(hne:xs≠[])(n:Nat)
 (e:evHF C0 K TH n f wv st=some (mkTup [hA a,oh],st'))(R:RowI st.length st' oh xs){sp wb:Nat}{ws':List Int}(S:SpaceAt st' sp wb ws')(hsp:sp<st.length/\wb<st.length)(Kp:Keeps wb st st'):
 ∃st2,lev K l li f wv st=some (.p (.tup [.agg [.int .i64 a.Lo,.int .i64 a.Hi,.int .i64 a.Next],.sl xs.length (xs.flatMap (cint .i64))]),st2)/\SpaceAt st2 sp wb ws'/\Keeps wb st st2:=by
 rcases R with⟨h,_⟩|⟨b,_,hb,rfl,hst⟩
 ·exact absurd h hne
 rw[yes] at hst
 have e0:mkTup [hA a,.row b 0 xs.length 1] = .tup [hA a,.row b 0 xs.length 1]:=rfl
 rw[e0] at e
 have er:rowsH st' 4 (.tup [hA a,.row b 0 xs.length 1])=[b]:=by
  have e1:rowsH st' 3 (.row b 0 xs.length 1)=rowsV st' 3 (.row b 0 xs.length 1):=rfl
  simp only[rowsH,Bn,List.flatMap_nil,e1,ycC,Bt,Br]
  rw[yau hst,A5,←List.map_take,yaN,ybn]
  rfl
 have hr:=ybF (k:=3) (D:=[b]) (off:=0) (len:=xs.length) (sz:=1) (by simp) hst (by rw[Bh,ybG];omega) (by
  rw[A5,Aw (by rw[Bh,ybG];omega)]
  exact ycB (ycc xs))
 have:=yfD (K:=K) h1 h2 n e (r':=.p (.tup [.agg [.int .i64 a.Lo,.int .i64 a.Hi,.int .i64 a.Next],.sl xs.length (xs.flatMap (cint .i64))])) (by
  rw[er]
  simp only[iceV,allO,hr,An]
  rfl)
 rw[er] at this
 refine⟨_,this,⟨yis S.s (by omega),yis S.w (by omega)⟩,⟨by rw[ybW];exact Kp.len,fun i hi hn=>?_⟩⟩
 rw[yaD,if_neg (by simp;omega)]
 exact Kp.get i hi hn
open Go
def tot:List Key->Int
 | []=>0
 | k::r=>1+k.2+tot r
theorem ygB:∀ks:List Key,0<=tot ks
 | []=>Ce _
 | k::r=>by have:=ygB r;simp only[tot];omega
theorem yfI:∀{ks:List Key} {lo hi:Int},Chain lo ks hi->hi=lo+tot ks
 | [],lo,hi,h=>by simp only[Chain] at h;simp[tot];omega
 | k::r,lo,hi,h=>by
   have:=yfI h.2
   simp only[tot];omega
theorem yeb(p:Key->Bool):∀ks:List Key,tot ks=tot (ks.filter p)+tot (ks.filter fun k=>!p k)
 | []=>rfl
 | k::r=>by
   have:=yeb p r
   cases h:p k <;> simp[List.filter_cons,h,tot]<;>omega
def sumg(g:Int->Nat):List Int->Nat
 | []=>0
 | x::r=>g x+sumg g r
theorem ygC(g:Int->Nat){x:Int}:∀{ys:List Int},x∈ys->sumg g ys=g x+sumg g (ys.erase x)
 | y::ys,h=>by
   by_cases e:y=x
   ·subst e;rw[List.erase_cons_head];rfl
   ·have h':=(Bi.1 h).resolve_left fun e'=>e e'.symm
    rw[List.erase_cons_tail (by simpa using e)]
    simp only[sumg]
    rw[ygC g h'];omega
theorem yit(g:Int->Nat):∀{xs ys:List Int},xs.Nodup->(∀x∈xs,x∈ys)->sumg g xs<=sumg g ys
 | [],ys,_,_=>by simp[sumg]
 | x::xs,ys,hn,hs=>by
   have hx:x∈ys:=hs x (by simp)
   rw[List.nodup_cons] at hn
   have h1:=yit g (ys:=ys.erase x) hn.2 fun y hy=>(List.mem_erase_of_ne (fun e=>hn.1 (by rw[←e];exact hy))).2 (hs y (by simp[hy]))
   rw[ygC g hx]
   simp only[sumg];omega
variable {L:List r26_Object}
theorem yjZ:∀(F:List Int) (t:Int),endT L t F=t+sumg (fun p=>1+slN L p) F
 | [],t=>by simp[endT,sumg]
 | p::r,t=>by
   simp only[endT,sumg]
   rw[yjZ r];omega
theorem yl1(hap:(L.map keyOf).Pairwise Apart):∀l:List r26_Object,(∀o∈l,o∈L)->(sumg (fun p=>1+slN L p) (l.map r26_Object.At):Int)=tot (l.map keyOf)
 | [],_=>rfl
 | o::l,h=>by
   have e:=yiq (yaQ hap (h o (by simp)))
   have:=yl1 hap l fun x hx=>h x (by simp[hx])
   simp only[Bu,sumg,tot,e]
   simp only[keyOf] at this ⊢
   omega
theorem room{ars:List Area}(hap:(L.map keyOf).Pairwise Apart){F:List Int}(h:OutOk L ars F)(t:Int):endT L t F<=t+tot ((L.filter fun o=>inAny ars o.At).map keyOf):=by
 rw[yjZ,←yl1 hap (L.filter fun o=>inAny ars o.At) (fun o ho=>(B7.1 ho).1)]
 have:=yit (fun p=>1+slN L p) h.nodup (ys:=(L.filter fun o=>inAny ars o.At).map r26_Object.At) fun p hp=>by
  obtain⟨h1,o,ho,rfl⟩:=h.mem p hp
  exact Bm.2 ⟨o,B7.2 ⟨ho,h1⟩,rfl⟩
 omega
theorem yku{a b:Key}(h:Apart a b):Apart b a:=h.symm
theorem ysc{ws:List Int}{As:List Area}(H:Spc ws As L)(ars:List Area)(t0 hi:Int)(ht:0<t0)(hw:hi<=ws.length)(hout:∀k∈L.map keyOf,k.1+1+k.2<=t0\/hi<=k.1):MVI L ars t0 hi ws [] (nf L ars):=by
 have hp:List.Perm ((nf L ars).map keyOf++(L.filter fun o=>inAny ars o.At).map keyOf) (L.map keyOf):=by
  rw[←Ck]
  refine List.Perm.map _ ?_
  have h1:=List.filter_append_perm (fun o:r26_Object=>inAny ars o.At) L
  exact List.Perm.trans List.perm_append_comm h1
 refine⟨fun o ho=>H.ok o (B7.1 ho).1,fun o ho _ _=>H.ok o ho,fun p h=>(by cases h),?_,fun k hk=>?_,OutOk.nil _ _,ht,hw⟩
 ·exact (List.Perm.pairwise_iff (fun h=>yku h) hp).2 H.lay.apart
 ·have hk':=hp.mem_iff.1 hk
  exact⟨H.lay.pos hk',hout k hk'⟩
structure Mvd (ws:List Int) (L:List r26_Object) (F:List Int) (m:Int->Int):Prop where
 obj:∀p∈F,∃(k:Nat) (o:r26_Object),r26_Find L p=some (k:Int)/\L[k]? = some o/\0<p/\0<m p/\OkSh o.Shape/\(o.Slots.length:Int)=o.Shape.Slots/\ws[(m p).toNat]? = some (hdB o.Shape) /\
  ∀(j:Nat) (v:Int),o.Slots[j]? = some v->ws[(m p).toNat+1+j]? = some (if ptB o.Shape j=true then m v else v)/\(ptB o.Shape j=true->v=0\/v∈F)
 zero:m 0=0
 inj:∀p∈F,∀q∈F,m p=m q->p=q
open Go
set_option maxRecDepth 10000
set_option maxHeartbeats 4000000
variable {K:HCalls}
theorem ymY(F ts:List Int)(hl:F.length=ts.length)(hF:F.length<100000)(q:Int):r26_moved F ts q=some (mvd F ts q):=by
 have key:∃r,r26_moved_l1 F ts q 0=some r/\(r = .stop (mvd F ts q)\/(r = .next ()/\mvd F ts q=q)):=by
  refine ydj (ρ:=Stp Unit Int) F.length (fun s=>s) (fun s=>mvd F ts q=mvd (F.drop s.toNat) (ts.drop s.toNat) q) (fun r=>r = .stop (mvd F ts q)\/(r = .next ()/\mvd F ts q=q)) (fun s hI h0 h1=>?_) 0 (by simp) (Ce _) (by omega)
  try simp only at hI h0 h1
  unfold r26_moved_l1_b
  by_cases h:s<F.length
  ·obtain⟨x,hx,hx'⟩:=yaO h0 h
   obtain⟨y,hy,hy'⟩:=yaO (xs:=ts) h0 (by omega)
   have hd1:F.drop s.toNat=x::F.drop (s.toNat+1):=by
    obtain⟨h2,h3⟩:=Ad.1 hx'
    rw[A8 h2,h3]
   have hd2:ts.drop s.toNat=y::ts.drop (s.toNat+1):=by
    obtain⟨h2,h3⟩:=Ad.1 hy'
    rw[A8 h2,h3]
   rw[hd1,hd2] at hI
   simp only[mvd] at hI
   rw[if_pos (by simpa using h),hx,Bg]
   by_cases e:x=q
   ·left
    rw[if_pos e] at hI
    exact⟨.stop y,by rw[if_pos (by simpa using e),hy,Bg],.inl (by rw[hI])⟩
   ·right
    rw[if_neg e] at hI
    refine⟨s+1,by rw[if_neg (by simpa using e),yfC (by omega) (by omega)],?_,rfl,by omega⟩
    try simp only
    rw[show (s+1).toNat=s.toNat+1 by omega];exact hI
  ·left
   refine⟨.next (),by rw[if_neg (by simpa using h)],.inr ⟨rfl,?_⟩⟩
   rw[hI,List.drop_of_length_le (by omega)];rfl
 obtain⟨r,h1,h2⟩:=key
 unfold r26_moved
 rw[h1]
 rcases h2 with rfl|⟨rfl,h2⟩
 ·rfl
 ·rw[h2];rfl
theorem k85(B:KPu K){st:HSt}{b0 b1:Nat}{h h':HV}{F ts:List Int}(R:RowI b0 st h F)(R':RowI b1 st h' ts)(hl:F.length=ts.length)(hF:F.length<100000)(q:Int)(n:Nat):evHF C0 K TH (n+1) 85 [h,h',hI q] st=some (hI (mvd F ts q),st):=by
 have e:=yii F ts q _ (ymY F ts hl hF q)
 rcases R with⟨rfl,rfl⟩|⟨b,hne,hb,rfl,hst⟩
 ·have:ts=[]:=A3 hl.symm
  subst this
  rcases R' with⟨_,rfl⟩|⟨_,h1,_⟩
  ·exact B.known (f:=85) rfl (ws:=[.nils,.nils,.int .i64 q]) rfl e rfl rfl rfl n st
  ·exact absurd rfl h1
 ·rcases R' with⟨rfl,_⟩|⟨c,_,hc,rfl,hct⟩
  ·exact absurd (A3 hl) hne
  ·rw[yes] at hst hct
   refine B.lent (f:=85) rfl (vs:=[.sl F.length (F.flatMap (cint .i64)),.sl ts.length (ts.flatMap (cint .i64)),.int .i64 q]) ?_ rfl e rfl n
   simp only[rdL,yhc hst (ybG F) (ycc F),yhc hct (ybG ts) (ycc ts)]
   rfl
open Go
set_option maxRecDepth 10000
set_option maxHeartbeats 4000000
variable {K:HCalls}
abbrev hB8(l:List Int):HV:=.p (.sl l.length (l.flatMap (cint .u8)))
structure Old (st:HSt) (sp p9 ob:Nat) (As:List Area) (L:List r26_Object):Prop where
 b9:st[p9]? = some (.box [.ptr sp 0,hAs As,hL L])
 ob:st[ob]? = some (.row 4 L.length ((L.flatMap cr26_Object).map .p))
open Go
set_option maxRecDepth 10000
set_option maxHeartbeats 4000000
variable {K:HCalls}
def hcl:HC->HC
 | .seq a _=>a
 | c=>c
def hcr:HC->HC
 | .seq _ b=>b
 | c=>c
def hcb:HC->HC
 | .block _ b _=>b
 | c=>c
theorem Same.mono{m n:Nat}{st st':HSt}(h:Same n st st')(hm:m<=n):Same m st st':=⟨h.len,fun i hi=>h.get i (by omega)⟩
theorem RowI.two{base:Nat}{st:HSt}{h:HV}{xs:List Int}(R:RowI base st h xs):(xs=[]/\h = .p .nils)\/(xs≠[]/\∃b n,h = .row b 0 n 1):=by
 rcases R with h|⟨b,h1,_,h2,_⟩
 ·exact .inl h
 ·exact .inr ⟨h1,b,_,h2⟩
open Go
set_option maxRecDepth 10000
set_option maxHeartbeats 4000000
variable {K:HCalls}
structure Two (base:Nat) (st:HSt) (ah bh:HV) (xs ys:List Int):Prop where
 A:RowI base st ah xs
 B:RowI base st bh ys
 len:xs.length=ys.length
 ne:∀b n c m,ah = .row b 0 n 1->bh = .row c 0 m 1->b≠c
open Go
set_option maxRecDepth 10000
set_option maxHeartbeats 4000000
variable {K:HCalls}
abbrev bx8:HV:=.p (.box [.int .i64 0,.int .i64 0,.int .i64 0,.nils])
def env84(lh th:HV)(p4 p9 i:Nat):HEnv:=[(2,lh),(3,th),(4,.ptr p4 0),(8,bx8),(9,.ptr p9 0),(10,hI i)]
abbrev bxO(at':Int)(x:Shape)(h:HV):HB:=.box [hI at',hI x.Slots,hI x.Mask,h]
structure T84 (base p4 p9:Nat) (o:r26_Object) (at':Int) (st:HSt) (oh:HV) (xs:List Int):Prop where
 b4:st[p4]? = some (bxO o.At o.Shape (.p (.sl o.Slots.length (o.Slots.flatMap (cint .i64)))))
 b9:st[p9]? = some (bxO at' o.Shape oh)
 R:RowI base st oh xs
 lt:p4<base/\p9<base
 ne:p4≠p9
 ge:base<=st.length
theorem ypF(B:KPu K){base p4 p9:Nat}{o:r26_Object}{at':Int}(hx:OkSh o.Shape){st:HSt}{oh:HV}{xs:List Int}(H:T84 base p4 p9 o at' st oh xs){b0 b1:Nat}{lh th:HV}{F ts:List Int}(RF:RowI b0 st lh F)(RT:RowI b1 st th ts)(hFt:F.length=ts.length)(hF:F.length<100000){i:Nat}{v:Int}(hv:o.Slots[i]? = some v)(hi:i<1000)(hxs:xs.length<1000){n0:Nat}(hn:n0<=p9/\n0<=base):
 ∃st1 oh1,Run C0 K TH h84l0 (env84 lh th p4 p9 i,st) .norm (env84 lh th p4 p9 (i+1),st1)/\T84 base p4 p9 o at' st1 oh1 (xs++[if ptB o.Shape i=true then mvd F ts v else v])/\Same n0 st st1:=by
 obtain⟨b4,b9,R,⟨lt4,lt9⟩,n4,ge⟩:=H
 have hil:i<o.Slots.length:=(Ad.1 hv).1
 have hil':(i:Int)<o.Slots.length:=by omega
 have c2:=yba hv
 have w:=wrN (i:=i) (by omega)
 have e23:=fun n=>k23 (n:=n) (st:=st) B hx i
 have e85:=fun n=>k85 B RF RT hFt hF v n
 obtain⟨v',hv'⟩:∃v',(if ptB o.Shape i=true then mvd F ts v else v)=v':=⟨_,rfl⟩
 rw[hv']
 have l4:p4<st.length:=by omega
 have l9:p9<st.length:=by omega
 have y4:∀g:HSt,(st++g)[p4]? = st[p4]?:=fun g=>Aj l4
 have y9:∀g:HSt,(st++g)[p9]? = some (bxO at' o.Shape oh):=fun g=>by rw[Aj l9,b9]
 have z9:∀(g:HSt) (y:HB),(st++g).set p9 y=st.set p9 y++g:=fun g y=>A6 _ _ l9
 have hq:=yah o.Slots
 rcases R with⟨rfl,rfl⟩|⟨c,hcne,hc,rfl,hct⟩
 ·let g:HSt:=[.row 1 1 [hI v'],.row 1 1 [hI v']]
  have hg:∀(y:HB) (j:Nat),(st.set p9 y++g)[st.length+j]? = g[j]?:=fun y j=>by rw[A7 (by simp)];simp
  refine⟨st.set p9 (bxO at' o.Shape (.row (st.length+1) 0 1 1))++g,.row (st.length+1) 0 1 1,?_,⟨?_,?_,.inr ⟨st.length+1,by simp,by omega,rfl,by rw[hg];rfl⟩,⟨lt4,lt9⟩,n4,by simp;omega⟩,⟨by simp,fun q hq=>?_⟩⟩
  ·cases hp:ptB o.Shape i with
   | true=>
     rw[hp] at e23 hv'
     rw[if_pos rfl] at hv'
     rw[hv'] at e85
     rcases RF.sh with rfl|⟨b2,q2,rfl⟩ <;> rcases RT.sh with rfl|⟨b3,q3,rfl⟩
     all_goals
      refine Run.of 60 ?_
      simp (config:={ maxSteps:=4000000 }) [↓yg,↓yc,yl,-getElem?_pos,Ah,Ai,yx,yA,ye,yd,yp,yj,yu,yk,yw,h84l0,env84,hil,hil',c2,w,e23,e85,b4,b9,y9,z9,g]
   | false=>
     rw[hp] at e23 hv'
     rw[if_neg (by simp)] at hv'
     subst hv'
     rcases RF.sh with rfl|⟨b2,q2,rfl⟩ <;> rcases RT.sh with rfl|⟨b3,q3,rfl⟩
     all_goals
      refine Run.of 60 ?_
      simp (config:={ maxSteps:=4000000 }) [↓yg,↓yc,yl,-getElem?_pos,Ah,Ai,yx,yA,ye,yd,yp,yj,yu,yk,yw,h84l0,env84,hil,hil',c2,w,e23,b4,b9,y9,z9,g]
  ·rw[Aj (by simpa using l4),Ar (by omega)];exact b4
  ·rw[Aj (by simpa using l9),Bk l9]
  ·rw[Aj (by simp;omega),Ar (by omega)]
 ·have hcl:c<st.length:=(Ad.1 hct).1
  have hc9:c≠p9:=by omega
  obtain⟨m,hm⟩:∃m,xs.length=m:=⟨_,rfl⟩
  let g:HSt:=[.row 1 1 [hI v'],.row 1 (m+1) (xs.map (fun n=>HV.p (.int .i64 n))++[hI v'])]
  have f4:∀g:HSt,(st++g)[c]? = some (.row 1 m (xs.map fun n=>.p (.int .i64 n))):=fun g=>by rw[Aj hcl,hct,hm]
  have d1:(m+1)*8<=1099511627776:=by omega
  have d2:m+1<=1099511627776:=by omega
  have d3:(xs.map fun n=>HV.p (.int .i64 n)).take m=xs.map fun n=>HV.p (.int .i64 n):=Aw (by simp;omega)
  have f5:∀(g:HSt) (x:HB),(st++g).set c x=st.set c x++g:=fun g x=>A6 _ _ hcl
  have f8:∀(g:HSt) (x:HB) (j:Nat),(st.set c x++g)[st.length+j]? = g[j]?:=fun g x j=>by rw[A7 (by simp)];simp
  have f10:∀(g:HSt) (x:HB),(st.set c x++g)[p9]? = some (bxO at' o.Shape (.row c 0 m 1)):=fun g x=>by rw[Aj (by simpa using l9),Ar hc9,b9,hm]
  have f11:∀(g:HSt) (x y:HB),(st.set c x++g).set p9 y=(st.set c x).set p9 y++g:=fun g x y=>A6 _ _ (by simpa using l9)
  have hg:∀(x y:HB) (j:Nat),((st.set c x).set p9 y++g)[st.length+j]? = g[j]?:=fun x y j=>by rw[A7 (by simp)];simp
  simp only[hm] at b9 y9
  refine⟨(st.set c .dead).set p9 (bxO at' o.Shape (.row (st.length+1) 0 (m+1) 1))++g,.row (st.length+1) 0 (m+1) 1,?_,⟨?_,?_,.inr ⟨st.length+1,by simp,by omega,by simp[hm],by rw[hg];simp[g,hm]⟩,⟨lt4,lt9⟩,n4,by simp;omega⟩,⟨by simp,fun q hq=>?_⟩⟩
  ·cases hp:ptB o.Shape i with
   | true=>
     rw[hp] at e23 hv'
     rw[if_pos rfl] at hv'
     rw[hv'] at e85
     rcases RF.sh with rfl|⟨b2,q2,rfl⟩ <;> rcases RT.sh with rfl|⟨b3,q3,rfl⟩
     all_goals
      refine Run.of 60 ?_
      simp (config:={ maxSteps:=4000000 }) [↓yg,↓yc,yl,-getElem?_pos,Ah,Ai,yx,yA,ye,yd,yp,yj,yu,yk,yw,h84l0,env84,hil,hil',c2,w,e23,e85,b4,b9,y9,f4,f5,f8,f10,f11,d1,d2,d3,hm,g]
   | false=>
     rw[hp] at e23 hv'
     rw[if_neg (by simp)] at hv'
     subst hv'
     rcases RF.sh with rfl|⟨b2,q2,rfl⟩ <;> rcases RT.sh with rfl|⟨b3,q3,rfl⟩
     all_goals
      refine Run.of 60 ?_
      simp (config:={ maxSteps:=4000000 }) [↓yg,↓yc,yl,-getElem?_pos,Ah,Ai,yx,yA,ye,yd,yp,yj,yu,yk,yw,h84l0,env84,hil,hil',c2,w,e23,b4,b9,y9,f4,f5,f8,f10,f11,d1,d2,d3,hm,g]
  ·rw[Aj (by simpa using l4),Ar (by omega),Ar (by omega)];exact b4
  ·rw[Aj (by simpa using l9),Bk (by simpa using l9)]
  ·rw[Aj (by simp;omega),Ar (by omega),Ar (by omega)]
open Go
set_option maxRecDepth 10000
set_option maxHeartbeats 4000000
variable {K:HCalls}
theorem ypG{base p4 p9:Nat}{o:r26_Object}{at':Int}{st:HSt}{oh:HV}{xs:List Int}(H:T84 base p4 p9 o at' st oh xs)(lh th:HV):Run C0 K TH h84l0 (env84 lh th p4 p9 o.Slots.length,st) (.exit 0) ([(8,bx8),(9,.ptr p9 0)],st):=by
 have b4:=H.b4
 refine Run.of 60 ?_
 simp (config:={ maxSteps:=4000000 }) [↓yg,↓yc,yl,-getElem?_pos,Ah,Ai,yx,yA,ye,yd,yp,yj,yu,yk,yw,h84l0,env84,b4]
def trnM(F ts:List Int)(x:Shape):Nat->List Int->List Int
 | _,[]=>[]
 | i,v::r=>(if ptB x i=true then mvd F ts v else v)::trnM F ts x (i+1) r
theorem yny(B:KPu K){base p4 p9:Nat}{o:r26_Object}{at':Int}(hx:OkSh o.Shape)(hol:o.Slots.length<1000){b0 b1:Nat}{lh th:HV}{F ts:List Int}(hFt:F.length=ts.length)(hF:F.length<100000){n0:Nat}(hn:n0<=p9/\n0<=base)(hlF:∀b,lh = .row b 0 F.length 1->b<n0)(hlT:∀b,th = .row b 0 ts.length 1->b<n0):∀(m i:Nat) (st:HSt) (oh:HV) (xs:List Int),o.Slots.length-i=m->i<=o.Slots.length->xs.length<=i->RowI b0 st lh F->RowI b1 st th ts->T84 base p4 p9 o at' st oh xs ->
 ∃st1 oh1,Run C0 K TH (.loop h84l0 [2,3,4,8,9,10]) (env84 lh th p4 p9 i,st) (.exit 0) ([(8,bx8),(9,.ptr p9 0)],st1)/\T84 base p4 p9 o at' st1 oh1 (xs++trnM F ts o.Shape i (o.Slots.drop i))/\Same n0 st st1
 | 0,i,st,oh,xs,hm,hi,hxi,RF,RT,H=>by
   have:i=o.Slots.length:=by omega
   subst this
   refine⟨st,oh,Run.loopX (ypG H lh th) (by simp),by rw[Bw];simpa[trnM] using H,Same.refl _ _⟩
 | m+1,i,st,oh,xs,hm,hi,hxi,RF,RT,H=>by
   have hil:i<o.Slots.length:=by omega
   obtain⟨st1,oh1,r1,H1,S1⟩:=ypF B hx H RF RT hFt hF (i:=i) (v:=o.Slots[i]) (by simp[hil]) (by omega) (by omega) hn
   obtain⟨st2,oh2,r2,H2,S2⟩:=yny B hx hol hFt hF hn hlF hlT m (i+1) st1 oh1 _ (by omega) (by omega) (by simp;omega) (RF.same S1.get hlF) (RT.same S1.get hlT) H1
   refine⟨st2,oh2,Run.loopN r1 ?_,by rw[A8 hil];simpa[trnM] using H2,S1.trans S2⟩
   have:(env84 lh th p4 p9 (i+1)).keep [2,3,4,8,9,10]=env84 lh th p4 p9 (i+1):=by simp[env84,HEnv.keep]
   rw[this];exact r2
abbrev hO(o:r26_Object):HV:=.p (.agg [.int .i64 o.At,.int .i64 o.Shape.Slots,.int .i64 o.Shape.Mask,.sl o.Slots.length (o.Slots.flatMap (cint .i64))])
theorem e84(B:KPu K)(hk:∀ws st,K 84 ws st = .none){o:r26_Object}(at':Int)(hx:OkSh o.Shape)(hol:o.Slots.length<1000){st:HSt}{b0 b1:Nat}{lh th:HV}{F ts:List Int}(RF:RowI b0 st lh F)(RT:RowI b1 st th ts)(hFt:F.length=ts.length)(hF:F.length<100000):
 ∃st1 oh n0,(∀n,n0<=n->evHF C0 K TH n 84 [hO o,hI at',lh,th] st=some (mkAgg [hI at',hI o.Shape.Slots,hI o.Shape.Mask,oh],st1))/\RowI st.length st1 oh (trnM F ts o.Shape 0 o.Slots)/\Same st.length st st1:=by
 have hlF:∀b,lh = .row b 0 F.length 1->b<st.length:=fun b e=>by
  rcases RF with⟨_,h1⟩|⟨b',h1,h2,h3,h4⟩
  ·rw[h1] at e;cases e
  ·rw[h3] at e;cases e;exact (Ad.1 h4).1
 have hlT:∀b,th = .row b 0 ts.length 1->b<st.length:=fun b e=>by
  rcases RT with⟨_,h1⟩|⟨b',h1,h2,h3,h4⟩
  ·rw[h1] at e;cases e
  ·rw[h3] at e;cases e;exact (Ad.1 h4).1
 let g:HSt:=[bxO o.At o.Shape (.p (.sl o.Slots.length (o.Slots.flatMap (cint .i64)))),bxO at' o.Shape (.p .nils)]
 have S0:Same st.length st (st++g):=Same.app (Av _) g
 have H0:T84 (st.length+2) st.length (st.length+1) o at' (st++g) (.p .nils) []:=
  ⟨by rw[yy];rfl,by rw[ym];rfl,.inl ⟨rfl,rfl⟩,⟨by omega,by omega⟩,by omega,by simp[g]⟩
 obtain⟨st1,oh,r,H1,S1⟩:=yny B hx hol hFt hF (n0:=st.length) (by omega) hlF hlT o.Slots.length 0 _ _ [] (by omega) (by omega) (by simp) (RF.app g) (RT.app g) H0
 rw[A5,Bt] at H1
 obtain⟨n1,hn1⟩:=Run.all r
 have z0:((0:Nat):Int)=0:=rfl
 simp only[env84,hI,z0,g,bxO] at hn1
 have b9:=H1.b9
 have R1:=H1.R
 refine⟨st1++[bxO at' o.Shape oh],oh,n1+60,fun n hn=>yz hn _ _ _ _ (yD (n:=n1+59) hk (x:=h84) rfl rfl ?_),?_,?_⟩
 ·rcases RF.sh with rfl|⟨b2,q2,rfl⟩ <;> rcases RT.sh with rfl|⟨b3,q3,rfl⟩ <;> rcases R1.sh with rfl|⟨b5,q5,rfl⟩
  all_goals simp (config:={ maxSteps:=4000000 }) [↓yg,↓yc,yl,-getElem?_pos,Ah,Ai,yx,yA,ye,yd,yp,yj,yu,yk,yw,h84,hn1,b9]
 ·rcases R1 with h1|⟨b,h1,h2,h3,h4⟩
  ·exact .inl h1
  ·exact .inr ⟨b,h1,by omega,h3,by rw[Aj (Ad.1 h4).1];exact h4⟩
 ·have:=(S0.trans S1)
  exact⟨by have:=this.len;simp;omega,fun i hi=>by rw[Aj (by have:=this.len;omega)];exact this.get i hi⟩
open Go
set_option maxRecDepth 10000
set_option maxHeartbeats 4000000
variable {K:HCalls}
abbrev bx31:HV:=.p (.box [.nils,.int .i64 0,.int .i64 0,.int .i64 0,.nils])
def env31a(L:List r26_Object)(ah:HV)(rs:List Int)(al h10 lh:HV)(p12:Nat)(th:HV)(i:Nat):HEnv:=[(0,hL L),(1,ah),(3,hN rs),(4,al),(10,h10),(11,lh),(12,.ptr p12 0),(13,th),(14,hI i)]
abbrev bxM(lo hi nx:Int)(h g:HV):HB:=.box [h,hI lo,hI hi,hI nx,g]
abbrev bk31:HB:=.box [.p .nils,hI 0,hI 0,hI 0,.p .nils]
def H10(p:Nat)(st:HSt)(h:HV):Prop:=h=bx31\/∃q,h = .ptr q 0/\p<q/\st[q]? = some bk31
structure T31 (base p12:Nat) (lo hi nx:Int) (st:HSt) (th:HV) (xs:List Int):Prop where
 b12:st[p12]? = some (bxM lo hi nx (.p .nils) (.p .nils))
 R:RowI base st th xs
 lt:p12<base
 ge:base<=st.length
theorem yoJ(B:KPu K){base p12:Nat}{L:List r26_Object}(hl:L.length<100000)(ars:List Area){al:HV}(hal:al = .p .nils\/∃l,al=hN l){st:HSt}{h10:HV}(h10h:H10 p12 st h10){F:List Int}{lb:Nat}(hF:st[lb]? = some (.row 1 F.length (F.map fun n=>.p (.int .i64 n))))(hFl:F.length<100000){lo hi nx:Int}{th:HV}{xs:List Int}(H:T31 base p12 lo hi nx st th xs)(hxs:xs.length<100000)(hlb:lb<p12)(hnx:0<=nx/\nx<1000000000){i:Nat}{v:Int}(hv:F[i]? = some v){k:Nat}{o:r26_Object}(hf:r26_Find L v=some (k:Int))(ho:L[k]? = some o)(hol:o.Slots.length<1000)(rs:List Int):
 ∃st1 th1 h1,Run C0 K TH h31l0 (env31a L (hAs ars) rs al h10 (.row lb 0 F.length 1) p12 th i,st) .norm (env31a L (hAs ars) rs al h1 (.row lb 0 F.length 1) p12 th1 (i+1),st1)/\H10 p12 st1 h1/\T31 base p12 lo hi (nx+1+o.Slots.length) st1 th1 (xs++[nx])/\Same p12 st st1:=by
 obtain⟨b12,R,lt,ge⟩:=H
 have hil:i<F.length:=(Ad.1 hv).1
 have hil':(i:Int)<F.length:=by omega
 have hkl:k<L.length:=(Ad.1 ho).1
 have hkl':(k:Int)<L.length:=by omega
 have w:=wrN (i:=i) (by omega)
 have w1:IntKind.i64.wrap (nx+1)=nx+1:=yK (by omega)
 have w2:IntKind.i64.wrap (nx+1+o.Slots.length)=nx+1+o.Slots.length:=yK (by omega)
 have i1:i+1<=F.length:=by omega
 have c3:(F.map fun n=>HV.p (.int .i64 n))[i]? = some (hI v):=by simp[hv]
 obtain⟨cs,hcs⟩:∃cs,(F.map fun n=>HV.p (.int .i64 n))=cs:=⟨_,rfl⟩
 have c4:cs.length=F.length:=by rw[←hcs];simp
 rw[hcs] at hF c3
 have ll:lb<st.length:=(Ad.1 hF).1
 have l12:p12<st.length:=by omega
 have y1:∀g:HSt,(st++g)[lb]? = some (.row 1 F.length cs):=fun g=>by rw[Aj ll,hF]
 have y2:∀g:HSt,(st++g)[p12]? = some (bxM lo hi nx (.p .nils) (.p .nils)):=fun g=>by rw[Aj l12,b12]
 have y3:∀(g:HSt) (y:HB),(st++g).set p12 y=st.set p12 y++g:=fun g y=>A6 _ _ l12
 have c2:((L.flatMap cr26_Object).drop (k*4)).take 4=[.int .i64 o.At,.int .i64 o.Shape.Slots,.int .i64 o.Shape.Mask,.sl o.Slots.length (o.Slots.flatMap (cint .i64))]:=yF yH L k o ho
 have e21:=fun n st=>k21 B hf n st
 obtain⟨m,hm⟩:∃m,xs.length=m:=⟨_,rfl⟩
 rcases R with⟨rfl,rfl⟩|⟨c,hcne,hc,rfl,hct⟩
 ·have key:∀(e:HSt),T31 base p12 lo hi (nx+1+o.Slots.length) (st.set p12 (bxM lo hi (nx+1+o.Slots.length) (.p .nils) (.p .nils))++([.row 1 1 [hI nx],.row 1 1 [hI nx]]++e)) (.row (st.length+1) 0 1 1) ([]++[nx])/\Same p12 st (st.set p12 (bxM lo hi (nx+1+o.Slots.length) (.p .nils) (.p .nils))++([.row 1 1 [hI nx],.row 1 1 [hI nx]]++e))/\∀q,q≠p12->st[q]? = some bk31->(st.set p12 (bxM lo hi (nx+1+o.Slots.length) (.p .nils) (.p .nils))++([.row 1 1 [hI nx],.row 1 1 [hI nx]]++e))[q]? = some bk31:=fun e=>
   ⟨⟨by rw[Aj (by simpa using l12),Bk l12],.inr ⟨st.length+1,by simp,by omega,rfl,by rw[A7 (by simp)];simp⟩,lt,by simp;omega⟩,⟨by simp,fun q hq=>by rw[Aj (by simp;omega),Ar (by omega)]⟩,fun q hq h=>by rw[Aj (by simpa using (Ad.1 h).1),Ar (fun e=>hq e.symm)];exact h⟩
  rcases h10h with rfl|⟨q,rfl,hqp,hqb⟩
  ·obtain⟨k1,k2,k3⟩:=key [.box [.p .nils,hI 0,hI 0,hI 0,.p .nils]]
   refine⟨_,_,.ptr (st.length+2) 0,?_,.inr ⟨_,rfl,by omega,by rw[A7 (by simp)];simp⟩,k1,k2⟩
   rcases hal with rfl|⟨l,rfl⟩
   all_goals
    refine Run.of 60 ?_
    simp (config:={ maxSteps:=4000000 }) [↓yg,↓yc,yl,-getElem?_pos,Ah,Ai,yx,yA,ye,yd,yp,yj,yu,yk,yw,h31l0,env31a,hil,hil',hkl,hkl',w,w1,w2,i1,c2,c3,c4,y1,y2,y3,e21,hF,b12]
  ·obtain⟨k1,k2,k3⟩:=key []
   refine⟨_,_,.ptr q 0,?_,.inr ⟨_,rfl,hqp,k3 q (by omega) hqb⟩,k1,k2⟩
   rcases hal with rfl|⟨l,rfl⟩
   all_goals
    refine Run.of 60 ?_
    simp (config:={ maxSteps:=4000000 }) [↓yg,↓yc,yl,-getElem?_pos,Ah,Ai,yx,yA,ye,yd,yp,yj,yu,yk,yw,h31l0,env31a,hil,hil',hkl,hkl',w,w1,w2,i1,c2,c3,c4,y1,y2,y3,e21,hF,b12]
 ·have hcl:c<st.length:=(Ad.1 hct).1
  have hc12:c≠p12:=by omega
  have hclb:c≠lb:=by omega
  have f4:∀g:HSt,(st++g)[c]? = some (.row 1 m (xs.map fun n=>.p (.int .i64 n))):=fun g=>by rw[Aj hcl,hct,hm]
  have d1:(m+1)*8<=1099511627776:=by omega
  have d2:m+1<=1099511627776:=by omega
  have d3:(xs.map fun n=>HV.p (.int .i64 n)).take m=xs.map fun n=>HV.p (.int .i64 n):=Aw (by simp;omega)
  have f5:∀(g:HSt) (x:HB),(st++g).set c x=st.set c x++g:=fun g x=>A6 _ _ hcl
  have f8:∀(g:HSt) (x:HB) (j:Nat),(st.set c x++g)[st.length+j]? = g[j]?:=fun g x j=>by rw[A7 (by simp)];simp
  have f9:∀(g:HSt) (x:HB),(st.set c x++g)[lb]? = some (.row 1 F.length cs):=fun g x=>by rw[Aj (by simpa using ll),Ar hclb,hF]
  have f10:∀(g:HSt) (x:HB),(st.set c x++g)[p12]? = some (bxM lo hi nx (.p .nils) (.p .nils)):=fun g x=>by rw[Aj (by simpa using l12),Ar hc12,b12]
  have f11:∀(g:HSt) (x y:HB),(st.set c x++g).set p12 y=(st.set c x).set p12 y++g:=fun g x y=>A6 _ _ (by simpa using l12)
  have key:∀(e:HSt),T31 base p12 lo hi (nx+1+o.Slots.length) ((st.set c .dead).set p12 (bxM lo hi (nx+1+o.Slots.length) (.p .nils) (.p .nils))++([.row 1 1 [hI nx],.row 1 (m+1) (xs.map (fun n=>HV.p (.int .i64 n))++[hI nx])]++e)) (.row (st.length+1) 0 (m+1) 1) (xs++[nx])/\Same p12 st ((st.set c .dead).set p12 (bxM lo hi (nx+1+o.Slots.length) (.p .nils) (.p .nils))++([.row 1 1 [hI nx],.row 1 (m+1) (xs.map (fun n=>HV.p (.int .i64 n))++[hI nx])]++e))/\∀q,q≠p12->st[q]? = some bk31->((st.set c .dead).set p12 (bxM lo hi (nx+1+o.Slots.length) (.p .nils) (.p .nils))++([.row 1 1 [hI nx],.row 1 (m+1) (xs.map (fun n=>HV.p (.int .i64 n))++[hI nx])]++e))[q]? = some bk31:=fun e=>
   ⟨⟨by rw[Aj (by simpa using l12),Bk (by simpa using l12)],.inr ⟨st.length+1,by simp,by omega,by simp[hm],by rw[A7 (by simp)];simp[hm]⟩,lt,by simp;omega⟩,⟨by simp,fun q hq=>by rw[Aj (by simp;omega),Ar (by omega),Ar (by omega)]⟩,fun q hq h=>by rw[Aj (by simpa using (Ad.1 h).1),Ar (fun e=>hq e.symm),Ar (fun e=>by rw[←e,hct] at h;cases h)];exact h⟩
  rcases h10h with rfl|⟨q,rfl,hqp,hqb⟩
  ·obtain⟨k1,k2,k3⟩:=key [.box [.p .nils,hI 0,hI 0,hI 0,.p .nils]]
   refine⟨_,_,.ptr (st.length+2) 0,?_,.inr ⟨_,rfl,by omega,by rw[A7 (by simp)];simp⟩,k1,k2⟩
   rcases hal with rfl|⟨l,rfl⟩
   all_goals
    refine Run.of 60 ?_
    simp (config:={ maxSteps:=4000000 }) [↓yg,↓yc,yl,-getElem?_pos,Ah,Ai,yx,yA,ye,yd,yp,yj,yu,yk,yw,h31l0,env31a,hil,hil',hkl,hkl',w,w1,w2,i1,c2,c3,c4,y1,y2,b12,hF,e21,f4,f5,f8,f9,f10,f11,d1,d2,d3,hm]
  ·obtain⟨k1,k2,k3⟩:=key []
   refine⟨_,_,.ptr q 0,?_,.inr ⟨_,rfl,hqp,k3 q (by omega) hqb⟩,k1,k2⟩
   rcases hal with rfl|⟨l,rfl⟩
   all_goals
    refine Run.of 60 ?_
    simp (config:={ maxSteps:=4000000 }) [↓yg,↓yc,yl,-getElem?_pos,Ah,Ai,yx,yA,ye,yd,yp,yj,yu,yk,yw,h31l0,env31a,hil,hil',hkl,hkl',w,w1,w2,i1,c2,c3,c4,y1,y2,b12,hF,e21,f4,f5,f8,f9,f10,f11,d1,d2,d3,hm]
open Go
set_option maxRecDepth 10000
set_option maxHeartbeats 4000000
variable {K:HCalls}
theorem yl2{st:HSt}{L:List r26_Object}(ars:List Area)(rs:List Int)(al h10 lh:HV)(p12:Nat)(th:HV){F:List Int}{b0:Nat}(RF:RowI b0 st lh F):Run C0 K TH h31l0 (env31a L (hAs ars) rs al h10 lh p12 th F.length,st) (.exit 0) ([(0,hL L),(1,hAs ars),(3,hN rs),(4,al),(10,h10),(11,lh),(12,.ptr p12 0),(13,th)],st):=by
 rcases RF with⟨rfl,rfl⟩|⟨b,hne,hb,rfl,hst⟩
 all_goals
  refine Run.of 60 ?_
  simp (config:={ maxSteps:=4000000 }) [↓yg,↓yc,yl,-getElem?_pos,Ah,Ai,yx,yA,ye,yd,yp,yj,yu,yk,yw,h31l0,env31a]
theorem yl3(B:KPu K){base p12:Nat}{L:List r26_Object}(hl:L.length<100000)(hap:(L.map keyOf).Pairwise Apart)(ars:List Area){al:HV}(hal:al = .p .nils\/∃l,al=hN l){F:List Int}{lb:Nat}(hFl:F.length<100000){lo hi:Int}(hlb:lb<p12)(hFm:∀p∈F,∃o∈L,o.At=p)(hok:∀o∈L,o.Slots.length<1000)(rs:List Int)(t0:Int)(hx:endT L t0 F<1000000000)(ht:0<=t0):∀(m i:Nat) (st:HSt) (th h10:HV),F.length-i=m->i<=F.length->H10 p12 st h10->st[lb]? = some (.row 1 F.length (F.map fun n=>.p (.int .i64 n)))->T31 base p12 lo hi (endT L t0 (F.take i)) st th (tos L t0 (F.take i)) ->
 ∃st1 th1 h1,Run C0 K TH (.loop h31l0 [0,1,3,4,10,11,12,13,14]) (env31a L (hAs ars) rs al h10 (.row lb 0 F.length 1) p12 th i,st) (.exit 0) ([(0,hL L),(1,hAs ars),(3,hN rs),(4,al),(10,h1),(11,.row lb 0 F.length 1),(12,.ptr p12 0),(13,th1)],st1)/\H10 p12 st1 h1/\T31 base p12 lo hi (endT L t0 F) st1 th1 (tos L t0 F)/\Same p12 st st1
 | 0,i,st,th,h10,hm,hi',h1,hF,H=>by
   have:i=F.length:=by omega
   subst this
   rw[Co] at H
   by_cases hne:F=[]
   ·subst hne
    refine⟨st,th,h10,Run.loopX (Run.of 60 ?_) (by simp),h1,H,Same.refl _ _⟩
    simp (config:={ maxSteps:=4000000 }) [↓yg,↓yc,yl,-getElem?_pos,Ah,Ai,yx,yA,ye,yd,yp,yj,yu,yk,yw,h31l0,env31a]
   ·exact⟨st,th,h10,Run.loopX (yl2 ars rs al h10 _ p12 th (F:=F) (b0:=0) (.inr ⟨lb,hne,by omega,rfl,hF⟩)) (by simp),h1,H,Same.refl _ _⟩
 | m+1,i,st,th,h10,hm,hi',h1,hF,H=>by
   have hil:i<F.length:=by omega
   obtain⟨o,ho,hoa⟩:=hFm F[i] (Au hil)
   have hob:=yaQ hap ho
   rw[hoa] at hob
   rcases ycV hap (by omega:L.length<140737488355328) F[i] with⟨k,o2,e1,e2,e3,_⟩|⟨_,e2⟩
   ·rw[hob] at e3;cases e3
    have htk:F.take (i+1)=F.take i++[F[i]]:=List.take_succ_eq_append_getElem hil
    have hend:endT L t0 (F.take i)<=endT L t0 F:=by
     have:=ydN (L:=L) (t:=t0) (F.take i) (F.drop i)
     rwa [Cm] at this
    have h0:=ydk (L:=L) (F.take i) t0
    obtain⟨st1,th1,h2,r1,H2,T1,S1⟩:=yoJ B hl ars hal h1 hF hFl H (by rw[yfH,Ci];omega) hlb (by omega) (v:=F[i]) (Bd hil) e1 e2 (hok o ho) rs
    have eT:endT L t0 (F.take (i+1))=endT L t0 (F.take i)+1+o.Slots.length:=by rw[htk,ycW];show endT L t0 (F.take i)+1+(slN L F[i]:Int)=_;rw[yiq hob]
    have eS:tos L t0 (F.take (i+1))=tos L t0 (F.take i)++[endT L t0 (F.take i)]:=by rw[htk,yhd];rfl
    obtain⟨st2,th2,h3,r2,H3,T2,S2⟩:=yl3 B hl hap ars hal hFl hlb hFm hok rs t0 hx ht m (i+1) st1 th1 h2 (by omega) (by omega) H2 (S1.some hlb hF) (by rw[eT,eS];exact T1)
    refine⟨st2,th2,h3,Run.loopN r1 ?_,H3,T2,S1.trans S2⟩
    have:(env31a L (hAs ars) rs al h2 (.row lb 0 F.length 1) p12 th1 (i+1)).keep [0,1,3,4,10,11,12,13,14]=env31a L (hAs ars) rs al h2 (.row lb 0 F.length 1) p12 th1 (i+1):=by simp[env31a,HEnv.keep]
    rw[this];exact r2
   ·rw[hob] at e2;cases e2
open Go
variable {L:List r26_Object}
theorem yl4{ws:List Int}{N:Int}{b0 b1:Area}(H:Spc ws [b0,b1,⟨1+N+N,1+N+N+2*N,1+N+N⟩] L)(h0:b0.Lo=1/\b0.Hi=1+N)(h1:b1.Lo=1+N/\b1.Hi=1+N+N):
 (∀o∈L,inAny [b0,b1] o.At=true)/\tot (L.map keyOf)<=2*N/\∀k∈L.map keyOf,k.1+1+k.2<=1+N+N:=by
 have o0:=H.lay.ord b0 (by simp)
 have o1:=H.lay.ord b1 (by simp)
 have hin:∀k∈L.map keyOf,inA b0 k.1=true\/inA b1 k.1=true:=fun k hk=>by
  obtain⟨a,ha,h⟩:=H.lay.cover k hk
  simp only[Bi,B8,or_false] at ha
  rcases ha with rfl|rfl|rfl
  ·exact .inl h
  ·exact .inr h
  ·rw[yan] at h;simp only at h;omega
 refine⟨fun o ho=>?_,?_,fun k hk=>?_⟩
 ·have:=hin (keyOf o) (Bm.2 ⟨o,ho,rfl⟩)
  simp only[keyOf] at this
  rw[yaP]
  rcases this with h|h
  ·exact⟨b0,by simp,h⟩
  ·exact⟨b1,by simp,h⟩
 ·have c0:=yfI (H.lay.chain b0 (by simp))
  have c1:=yfI (H.lay.chain b1 (by simp))
  have e:=yeb (fun k=>inA b0 k.1) (L.map keyOf)
  have e2:(L.map keyOf).filter (fun k=>!inA b0 k.1)=(L.map keyOf).filter fun k=>inA b1 k.1:=by
   refine List.filter_congr fun k hk=>?_
   rcases hin k hk with h|h
   ·have h':=yan.1 h
    have:inA b1 k.1=false:=by
     cases e:inA b1 k.1 with
     | false=>rfl
     | true=>have:=yan.1 e;omega
    rw[h,this];rfl
   ·have h':=yan.1 h
    have:inA b0 k.1=false:=by
     cases e:inA b0 k.1 with
     | false=>rfl
     | true=>have:=yan.1 e;omega
    rw[h,this];rfl
  rw[e2] at e
  omega
 ·rcases hin k hk with h|h
  ·have:=H.lay.ext (by simp) hk h;omega
  ·have:=H.lay.ext (by simp) hk h;omega
theorem yj0(t:Int)(F:List Int)(o:r26_Object):keyOf (trnO L t F o)=keyOf o:=by simp[trnO,keyOf,yi6]
theorem yl5(t:Int)(F l:List Int)(o:r26_Object):keyOf (trnIf L t F l o)=keyOf o:=by
 unfold trnIf
 split
 ·exact yj0 t F o
 ·rfl
theorem yiu:∀(F:List Int) (t:Int),Chain t ((cps L t F).map keyOf) (endT L t F)
 | [],t=>rfl
 | p::r,t=>by
   simp only[cps,Bu,yi5,endT,Chain]
   exact⟨trivial,yiu r _⟩
def mvL(L:List r26_Object)(ars:List Area)(t:Int)(F l:List Int):List r26_Object:=(nf L ars).map (trnIf L t F l)++(cps L t F).map (trnO L t F)
theorem ymZ(ars:List Area)(t:Int)(F l:List Int):(mvL L ars t F l).map keyOf=(nf L ars).map keyOf++(cps L t F).map keyOf:=by
 unfold mvL
 rw[Ck,Cl,Cl]
 congr 1
 ·exact Bs fun o _=>yl5 t F l o
 ·exact Bs fun o _=>yj0 t F o
theorem yl6(ars:List Area)(t:Int)(F l:List Int):(mvL L ars t F l).length<=L.length+F.length:=by
 unfold mvL nf
 rw[Bj,Bh,Bh,ybH]
 have:=List.length_filter_le (fun o=>!inAny ars o.At) L
 omega
def arsOf(both:Bool)(b0 b1:Area):List Area:=if both then [b0,b1] else [b0]
def leftOf(both:Bool)(a b1:Area):List Area:=if both then [a] else [a,b1]
theorem yoK{ws ws':List Int}{N:Int}{b0 b1:Area}(H:Spc ws [b0,b1,⟨1+N+N,1+N+N+2*N,1+N+N⟩] L)(h0:b0.Lo=1/\b0.Hi=1+N)(h1:b1.Lo=1+N/\b1.Hi=1+N+N)(hN:0<=N)(both:Bool){F l:List Int}
 (hroom:endT L (1+N+N) F<=1+N+N+2*N)(M:MVI L (arsOf both b0 b1) (1+N+N) (1+N+N+2*N) ws' F (mvL L (arsOf both b0 b1) (1+N+N) F l)):
 Lay ((mvL L (arsOf both b0 b1) (1+N+N) F l).map keyOf) (leftOf both ⟨1+N+N,1+N+N+2*N,endT L (1+N+N) F⟩ b1):=by
 obtain⟨hall,htot,hout⟩:=yl4 H h0 h1
 have o0:=H.lay.ord b0 (by simp)
 have o1:=H.lay.ord b1 (by simp)
 have hle:=ydk (L:=L) F (1+N+N)
 have hap:=(Ca.1 M.ap).1
 have hch:=yiu (L:=L) F (1+N+N)
 rw[ymZ] at hap ⊢
 have nfk:∀k∈(nf L (arsOf both b0 b1)).map keyOf,k∈L.map keyOf/\inAny (arsOf both b0 b1) k.1=false:=fun k hk=>by
  obtain⟨o,ho,rfl⟩:=Bm.1 hk
  have:=B7.1 ho
  exact⟨Bm.2 ⟨o,this.1,rfl⟩,by have h:=this.2;simp only[Bool.not_eq_true'] at h;exact h⟩
 have hb:∀k∈L.map keyOf,inA b0 k.1=true\/inA b1 k.1=true:=fun k hk=>by
  obtain⟨o,ho,rfl⟩:=Bm.1 hk
  have:=yaP.1 (hall o ho)
  obtain⟨a,ha,h⟩:=this
  simp only[Bi,B8,or_false] at ha
  rcases ha with rfl|rfl
  ·exact .inl h
  ·exact .inr h
 have c1:∀k∈(nf L (arsOf both b0 b1)).map keyOf,inA ⟨1+N+N,1+N+N+2*N,endT L (1+N+N) F⟩ k.1=false:=fun k hk=>by
  have:=hout k (nfk k hk).1
  cases e:inA ⟨1+N+N,1+N+N+2*N,endT L (1+N+N) F⟩ k.1 with
  | false=>rfl
  | true=>have:=yan.1 e;simp only at this;omega
 have c2:∀k∈(cps L (1+N+N) F).map keyOf,inA ⟨1+N+N,1+N+N+2*N,endT L (1+N+N) F⟩ k.1=true:=fun k hk=>by
  have:=hch.mem k hk
  exact yan.2 ⟨this.1,by simp only;omega⟩
 have c3:∀k∈(cps L (1+N+N) F).map keyOf,inA b1 k.1=false:=fun k hk=>by
  have:=hch.mem k hk
  cases e:inA b1 k.1 with
  | false=>rfl
  | true=>have:=yan.1 e;omega
 have f1:((nf L (arsOf both b0 b1)).map keyOf++(cps L (1+N+N) F).map keyOf).filter (fun k=>inA ⟨1+N+N,1+N+N+2*N,endT L (1+N+N) F⟩ k.1)=(cps L (1+N+N) F).map keyOf:=by
  rw[Cq,List.filter_eq_nil_iff.2 (fun k hk=>by rw[c1 k hk];simp),List.filter_eq_self.2 c2,Bt]
 have ch1:Chain (1+N+N) (((nf L (arsOf both b0 b1)).map keyOf++(cps L (1+N+N) F).map keyOf).filter (fun k=>inA ⟨1+N+N,1+N+N+2*N,endT L (1+N+N) F⟩ k.1)) (endT L (1+N+N) F):=by rw[f1];exact hch
 cases both with
 | true=>
   refine⟨fun a ha=>?_,fun a ha=>?_,fun k hk=>?_,by simp[leftOf],hap⟩
   ·simp only[leftOf,if_true,Be] at ha
    subst ha;simp only;omega
   ·simp only[leftOf,if_true,Be] at ha
    subst ha;exact ch1
   ·refine⟨_,by simp[leftOf];rfl,?_⟩
    rcases Bl.1 hk with hk|hk
    ·obtain⟨k1,k2⟩:=nfk k hk
     rcases hb k k1 with h|h
     ·have:inAny (arsOf true b0 b1) k.1=true:=yaP.2 ⟨b0,by simp[arsOf],h⟩
      rw[k2] at this;cases this
     ·have:inAny (arsOf true b0 b1) k.1=true:=yaP.2 ⟨b1,by simp[arsOf],h⟩
      rw[k2] at this;cases this
    ·exact c2 k hk
 | false=>
   have d1:((nf L (arsOf false b0 b1)).map keyOf++(cps L (1+N+N) F).map keyOf).filter (fun k=>inA b1 k.1)=(L.map keyOf).filter fun k=>inA b1 k.1:=by
    have z:((cps L (1+N+N) F).map keyOf).filter (fun k=>inA b1 k.1)=[]:=List.filter_eq_nil_iff.2 fun k hk=>by rw[c3 k hk];simp
    rw[Cq,z,Br,List.filter_map,List.filter_map]
    unfold nf
    rw[List.filter_filter]
    congr 1
    refine List.filter_congr fun o ho=>?_
    simp only[Function.comp]
    cases e:inA b1 (keyOf o).1 with
    | false=>rfl
    | true=>
      have e1:=yan.1 e
      have:inAny (arsOf false b0 b1) o.At=false:=by
       cases e2:inAny (arsOf false b0 b1) o.At with
       | false=>rfl
       | true=>
         obtain⟨a,ha,h⟩:=yaP.1 e2
         simp[arsOf] at ha
         subst ha
         have:=yan.1 h
         simp only[keyOf] at e1
         omega
      rw[this];rfl
   refine⟨fun a ha=>?_,fun a ha=>?_,fun k hk=>?_,?_,hap⟩
   ·simp only[leftOf,Al,if_false,Bi,B8,or_false] at ha
    rcases ha with rfl|rfl
    ·simp only;omega
    ·exact o1
   ·simp only[leftOf,Al,if_false,Bi,B8,or_false] at ha
    rcases ha with rfl|rfl
    ·exact ch1
    ·rw[d1];exact H.lay.chain a (by simp)
   ·rcases Bl.1 hk with hk|hk
    ·obtain⟨k1,k2⟩:=nfk k hk
     rcases hb k k1 with h|h
     ·have:inAny (arsOf false b0 b1) k.1=true:=yaP.2 ⟨b0,by simp[arsOf],h⟩
      rw[k2] at this;cases this
     ·exact⟨b1,by simp[leftOf],h⟩
    ·exact⟨⟨1+N+N,1+N+N+2*N,endT L (1+N+N) F⟩,by simp[leftOf],c2 k hk⟩
   ·simp only[leftOf,Al,if_false]
    refine List.pairwise_cons.2 ⟨fun b hb=>?_,by simp⟩
    rw[Be] at hb;subst hb
    right;simp only;omega
theorem yl7{ws:List Int}{As:List Area}(H:Lay (L.map keyOf) As)(hok:∀o∈L,ObjOk ws o)(hL:L.length<100000){a:Area}(ha:a∈As)(hb:a.Hi<1000000000):LikeA ws L a:=by
 have hc:=H.chain a ha
 rw[←yfE] at hc
 refine⟨yim H hL ha (by omega),hc,fun o ho=>?_⟩
 have hoL:o∈L:=(B7.1 ho).1
 refine⟨hok o hoL,H.pos (k:=keyOf o) (Bm.2 ⟨o,hoL,rfl⟩),?_⟩
 obtain⟨j,hj⟩:=Bp hoL
 rcases yi4 L (by omega) o.At with⟨i,o2,e1,e2,e3⟩|⟨_,e2⟩
 ·have:=yil H.apart (i:=i) (j:=j) (by rw[B0,e2];rfl) (by rw[B0,hj];rfl) e3
  subst this
  exact⟨i,hj,e1⟩
 ·exact absurd rfl (e2 o hoL)
theorem ym0{ws ws':List Int}{N:Int}{b0 b1:Area}(H:Spc ws [b0,b1,⟨1+N+N,1+N+N+2*N,1+N+N⟩] L)(h0:b0.Lo=1/\b0.Hi=1+N)(h1:b1.Lo=1+N/\b1.Hi=1+N+N)(hN:0<=N/\N<1000000)(both:Bool){F l:List Int}(hL:L.length<40000)(hF:F.length<40000)
 (hroom:endT L (1+N+N) F<=1+N+N+2*N)(M:MVI L (arsOf both b0 b1) (1+N+N) (1+N+N+2*N) ws' F (mvL L (arsOf both b0 b1) (1+N+N) F l)):
 ∀a∈leftOf both ⟨1+N+N,1+N+N+2*N,endT L (1+N+N) F⟩ b1,LikeA ws' (mvL L (arsOf both b0 b1) (1+N+N) F l) a/\a.Next<1000000000:=by
 intro a ha
 have hlay:=yoK H h0 h1 hN.1 both hroom M
 have hlen:=yl6 (L:=L) (arsOf both b0 b1) (1+N+N) F l
 have ho:=hlay.ord a ha
 have hb:a.Hi<1000000000:=by
  cases both <;> simp[leftOf] at ha
  ·rcases ha with rfl|rfl
   ·simp only;omega
   ·omega
  ·subst ha;simp only;omega
 exact⟨yl7 hlay M.ok (by omega) ha hb,by omega⟩
theorem ym1{ws:List Int}{N:Int}{b0 b1:Area}(H:Spc ws [b0,b1,⟨1+N+N,1+N+N+2*N,1+N+N⟩] L)(h0:b0.Lo=1/\b0.Hi=1+N)(h1:b1.Lo=1+N/\b1.Hi=1+N+N)(both:Bool){F:List Int}(hF:OutOk L (arsOf both b0 b1) F):endT L (1+N+N) F<=1+N+N+2*N:=by
 obtain⟨hall,htot,hout⟩:=yl4 H h0 h1
 have hr:=room H.lay.apart hF (1+N+N)
 have e:=yeb (fun k=>inAny (arsOf both b0 b1) k.1) (L.map keyOf)
 rw[List.filter_map,List.filter_map] at e
 have e2:=ygB ((L.filter ((fun k=>!inAny (arsOf both b0 b1) k.1)∘keyOf)).map keyOf)
 have e3:L.filter ((fun k:Key=>inAny (arsOf both b0 b1) k.1)∘keyOf)=L.filter fun o=>inAny (arsOf both b0 b1) o.At:=rfl
 rw[e3] at e
 omega
open Go
set_option maxRecDepth 10000
set_option maxHeartbeats 4000000
variable {K:HCalls}
def RowO(base:Nat)(st:HSt)(h:HV)(os:List r26_Object):Prop:=(os=[]/\h = .p .nils)\/∃b,os≠[]/\base<=b/\h = .row b 0 os.length 4/\st[b]? = some (.row 4 os.length ((os.flatMap cr26_Object).map .p))
structure Ic (st:HSt) (base:Nat) (h:HV) (v:PV):Prop where
 ge:∀a∈rowsH st 3 h,base<=a
 ic:∀D,(∀a∈rowsH st 3 h,a∈D)->iceV st D 3 h=some (.p v)
theorem ym2{st:HSt}{base:Nat}{w v:PV}(h:icyP w=v):Ic st base (.p w) v:=
 ⟨fun a ha=>(by rw[ycC] at ha;cases ha),fun D _=>by simp only[iceV,h]⟩
theorem ynz{st:HSt}{base a len sz:Nat}{vs:List PV}(hb:base<=a)(h:st[a]? = some (.row sz len (vs.map HV.p)))(hl:vs.length=len*sz)(hf:∀v∈vs,v.free=true):Ic st base (.row a 0 len sz) (.sl len vs):=by
 have e:rowsH st 3 (.row a 0 len sz)=[a]:=by
  show rowsV st 3 (.row a 0 len sz)=[a]
  rw[yau h,A5,←List.map_take,yaN]
 refine⟨fun c hc=>by rw[e] at hc;simp at hc;omega,fun D hD=>?_⟩
 rw[e] at hD
 have:=ybF (k:=3) (D:=D) (off:=0) (len:=len) (sz:=sz) (by simpa using hD a (by simp)) h (by simp[hl]) (by
  rw[A5,Aw (by simp[hl])]
  exact ycB hf)
 simp only[iceV,this,An]
theorem yi9{st:HSt}{base:Nat}{h:HV}{xs:List Int}(R:RowI base st h xs):Ic st base h (.sl xs.length (xs.flatMap (cint .i64))):=by
 rcases R with⟨rfl,rfl⟩|⟨b,_,hb,rfl,hst⟩
 ·exact ym2 rfl
 ·rw[yes] at hst
  exact ynz hb hst (by rw[ybG]) (ycc xs)
theorem yoL{st:HSt}{base:Nat}{h:HV}{os:List r26_Object}(R:RowO base st h os):Ic st base h (.sl os.length (os.flatMap cr26_Object)):=by
 rcases R with⟨rfl,rfl⟩|⟨b,_,hb,rfl,hst⟩
 ·exact ym2 rfl
 ·exact ynz hb hst (ybz os) (ybo os)
theorem yl8{l li:List Nat}{f:Nat}(h1:l.contains f=false)(h2:li.contains f=true){wv cs:List HV}{vs:List PV}{st st':HSt}(n:Nat)(e:evHF C0 K TH n f wv st=some (.agg cs,st'))(hl:cs.length=vs.length)
 (hi:∀(i:Nat) (c:HV) (v:PV),cs[i]? = some c->vs[i]? = some v->Ic st' st.length c v)(hs:Same st.length st st'):∃st2,lev K l li f wv st=some (.p (.agg vs),st2)/\Same st.length st st2:=by
 have er:rowsH st' 4 (.agg cs)=cs.flatMap (rowsH st' 3):=rfl
 have hD:∀c∈cs,∀a∈rowsH st' 3 c,a∈rowsH st' 4 (.agg cs):=fun c hc a ha=>by rw[er];exact Cd.2 ⟨c,hc,ha⟩
 have key:∀(D:List Nat) (cs:List HV) (vs:List PV),cs.length=vs.length->(∀(i:Nat) (c:HV) (v:PV),cs[i]? = some c->vs[i]? = some v->Ic st' st.length c v)->(∀c∈cs,∀a∈rowsH st' 3 c,a∈D)->allO (iceV st' D 3) cs=some (vs.map .p):=by
  intro D cs
  induction cs with
  | nil=>
    intro vs hl _ _
    have:vs=[]:=A3 hl.symm
    subst this;rfl
  | cons c cs ih=>
    intro vs hl hi hD
    cases vs with
    | nil=>simp at hl
    | cons v vs=>
      have e1:=(hi 0 c v rfl rfl).ic D (hD c (by simp))
      have e2:=ih vs (by simpa using hl) (fun i c v h1 h2=>hi (i+1) c v (by simpa using h1) (by simpa using h2)) fun c hc=>hD c (by simp[hc])
      simp only[allO,e1,e2,Bu]
 have hall:∀vs:List PV,allP (vs.map HV.p)=some vs:=fun vs=>by
  induction vs with
  | nil=>rfl
  | cons w ws ih=>simp[allP,ih]
 have:=yfD (K:=K) h1 h2 n e (r':=.p (.agg vs)) (by
  simp only[iceV,key _ cs vs hl hi hD,An,mkAgg,hall])
 refine⟨_,this,⟨by rw[ybW];exact hs.len,fun i hil=>?_⟩⟩
 rw[yaD,if_neg ?_]
 ·exact hs.get i hil
 ·intro hh
  rw[er] at hh
  obtain⟨c,hc,ha⟩:=Cd.1 hh.1
  obtain⟨j,hj⟩:=Bp hc
  have hjl:=(Ad.1 hj).1
  have:=(hi j c vs[j] hj (by simp)).ge i ha
  omega
theorem yl9{l li:List Nat}{f:Nat}(h1:l.contains f=false)(h2:li.contains f=true){wv:List HV}{w v:PV}{st st':HSt}(n:Nat)(e:evHF C0 K TH n f wv st=some (.p w,st'))(hi:icyP w=v):lev K l li f wv st=some (.p v,st'):=by
 have:=yfD (K:=K) h1 h2 n e (r':=.p v) (by rw[ycC];simp only[iceV,hi])
 rw[this,ycC];rfl
theorem i84(B:KPu K)(hk:∀ws st,K 84 ws st = .none){l li:List Nat}(h1:l.contains 84=false)(h2:li.contains 84=true){o:r26_Object}(at':Int)(hx:OkSh o.Shape)(hol:o.Slots.length<1000){st:HSt}{b0 b1:Nat}{lh th:HV}{F ts:List Int}(RF:RowI b0 st lh F)(RT:RowI b1 st th ts)(hFt:F.length=ts.length)(hF:F.length<100000):
 ∃st1,lev K l li 84 [hO o,hI at',lh,th] st=some (hO ⟨at',o.Shape,trnM F ts o.Shape 0 o.Slots⟩,st1)/\Same st.length st st1:=by
 obtain⟨st1,oh,n0,e,R,S⟩:=e84 B hk at' hx hol RF RT hFt hF
 have e:=e n0 (Av _)
 have I:=yi9 R
 rcases R with⟨hn,rfl⟩|⟨b,hne,hb,rfl,hst⟩
 ·simp only[hO,hn]
  exact⟨st1,yl9 h1 h2 n0 e rfl,S⟩
 ·refine yl8 h1 h2 (vs:=[.int .i64 at',.int .i64 o.Shape.Slots,.int .i64 o.Shape.Mask,.sl (trnM F ts o.Shape 0 o.Slots).length ((trnM F ts o.Shape 0 o.Slots).flatMap (cint .i64))]) n0 e rfl (fun i c v hc hv=>?_) S
  match i,hc,hv with
  | 0,hc,hv=>cases hc;cases hv;exact ym2 rfl
  | 1,hc,hv=>cases hc;cases hv;exact ym2 rfl
  | 2,hc,hv=>cases hc;cases hv;exact ym2 rfl
  | 3,hc,hv=>cases hc;cases hv;exact I
  | i+4,hc,hv=>cases hc
theorem yqI{l li:List Nat}{f:Nat}(h1:l.contains f=false)(h2:li.contains f=true){wv:List HV}{st st':HSt}{lo hi nx:Int}{oh rh:HV}{os:List r26_Object}{rs:List Int}(n:Nat)
 (e:evHF C0 K TH n f wv st=some (mkAgg [oh,hI lo,hI hi,hI nx,rh],st'))(RO:RowO st.length st' oh os)(RR:RowI st.length st' rh rs)(S:Same st.length st st'):
 ∃st2,lev K l li f wv st=some (.p (.agg [.sl os.length (os.flatMap cr26_Object),.int .i64 lo,.int .i64 hi,.int .i64 nx,.sl rs.length (rs.flatMap (cint .i64))]),st2)/\Same st.length st st2:=by
 have IO:=yoL RO
 have IR:=yi9 RR
 by_cases hp:oh = .p .nils/\rh = .p .nils
 ·obtain⟨rfl,rfl⟩:=hp
  have e1:os=[]:=by
   rcases RO with⟨h,_⟩|⟨b,_,_,h,_⟩
   ·exact h
   ·cases h
  have e2:rs=[]:=by
   rcases RR with⟨h,_⟩|⟨b,_,_,h,_⟩
   ·exact h
   ·cases h
  subst e1;subst e2
  exact⟨st',yl9 h1 h2 n e rfl,S⟩
 ·have em:mkAgg [oh,hI lo,hI hi,hI nx,rh] = .agg [oh,hI lo,hI hi,hI nx,rh]:=by
   rcases RO with⟨_,rfl⟩|⟨b,_,_,rfl,_⟩ <;> rcases RR with⟨_,rfl⟩|⟨c,_,_,rfl,_⟩
   ·exact absurd ⟨rfl,rfl⟩ hp
   all_goals rfl
  rw[em] at e
  refine yl8 h1 h2 (vs:=[.sl os.length (os.flatMap cr26_Object),.int .i64 lo,.int .i64 hi,.int .i64 nx,.sl rs.length (rs.flatMap (cint .i64))]) n e rfl (fun i c v hc hv=>?_) S
  match i,hc,hv with
  | 0,hc,hv=>cases hc;cases hv;exact IO
  | 1,hc,hv=>cases hc;cases hv;exact ym2 rfl
  | 2,hc,hv=>cases hc;cases hv;exact ym2 rfl
  | 3,hc,hv=>cases hc;cases hv;exact ym2 rfl
  | 4,hc,hv=>cases hc;cases hv;exact IR
  | i+5,hc,hv=>cases hc
open Go
set_option maxRecDepth 10000
set_option maxHeartbeats 4000000
variable {K:HCalls}
def F84(K:HCalls):Prop:=∀{o:r26_Object} (at':Int) (hx:OkSh o.Shape) (hol:o.Slots.length<1000) {st:HSt} {b0 b1:Nat} {lh th:HV} {F ts:List Int} (RF:RowI b0 st lh F) (RT:RowI b1 st th ts) (hFt:F.length=ts.length) (hF:F.length<100000),
    ∃st1,K 84 [hO o,hI at',lh,th] st=some (hO ⟨at',o.Shape,trnM F ts o.Shape 0 o.Slots⟩,st1)/\Same st.length st st1
structure Kq (p n:Nat) (st st':HSt):Prop where
 len:st.length<=st'.length
 get:∀i,i<n->i≠p->st'[i]? = st[i]?
 bx:∀q cs,q≠p->st[q]? = some (.box cs)->st'[q]? = some (.box cs)
theorem Kq.refl(p n:Nat)(st:HSt):Kq p n st st:=⟨Av _,fun _ _ _=>rfl,fun _ _ _ h=>h⟩
theorem Kq.trans{p n:Nat}{a b c:HSt}(h:Kq p n a b)(h':Kq p n b c):Kq p n a c:=⟨B5 h.len h'.len,fun i hi hn=>(h'.get i hi hn).trans (h.get i hi hn),fun q cs hq hc=>h'.bx q cs hq (h.bx q cs hq hc)⟩
theorem Kq.app{p n:Nat}{st:HSt}(h:n<=st.length)(g:HSt):Kq p n st (st++g):=⟨by simp,fun i hi _=>Aj (by omega),fun q cs _ hc=>by rw[Aj (Ad.1 hc).1];exact hc⟩
theorem H10.kq{p n:Nat}{st st':HSt}{h:HV}(H:H10 p st h)(S:Kq p n st st'):H10 p st' h:=by
 rcases H with h|⟨q,h1,h2,h3⟩
 ·exact .inl h
 ·exact .inr ⟨q,h1,h2,S.bx q _ (by omega) h3⟩
theorem RowI.kq{b0 p n:Nat}{st st':HSt}{h:HV}{xs:List Int}(R:RowI b0 st h xs)(S:Kq p n st st')(hb:∀b,h = .row b 0 xs.length 1->b<n/\b≠p):RowI b0 st' h xs:=by
 rcases R with h|⟨b,h1,h2,h3,h4⟩
 ·exact .inl h
 ·exact .inr ⟨b,h1,h2,h3,by rw[S.get b (hb b h3).1 (hb b h3).2];exact h4⟩
structure T31o (base p12:Nat) (lo hi nx:Int) (st:HSt) (oh:HV) (os:List r26_Object):Prop where
 b12:st[p12]? = some (bxM lo hi nx oh (.p .nils))
 R:RowO base st oh os
 lt:p12<base
 ge:base<=st.length
theorem RowO.app{base:Nat}{st:HSt}{h:HV}{os:List r26_Object}(R:RowO base st h os)(g:HSt):RowO base (st++g) h os:=by
 rcases R with h|⟨b,h1,h2,h3,h4⟩
 ·exact .inl h
 ·exact .inr ⟨b,h1,h2,h3,by rw[Aj (Ad.1 h4).1];exact h4⟩
theorem T31o.app{base p12:Nat}{lo hi nx:Int}{st:HSt}{oh:HV}{os:List r26_Object}(T:T31o base p12 lo hi nx st oh os)(g:HSt):T31o base p12 lo hi nx (st++g) oh os:=
 ⟨by rw[Aj (Ad.1 T.b12).1];exact T.b12,T.R.app g,T.lt,by have:=T.ge;simp;omega⟩
theorem T31o.same{base p12:Nat}{lo hi nx:Int}{st st1:HSt}{oh:HV}{os:List r26_Object}(T:T31o base p12 lo hi nx st oh os)(S:Same st.length st st1):T31o base p12 lo hi nx st1 oh os:=by
 refine⟨by rw[S.get _ (Ad.1 T.b12).1];exact T.b12,?_,T.lt,B5 T.ge S.len⟩
 rcases T.R with h|⟨b,h1,h2,h3,h4⟩
 ·exact .inl h
 ·exact .inr ⟨b,h1,h2,h3,by rw[S.get _ (Ad.1 h4).1];exact h4⟩
def apO(st:HSt)(p12:Nat)(lo hi nx:Int)(oh:HV)(os:List r26_Object)(x:r26_Object):HSt:=match oh with
 | .row c _ _ _=>(st.set c .dead).set p12 (bxM lo hi nx (.row (st.length+1) 0 (os.length+1) 4) (.p .nils))++[.row 4 1 ((cr26_Object x).map .p),.row 4 (os.length+1) ((os.flatMap cr26_Object).map .p++(cr26_Object x).map .p)]
 | _=>st.set p12 (bxM lo hi nx (.row (st.length+1) 0 1 4) (.p .nils))++[.row 4 1 ((cr26_Object x).map .p),.row 4 1 ((cr26_Object x).map .p)]
theorem T31o.push{base p12:Nat}{lo hi nx:Int}{st:HSt}{oh:HV}{os:List r26_Object}(T:T31o base p12 lo hi nx st oh os)(x:r26_Object):
 T31o base p12 lo hi nx (apO st p12 lo hi nx oh os x) (.row (st.length+1) 0 (os.length+1) 4) (os++[x])/\Kq p12 base st (apO st p12 lo hi nx oh os x):=by
 obtain⟨b12,R,lt,ge⟩:=T
 have l12:p12<st.length:=by omega
 rcases R with⟨rfl,rfl⟩|⟨c,hne,hc,rfl,hct⟩
 ·refine⟨⟨?_,.inr ⟨st.length+1,by simp,by omega,rfl,?_⟩,lt,?_⟩,⟨?_,fun i hi hn=>?_,fun q ds hq hds=>?_⟩⟩
  ·simp only[apO]
   rw[Aj (by simpa using l12),Bk l12];rfl
  ·simp only[apO]
   rw[A7 (by simp)];simp
  ·simp only[apO];simp;omega
  ·simp only[apO];simp
  ·simp only[apO]
   rw[Aj (by simp;omega),Ar (by omega)]
  ·simp only[apO]
   rw[Aj (by simpa using (Ad.1 hds).1),Ar (fun e=>hq e.symm)];exact hds
 ·have hcl:c<st.length:=(Ad.1 hct).1
  refine⟨⟨?_,.inr ⟨st.length+1,by simp,by omega,by simp,?_⟩,lt,?_⟩,⟨?_,fun i hi hn=>?_,fun q ds hq hds=>?_⟩⟩
  ·simp only[apO]
   rw[Aj (by simpa using l12),Bk (by simpa using l12)]
  ·simp only[apO]
   rw[A7 (by simp)];simp
  ·simp only[apO];simp;omega
  ·simp only[apO];simp
  ·simp only[apO]
   rw[Aj (by simp;omega),Ar (by omega),Ar (by omega)]
  ·simp only[apO]
   rw[Aj (by simpa using (Ad.1 hds).1),Ar (fun e=>hq e.symm),Ar (fun e=>by rw[←e,hct] at hds;cases hds)];exact hds
def hct:HC->HC
 | .cond _ a _ _=>a
 | c=>c
def hce:HC->HC
 | .cond _ _ b _=>b
 | c=>c
def bd31:HC:=hcb (hcl (hcr h31l1))
def env31b(L:List r26_Object)(ars:List Area)(rs:List Int)(al h10 lh:HV)(p12:Nat)(th:HV)(i:Nat):HEnv:=[(0,hL L),(1,hAs ars),(3,hN rs),(4,al),(10,h10),(11,lh),(12,.ptr p12 0),(13,th),(15,hI i)]
def env31x(L:List r26_Object)(ars:List Area)(rs:List Int)(al h10 lh:HV)(p12:Nat)(th:HV)(i:Nat)(b:Bool):HEnv:=[(0,hL L),(1,hAs ars),(3,hN rs),(4,al),(10,h10),(11,lh),(12,.ptr p12 0),(13,th),(15,hI i),(74,.p (.bool b))]
theorem yeM{C:Calls'}{T:Nat->Option HF}{ops:List HI}{k:List Nat}{s t s':HS}{ex:Ex}(h:hland s (s.1.map (·.1))=hland t (t.1.map (·.1)))(r:Run C K T (.reg ops true k) t ex s'):Run C K T (.reg ops true k) s ex s':=by
 obtain⟨n,hn⟩:=r
 cases n with
 | zero=>cases hn
 | succ n=>
   refine⟨n+1,?_⟩
   simp only[evHC,regHD] at hn ⊢
   rw[h];exact hn
theorem yoM{st:HSt}{L:List r26_Object}(ars:List Area)(rs:List Int)(al h10 lh:HV)(p12:Nat)(th:HV){i:Nat}(hi:i<L.length)(hl:L.length<100000):Run C0 K TH (hcl h31l1) (env31b L ars rs al h10 lh p12 th i,st) .norm (env31b L ars rs al h10 lh p12 th i,st):=by
 have hi':(i:Int)<L.length:=by omega
 refine Run.of 60 ?_
 simp (config:={ maxSteps:=4000000 }) [↓yg,↓yc,yl,-getElem?_pos,Ah,Ai,yx,yA,ye,yd,yp,yj,yu,yk,yw,h31l1,hcl,env31b,hi,hi']
theorem yoN{st:HSt}{L:List r26_Object}(ars:List Area)(rs:List Int)(al h10 lh:HV)(p12:Nat)(th:HV):Run C0 K TH h31l1 (env31b L ars rs al h10 lh p12 th L.length,st) (.exit 2) ([(0,hL L),(3,hN rs),(10,h10),(11,lh),(12,.ptr p12 0),(13,th)],st):=by
 refine Run.of 60 ?_
 simp (config:={ maxSteps:=4000000 }) [↓yg,↓yc,yl,-getElem?_pos,Ah,Ai,yx,yA,ye,yd,yp,yj,yu,yk,yw,h31l1,env31b]
theorem yma{st:HSt}{L:List r26_Object}(ars:List Area)(rs:List Int)(al h10 lh:HV)(p12:Nat)(th:HV){i:Nat}(hi:i<100000):Run C0 K TH (hcr (hcr h31l1)) (env31b L ars rs al h10 lh p12 th i,st) .norm (env31b L ars rs al h10 lh p12 th (i+1),st):=by
 have w:=wrN (i:=i) (by omega)
 refine Run.of 60 ?_
 simp (config:={ maxSteps:=4000000 }) [↓yg,↓yc,yl,-getElem?_pos,Ah,Ai,yx,yA,ye,yd,yp,yj,yu,yk,yw,h31l1,hcr,env31b,w]
theorem yqJ(B:KPu K){st:HSt}{L:List r26_Object}{ars:List Area}(har:ars.length<1000)(rs:List Int)(al h10 lh:HV)(p12:Nat)(th:HV){i:Nat}{o:r26_Object}(ho:L[i]? = some o){b:Bool}(hb:inAny ars o.At=b):
 Run C0 K TH (hcl bd31) (env31b L ars rs al h10 lh p12 th i,st) (if b then .exit 3 else .norm) (env31b L ars rs al h10 lh p12 th i,st):=by
 have hi:i<L.length:=(Ad.1 ho).1
 have hi':(i:Int)<L.length:=by omega
 have c2:((L.flatMap cr26_Object).drop (i*4)).take 4=[.int .i64 o.At,.int .i64 o.Shape.Slots,.int .i64 o.Shape.Mask,.sl o.Slots.length (o.Slots.flatMap (cint .i64))]:=yF yH L i o ho
 have e82:=fun n=>k82 B (st:=st) (ah:=hAs ars) (.inl rfl) har o.At n
 rw[hb] at e82
 cases b
 all_goals
  refine Run.of 60 ?_
  simp (config:={ maxSteps:=4000000 }) [↓yg,↓yc,yl,-getElem?_pos,Ah,Ai,yx,yA,ye,yd,yp,yj,yu,yk,yw,h31l1,bd31,hcl,hcr,hcb,env31b,hi,hi',c2,e82]
theorem ysd(B:KPu K){al:HV}{l:List Int}(hal:(al = .p .nils/\l=[])\/al=hN l)(hl:l.length<100000)(p:Int)(n:Nat)(st:HSt):evHF C0 K TH (n+1) 19 [al,hI p] st=some (.p (.bool (l.contains p)),st):=by
 have e:=ygx l p _ (ynp l (by omega) p)
 rcases hal with⟨rfl,rfl⟩|rfl
 ·exact B.known (f:=19) rfl (ws:=[.nils,.int .i64 p]) rfl e rfl rfl rfl n st
 ·exact B.known (f:=19) rfl (ws:=[.sl l.length (l.flatMap (cint .i64)),.int .i64 p]) rfl e rfl rfl rfl n st
theorem ypH(B:KPu K){st:HSt}{L:List r26_Object}(ars:List Area)(rs:List Int){al:HV}{l:List Int}(hal:(al = .p .nils/\l=[])\/al=hN l)(hl:l.length<100000)(h10 lh:HV)(p12:Nat)(th:HV){i:Nat}{o:r26_Object}(ho:L[i]? = some o):
 Run C0 K TH (hcl (hcr bd31)) (env31b L ars rs al h10 lh p12 th i,st) .norm (env31x L ars rs al h10 lh p12 th i (l.contains o.At),st):=by
 have hi:i<L.length:=(Ad.1 ho).1
 have hi':(i:Int)<L.length:=by omega
 have c2:((L.flatMap cr26_Object).drop (i*4)).take 4=[.int .i64 o.At,.int .i64 o.Shape.Slots,.int .i64 o.Shape.Mask,.sl o.Slots.length (o.Slots.flatMap (cint .i64))]:=yF yH L i o ho
 have e19:=fun n=>ysd B hal hl o.At n st
 generalize l.contains o.At=q at e19 ⊢
 rcases hal with⟨rfl,_⟩|rfl
 all_goals
  refine Run.of 60 ?_
  simp (config:={ maxSteps:=4000000 }) [↓yg,↓yc,yl,-getElem?_pos,Ah,Ai,yx,yA,ye,yd,yp,yj,yu,yk,yw,h31l1,bd31,hcl,hcr,hcb,env31b,env31x,hi,hi',c2,e19]
open Go
set_option maxRecDepth 10000
set_option maxHeartbeats 4000000
variable {K:HCalls}
def pm31:Nat->HC
 | 0=>h31.body
 | n+1=>hcr (pm31 n)
abbrev bx7(to:Area):HV:=.p (.box [.int .i64 to.Lo,.int .i64 to.Hi,.int .i64 to.Next])
def env31p(L:List r26_Object)(ars:List Area)(to:Area)(rs:List Int)(al:HV):HEnv:=[(0,hL L),(1,hAs ars),(2,hA to),(3,hN rs),(4,al)]
def env31q(L:List r26_Object)(ars:List Area)(to:Area)(rs:List Int)(al:HV):HEnv:=[(0,hL L),(1,hAs ars),(3,hN rs),(4,al),(7,bx7 to),(10,bx31)]
def env31r(L:List r26_Object)(ars:List Area)(to:Area)(rs:List Int)(al lh:HV):HEnv:=[(0,hL L),(1,hAs ars),(3,hN rs),(4,al),(7,bx7 to),(10,bx31),(11,lh)]
def env31s(L:List r26_Object)(ars:List Area)(rs:List Int)(al lh:HV)(p12:Nat):HEnv:=[(0,hL L),(1,hAs ars),(3,hN rs),(4,al),(10,bx31),(11,lh),(12,.ptr p12 0)]
def env31t(L:List r26_Object)(ars:List Area)(rs:List Int)(al h10 lh:HV)(p12:Nat)(th:HV):HEnv:=[(0,hL L),(1,hAs ars),(3,hN rs),(4,al),(10,h10),(11,lh),(12,.ptr p12 0),(13,th)]
def env31u(L:List r26_Object)(rs:List Int)(h10 lh:HV)(p12:Nat)(th:HV):HEnv:=[(0,hL L),(3,hN rs),(10,h10),(11,lh),(12,.ptr p12 0),(13,th)]
def env31v(rs:List Int)(h10 lh:HV)(p12:Nat)(th:HV):HEnv:=[(3,hN rs),(10,h10),(11,lh),(12,.ptr p12 0),(13,th)]
theorem yqK(st:HSt)(L:List r26_Object)(ars:List Area)(to:Area)(rs:List Int)(al:HV):Run C0 K TH (hcl (pm31 0)) (env31p L ars to rs al,st) .norm (env31q L ars to rs al,st):=by
 refine Run.of 60 ?_
 simp (config:={ maxSteps:=4000000 }) [↓yg,↓yc,yl,-getElem?_pos,Ah,Ai,yx,yA,ye,yd,yp,yj,yu,yk,yw,h31,pm31,hcl,hcr,env31p,env31q]
theorem yqL{st st1:HSt}(L:List r26_Object)(ars:List Area)(to:Area)(rs:List Int){al:HV}{l:List Int}(hal:(al = .p .nils/\l=[])\/al=hN l){lh:HV}{b0:Nat}{F:List Int}(RF:RowI b0 st1 lh F){n:Nat}(e28:∀m,n<=m->evHF C0 K TH m 28 [hL L,hAs ars,hN rs,al] st=some (lh,st1)):
 Run C0 K TH (hcl (pm31 1)) (env31q L ars to rs al,st) .norm (env31r L ars to rs al lh,st1):=by
 have e:=e28 (n+60) (by omega)
 rcases RF.sh with rfl|⟨b2,q2,rfl⟩ <;> rcases hal with⟨rfl,_⟩|rfl
 all_goals
  refine Run.of (n+60) ?_
  simp (config:={ maxSteps:=4000000 }) [↓yg,↓yc,yl,-getElem?_pos,Ah,Ai,yx,yA,ye,yd,yp,yj,yu,yk,yw,h31,pm31,hcl,hcr,env31q,env31r,e]
theorem yqM(st:HSt)(L:List r26_Object)(ars:List Area)(to:Area)(rs:List Int)(al lh:HV){p:Nat}(hp:p=st.length+1):Run C0 K TH (hcl (pm31 2)) (env31r L ars to rs al lh,st) .norm (env31s L ars rs al lh p,st++[.box [hI to.Lo,hI to.Hi,hI to.Next],bxM to.Lo to.Hi to.Next (.p .nils) (.p .nils)]):=by
 subst hp
 refine Run.of 60 ?_
 simp (config:={ maxSteps:=4000000 }) [↓yg,↓yc,yl,-getElem?_pos,Ah,Ai,yx,yA,ye,yd,yp,yj,yu,yk,yw,h31,pm31,hcl,hcr,env31r,env31s]
theorem yqN(st:HSt)(L:List r26_Object)(ars:List Area)(rs:List Int)(al lh:HV)(p12:Nat):Run C0 K TH (hcl (pm31 3)) (env31s L ars rs al lh p12,st) .norm (env31t L ars rs al bx31 lh p12 (.p .nils),st):=by
 refine Run.of 60 ?_
 simp (config:={ maxSteps:=4000000 }) [↓yg,↓yc,yl,-getElem?_pos,Ah,Ai,yx,yA,ye,yd,yp,yj,yu,yk,yw,h31,pm31,hcl,hcr,env31s,env31t]
theorem yqO(st:HSt)(L:List r26_Object)(ars:List Area)(rs:List Int)(al h10 lh:HV)(p12:Nat)(th:HV):Run C0 K TH (hcl (hcl (pm31 4))) (env31t L ars rs al h10 lh p12 th,st) .norm (env31a L (hAs ars) rs al h10 lh p12 th 0,st):=by
 refine Run.of 60 ?_
 simp (config:={ maxSteps:=4000000 }) [↓yg,↓yc,yl,-getElem?_pos,Ah,Ai,yx,yA,ye,yd,yp,yj,yu,yk,yw,h31,pm31,hcl,hcr,env31t,env31a]
theorem yqP(st:HSt)(L:List r26_Object)(ars:List Area)(rs:List Int)(al h10 lh:HV)(p12:Nat)(th:HV):Run C0 K TH (hcl (hcl (pm31 5))) (env31t L ars rs al h10 lh p12 th,st) .norm (env31b L ars rs al h10 lh p12 th 0,st):=by
 refine Run.of 60 ?_
 simp (config:={ maxSteps:=4000000 }) [↓yg,↓yc,yl,-getElem?_pos,Ah,Ai,yx,yA,ye,yd,yp,yj,yu,yk,yw,h31,pm31,hcl,hcr,env31t,env31b]
theorem yqQ(st:HSt)(L:List r26_Object)(rs:List Int)(h10 lh:HV)(p12:Nat)(th:HV):Run C0 K TH (hcl (hcl (pm31 6))) (env31u L rs h10 lh p12 th,st) .norm ([(0,hL L),(3,hN rs),(10,h10),(11,lh),(12,.ptr p12 0),(13,th),(16,hI (0:Nat))],st):=by
 refine Run.of 60 ?_
 simp (config:={ maxSteps:=4000000 }) [↓yg,↓yc,yl,-getElem?_pos,Ah,Ai,yx,yA,ye,yd,yp,yj,yu,yk,yw,h31,pm31,hcl,hcr,env31u]
theorem yqR(st:HSt)(rs:List Int)(h10 lh:HV)(p12:Nat)(th:HV):Run C0 K TH (hcl (hcl (pm31 7))) (env31v rs h10 lh p12 th,st) .norm ([(3,hN rs),(10,h10),(11,lh),(12,.ptr p12 0),(13,th),(17,hI (0:Nat))],st):=by
 refine Run.of 60 ?_
 simp (config:={ maxSteps:=4000000 }) [↓yg,↓yc,yl,-getElem?_pos,Ah,Ai,yx,yA,ye,yd,yp,yj,yu,yk,yw,h31,pm31,hcl,hcr,env31v]
theorem ypI{st:HSt}{p12:Nat}{lo hi nx:Int}{oh rh:HV}(b12:st[p12]? = some (bxM lo hi nx oh rh))(ho:oh = .p .nils\/∃b n,oh = .row b 0 n 4)(hr:rh = .p .nils\/∃b n,rh = .row b 0 n 1):Run C0 K TH (pm31 8) ([(10,bx31),(12,.ptr p12 0)],st) .ret ([(10,.ptr st.length 0)],st++[bxM lo hi nx oh rh]):=by
 have hl:=(Ad.1 b12).1
 have y:∀g:HSt,(st++g)[p12]? = some (bxM lo hi nx oh rh):=fun g=>by rw[Aj hl,b12]
 rcases ho with rfl|⟨b,n,rfl⟩ <;> rcases hr with rfl|⟨c,m,rfl⟩
 all_goals
  refine Run.of 60 ?_
  simp (config:={ maxSteps:=4000000 }) [↓yg,↓yc,yl,-getElem?_pos,Ah,Ai,yx,yA,ye,yd,yp,yj,yu,yk,yw,h31,pm31,hcl,hcr,b12,y]
theorem ypJ{st:HSt}{p12 q:Nat}{lo hi nx:Int}{oh rh:HV}(b12:st[p12]? = some (bxM lo hi nx oh rh))(ho:oh = .p .nils\/∃b n,oh = .row b 0 n 4)(hr:rh = .p .nils\/∃b n,rh = .row b 0 n 1)(bq:st[q]? = some bk31):Run C0 K TH (pm31 8) ([(10,.ptr q 0),(12,.ptr p12 0)],st) .ret ([(10,.ptr q 0)],st.set q (bxM lo hi nx oh rh)):=by
 rcases ho with rfl|⟨b,n,rfl⟩ <;> rcases hr with rfl|⟨c,m,rfl⟩
 all_goals
  refine Run.of 60 ?_
  simp (config:={ maxSteps:=4000000 }) [↓yg,↓yc,yl,-getElem?_pos,Ah,Ai,yx,yA,ye,yd,yp,yj,yu,yk,yw,h31,pm31,hcl,hcr,b12,bq]
open Go
set_option maxRecDepth 10000
set_option maxHeartbeats 4000000
variable {K:HCalls}
theorem rA0{st st1:HSt}{base p12:Nat}{L:List r26_Object}(hl:L.length<100000)(ars:List Area)(rs:List Int){al:HV}{l:List Int}(hal:(al = .p .nils/\l=[])\/al=hN l)(q:Nat){b0 b1:Nat}{lh th:HV}{F ts:List Int}(RF:RowI b0 st lh F)(RT:RowI b1 st th ts)(hFt:F.length=ts.length){lo hi nx:Int}{oh:HV}{os:List r26_Object}(T:T31o base p12 lo hi nx st oh os)(T1:T31o base p12 lo hi nx st1 oh os)(hos:os.length<100000){i:Nat}{o:r26_Object}(ho:L[i]? = some o){tr:List Int}
 (e84:∀n,evHF C0 K TH (n+1) 84 [hO o,hI o.At,lh,th] st=some (hO ⟨o.At,o.Shape,tr⟩,st1)):
 Run C0 K TH (hct (hcr (hcr bd31))) (env31x L ars rs al (.ptr q 0) lh p12 th i true,st) .norm (env31b L ars rs al (.ptr q 0) lh p12 th i,apO st1 p12 lo hi nx oh os ⟨o.At,o.Shape,tr⟩):=by
 have hi1:i<L.length:=(Ad.1 ho).1
 have hi2:(i:Int)<L.length:=by omega
 have c2:((L.flatMap cr26_Object).drop (i*4)).take 4=[.int .i64 o.At,.int .i64 o.Shape.Slots,.int .i64 o.Shape.Mask,.sl o.Slots.length (o.Slots.flatMap (cint .i64))]:=yF yH L i o ho
 have b12:=T.b12
 have b12':=T1.b12
 have l12:p12<st1.length:=by have:=T1.lt;have:=T1.ge;omega
 have y2:∀g:HSt,(st1++g)[p12]? = some (bxM lo hi nx oh (.p .nils)):=fun g=>by rw[Aj l12,b12']
 have y3:∀(g:HSt) (y:HB),(st1++g).set p12 y=st1.set p12 y++g:=fun g y=>A6 _ _ l12
 have hq:=yah o.Slots
 have hq2:=yah tr
 rcases T1.R with⟨rfl,rfl⟩|⟨c,hcne,hc,rfl,hct'⟩
 ·rcases hal with⟨rfl,_⟩|rfl <;> rcases RF.two with⟨rfl,rfl⟩|⟨hf,b2,m2,rfl⟩ <;> rcases RT.two with⟨rfl,rfl⟩|⟨hf',b3,m3,rfl⟩
  all_goals first
   | exact absurd (A3 (by simpa using hFt)) hf
   | exact absurd (A3 (by simpa using hFt.symm)) hf'
   | (refine Run.of 60 ?_
      simp (config:={ maxSteps:=4000000 }) [↓yg,↓yc,yl,-getElem?_pos,Ah,Ai,yx,yA,ye,yd,yp,yj,yu,yk,yw,h31l1,bd31,hct,hcr,hcb,hcl,env31x,env31b,apO,cr26_Object,hi1,hi2,c2,e84,b12,b12',y2,y3,hq,hq2])
 ·have hcl':c<st1.length:=(Ad.1 hct').1
  have hc12:c≠p12:=by have:=T1.lt;omega
  obtain⟨m,hm⟩:∃m,os.length=m:=⟨_,rfl⟩
  obtain⟨cs,hcs⟩:∃cs,(os.flatMap cr26_Object).map HV.p=cs:=⟨_,rfl⟩
  have hcsl:cs.length=m*4:=by rw[←hcs,Bh,ybz,hm]
  rw[hcs] at hct'
  rw[hm] at hct' hos
  simp only[hm] at b12 b12' y2
  have f4:∀g:HSt,(st1++g)[c]? = some (.row 4 m cs):=fun g=>by rw[Aj hcl',hct']
  have d1:(m+1)*48<=1099511627776:=by omega
  have d2:m+1<=1099511627776:=by omega
  have d3:cs.take (m*4)=cs:=Aw (by omega)
  have d4:m*4<=cs.length:=by omega
  have f5:∀(g:HSt) (x:HB),(st1++g).set c x=st1.set c x++g:=fun g x=>A6 _ _ hcl'
  have f8:∀(g:HSt) (x:HB) (j:Nat),(st1.set c x++g)[st1.length+j]? = g[j]?:=fun g x j=>by rw[A7 (by simp)];simp
  have f10:∀(g:HSt) (x:HB),(st1.set c x++g)[p12]? = some (bxM lo hi nx (.row c 0 m 4) (.p .nils)):=fun g x=>by rw[Aj (by simpa using l12),Ar hc12,b12']
  have f11:∀(g:HSt) (x y:HB),(st1.set c x++g).set p12 y=(st1.set c x).set p12 y++g:=fun g x y=>A6 _ _ (by simpa using l12)
  simp only[apO,hcs,hm]
  rcases hal with⟨rfl,_⟩|rfl <;> rcases RF.two with⟨rfl,rfl⟩|⟨hf,b2,m2,rfl⟩ <;> rcases RT.two with⟨rfl,rfl⟩|⟨hf',b3,m3,rfl⟩
  all_goals first
   | exact absurd (A3 (by simpa using hFt)) hf
   | exact absurd (A3 (by simpa using hFt.symm)) hf'
   | (refine Run.of 60 ?_
      simp (config:={ maxSteps:=4000000 }) [↓yg,↓yc,yl,-getElem?_pos,Ah,Ai,yx,yA,ye,yd,yp,yj,yu,yk,yw,h31l1,bd31,Go.Ab.hct,hcr,hcb,Go.Ab.hcl,env31x,env31b,cr26_Object,hi1,hi2,c2,e84,b12,b12',y2,y3,hq,hq2,f4,f5,f8,f10,f11,d1,d2,d3,d4,hcsl])
open Go
set_option maxRecDepth 10000
set_option maxHeartbeats 4000000
variable {K:HCalls}
theorem rB0{st:HSt}{base p12:Nat}{L:List r26_Object}(hl:L.length<100000)(ars:List Area)(rs:List Int){al:HV}{l:List Int}(hal:(al = .p .nils/\l=[])\/al=hN l)(q:Nat){b0 b1:Nat}{lh th:HV}{F ts:List Int}(RF:RowI b0 st lh F)(RT:RowI b1 st th ts)(hFt:F.length=ts.length){lo hi nx:Int}{oh:HV}{os:List r26_Object}(T:T31o base p12 lo hi nx st oh os)(hos:os.length<100000){i:Nat}{o:r26_Object}(ho:L[i]? = some o):
 Run C0 K TH (hce (hcr (hcr bd31))) (env31x L ars rs al (.ptr q 0) lh p12 th i false,st) .norm (env31b L ars rs al (.ptr q 0) lh p12 th i,apO st p12 lo hi nx oh os o):=by
 have hi1:i<L.length:=(Ad.1 ho).1
 have hi2:(i:Int)<L.length:=by omega
 have c2:((L.flatMap cr26_Object).drop (i*4)).take 4=[.int .i64 o.At,.int .i64 o.Shape.Slots,.int .i64 o.Shape.Mask,.sl o.Slots.length (o.Slots.flatMap (cint .i64))]:=yF yH L i o ho
 have b12:=T.b12
 have b12':=T.b12
 have l12:p12<st.length:=by have:=T.lt;have:=T.ge;omega
 have y2:∀g:HSt,(st++g)[p12]? = some (bxM lo hi nx oh (.p .nils)):=fun g=>by rw[Aj l12,b12']
 have y3:∀(g:HSt) (y:HB),(st++g).set p12 y=st.set p12 y++g:=fun g y=>A6 _ _ l12
 have hq:=yah o.Slots
 rcases T.R with⟨rfl,rfl⟩|⟨c,hcne,hc,rfl,hct'⟩
 ·rcases hal with⟨rfl,_⟩|rfl <;> rcases RF.two with⟨rfl,rfl⟩|⟨hf,b2,m2,rfl⟩ <;> rcases RT.two with⟨rfl,rfl⟩|⟨hf',b3,m3,rfl⟩
  all_goals first
   | exact absurd (A3 (by simpa using hFt)) hf
   | exact absurd (A3 (by simpa using hFt.symm)) hf'
   | (refine Run.of 60 ?_
      simp (config:={ maxSteps:=4000000 }) [↓yg,↓yc,yl,-getElem?_pos,Ah,Ai,yx,yA,ye,yd,yp,yj,yu,yk,yw,h31l1,bd31,hce,hcr,hcb,hcl,env31x,env31b,apO,cr26_Object,hi1,hi2,c2,b12,b12',y2,y3,hq])
 ·have hcl':c<st.length:=(Ad.1 hct').1
  have hc12:c≠p12:=by have:=T.lt;omega
  obtain⟨m,hm⟩:∃m,os.length=m:=⟨_,rfl⟩
  obtain⟨cs,hcs⟩:∃cs,(os.flatMap cr26_Object).map HV.p=cs:=⟨_,rfl⟩
  have hcsl:cs.length=m*4:=by rw[←hcs,Bh,ybz,hm]
  rw[hcs] at hct'
  rw[hm] at hct' hos
  simp only[hm] at b12 b12' y2
  have f4:∀g:HSt,(st++g)[c]? = some (.row 4 m cs):=fun g=>by rw[Aj hcl',hct']
  have d1:(m+1)*48<=1099511627776:=by omega
  have d2:m+1<=1099511627776:=by omega
  have d3:cs.take (m*4)=cs:=Aw (by omega)
  have d4:m*4<=cs.length:=by omega
  have f5:∀(g:HSt) (x:HB),(st++g).set c x=st.set c x++g:=fun g x=>A6 _ _ hcl'
  have f8:∀(g:HSt) (x:HB) (j:Nat),(st.set c x++g)[st.length+j]? = g[j]?:=fun g x j=>by rw[A7 (by simp)];simp
  have f10:∀(g:HSt) (x:HB),(st.set c x++g)[p12]? = some (bxM lo hi nx (.row c 0 m 4) (.p .nils)):=fun g x=>by rw[Aj (by simpa using l12),Ar hc12,b12']
  have f11:∀(g:HSt) (x y:HB),(st.set c x++g).set p12 y=(st.set c x).set p12 y++g:=fun g x y=>A6 _ _ (by simpa using l12)
  simp only[apO,hcs,hm]
  rcases hal with⟨rfl,_⟩|rfl <;> rcases RF.two with⟨rfl,rfl⟩|⟨hf,b2,m2,rfl⟩ <;> rcases RT.two with⟨rfl,rfl⟩|⟨hf',b3,m3,rfl⟩
  all_goals first
   | exact absurd (A3 (by simpa using hFt)) hf
   | exact absurd (A3 (by simpa using hFt.symm)) hf'
   | (refine Run.of 60 ?_
      simp (config:={ maxSteps:=4000000 }) [↓yg,↓yc,yl,-getElem?_pos,Ah,Ai,yx,yA,ye,yd,yp,yj,yu,yk,yw,h31l1,bd31,hce,hcr,hcb,Go.Ab.hcl,env31x,env31b,cr26_Object,hi1,hi2,c2,b12,b12',y2,y3,hq,f4,f5,f8,f10,f11,d1,d2,d3,d4,hcsl])
open Go
set_option maxRecDepth 10000
set_option maxHeartbeats 4000000
variable {K:HCalls}
def env31c(L:List r26_Object)(rs:List Int)(h10 lh:HV)(p12:Nat)(th:HV)(i:Nat):HEnv:=[(0,hL L),(3,hN rs),(10,h10),(11,lh),(12,.ptr p12 0),(13,th),(16,hI i)]
theorem ymb{st:HSt}(L:List r26_Object)(rs:List Int)(h10:HV){b0:Nat}{lh:HV}{F:List Int}(RF:RowI b0 st lh F)(p12:Nat)(th:HV):Run C0 K TH h31l2 (env31c L rs h10 lh p12 th F.length,st) (.exit 4) ([(3,hN rs),(10,h10),(11,lh),(12,.ptr p12 0),(13,th)],st):=by
 rcases RF.two with⟨rfl,rfl⟩|⟨hf,b2,m2,rfl⟩
 ·refine Run.of 60 ?_
  simp (config:={ maxSteps:=4000000 }) [↓yg,↓yc,yl,-getElem?_pos,Ah,Ai,yx,yA,ye,yd,yp,yj,yu,yk,yw,h31l2,env31c]
 ·rcases RF with⟨h,_⟩|⟨b,h,_,h3,_⟩
  ·exact absurd h hf
  ·cases h3
   refine Run.of 60 ?_
   simp (config:={ maxSteps:=4000000 }) [↓yg,↓yc,yl,-getElem?_pos,Ah,Ai,yx,yA,ye,yd,yp,yj,yu,yk,yw,h31l2,env31c]
theorem yoO{st:HSt}(L:List r26_Object)(rs:List Int)(h10:HV)(p12:Nat)(th:HV){F:List Int}(hFl:F.length<100000){lb i:Nat}(hi:i<F.length):Run C0 K TH (hcl h31l2) (env31c L rs h10 (.row lb 0 F.length 1) p12 th i,st) .norm (env31c L rs h10 (.row lb 0 F.length 1) p12 th i,st):=by
 have hi':(i:Int)<F.length:=by omega
 refine Run.of 60 ?_
 simp (config:={ maxSteps:=4000000 }) [↓yg,↓yc,yl,-getElem?_pos,Ah,Ai,yx,yA,ye,yd,yp,yj,yu,yk,yw,h31l2,hcl,env31c,hi,hi']
theorem yoP{st:HSt}(L:List r26_Object)(rs:List Int)(h10 lh:HV)(p12:Nat)(th:HV){i:Nat}(hi:i<100000):Run C0 K TH (hcr (hcr h31l2)) (env31c L rs h10 lh p12 th i,st) .norm (env31c L rs h10 lh p12 th (i+1),st):=by
 have w:=wrN (i:=i) (by omega)
 refine Run.of 60 ?_
 simp (config:={ maxSteps:=4000000 }) [↓yg,↓yc,yl,-getElem?_pos,Ah,Ai,yx,yA,ye,yd,yp,yj,yu,yk,yw,h31l2,hcr,env31c,w]
theorem rC0(B:KPu K){st st1:HSt}{base p12:Nat}{L:List r26_Object}(hl:L.length<100000)(rs:List Int)(q:Nat){lb tb:Nat}{F ts:List Int}(hF:st[lb]? = some (.row 1 F.length (F.map fun n=>.p (.int .i64 n))))(hT:st[tb]? = some (.row 1 ts.length (ts.map fun n=>.p (.int .i64 n))))(hFl:F.length<100000){lo hi nx:Int}{oh:HV}{os:List r26_Object}(T:T31o base p12 lo hi nx st oh os)(T1:T31o base p12 lo hi nx st1 oh os)(hos:os.length<100000){i:Nat}{v t:Int}(hv:F[i]? = some v)(ht:ts[i]? = some t)
 {k:Nat}{o:r26_Object}(hf:r26_Find L v=some (k:Int))(ho:L[k]? = some o){tr:List Int}
 (e84:∀n,evHF C0 K TH (n+1) 84 [hO o,hI t,.row lb 0 F.length 1,.row tb 0 ts.length 1] st=some (hO ⟨t,o.Shape,tr⟩,st1)):
 Run C0 K TH (hcb (hcl (hcr h31l2))) (env31c L rs (.ptr q 0) (.row lb 0 F.length 1) p12 (.row tb 0 ts.length 1) i,st) .norm (env31c L rs (.ptr q 0) (.row lb 0 F.length 1) p12 (.row tb 0 ts.length 1) i,apO st1 p12 lo hi nx oh os ⟨t,o.Shape,tr⟩):=by
 have hil:i<F.length:=(Ad.1 hv).1
 have hil':(i:Int)<F.length:=by omega
 have htl:i<ts.length:=(Ad.1 ht).1
 have htl':(i:Int)<ts.length:=by omega
 have hkl:k<L.length:=(Ad.1 ho).1
 have hkl':(k:Int)<L.length:=by omega
 have w:=wrN (i:=i) (by omega)
 have i1:i+1<=F.length:=by omega
 have i2:i+1<=ts.length:=by omega
 have c3:(F.map fun n=>HV.p (.int .i64 n))[i]? = some (hI v):=by simp[hv]
 have c5:(ts.map fun n=>HV.p (.int .i64 n))[i]? = some (hI t):=by simp[ht]
 obtain⟨fs,hfs⟩:∃fs,(F.map fun n=>HV.p (.int .i64 n))=fs:=⟨_,rfl⟩
 obtain⟨us,hus⟩:∃us,(ts.map fun n=>HV.p (.int .i64 n))=us:=⟨_,rfl⟩
 have c4:fs.length=F.length:=by rw[←hfs];simp
 have c6:us.length=ts.length:=by rw[←hus];simp
 rw[hfs] at hF c3
 rw[hus] at hT c5
 have e21:=fun n st=>k21 B hf n st
 have c2:((L.flatMap cr26_Object).drop (k*4)).take 4=[.int .i64 o.At,.int .i64 o.Shape.Slots,.int .i64 o.Shape.Mask,.sl o.Slots.length (o.Slots.flatMap (cint .i64))]:=yF yH L k o ho
 have b12:=T.b12
 have b12':=T1.b12
 have l12:p12<st1.length:=by have:=T1.lt;have:=T1.ge;omega
 have y2:∀g:HSt,(st1++g)[p12]? = some (bxM lo hi nx oh (.p .nils)):=fun g=>by rw[Aj l12,b12']
 have y3:∀(g:HSt) (y:HB),(st1++g).set p12 y=st1.set p12 y++g:=fun g y=>A6 _ _ l12
 have hq:=yah o.Slots
 have hq2:=yah tr
 rcases T1.R with⟨rfl,rfl⟩|⟨c,hcne,hc,rfl,hct'⟩
 ·refine Run.of 60 ?_
  simp (config:={ maxSteps:=4000000 }) [↓yg,↓yc,yl,-getElem?_pos,Ah,Ai,yx,yA,ye,yd,yp,yj,yu,yk,yw,h31l2,hcb,hcl,hcr,env31c,apO,cr26_Object,hil,hil',htl,htl',hkl,hkl',w,i1,i2,hF,hT,c3,c4,c5,c6,e21,c2,e84,b12,b12',y2,y3,hq,hq2]
 ·have hcl':c<st1.length:=(Ad.1 hct').1
  have hc12:c≠p12:=by have:=T1.lt;omega
  obtain⟨m,hm⟩:∃m,os.length=m:=⟨_,rfl⟩
  obtain⟨cs,hcs⟩:∃cs,(os.flatMap cr26_Object).map HV.p=cs:=⟨_,rfl⟩
  have hcsl:cs.length=m*4:=by rw[←hcs,Bh,ybz,hm]
  rw[hcs] at hct'
  rw[hm] at hct' hos
  simp only[hm] at b12 b12' y2
  have f4:∀g:HSt,(st1++g)[c]? = some (.row 4 m cs):=fun g=>by rw[Aj hcl',hct']
  have d1:(m+1)*48<=1099511627776:=by omega
  have d2:m+1<=1099511627776:=by omega
  have d3:cs.take (m*4)=cs:=Aw (by omega)
  have d4:m*4<=cs.length:=by omega
  have f5:∀(g:HSt) (x:HB),(st1++g).set c x=st1.set c x++g:=fun g x=>A6 _ _ hcl'
  have f8:∀(g:HSt) (x:HB) (j:Nat),(st1.set c x++g)[st1.length+j]? = g[j]?:=fun g x j=>by rw[A7 (by simp)];simp
  have f10:∀(g:HSt) (x:HB),(st1.set c x++g)[p12]? = some (bxM lo hi nx (.row c 0 m 4) (.p .nils)):=fun g x=>by rw[Aj (by simpa using l12),Ar hc12,b12']
  have f11:∀(g:HSt) (x y:HB),(st1.set c x++g).set p12 y=(st1.set c x).set p12 y++g:=fun g x y=>A6 _ _ (by simpa using l12)
  simp only[apO,hcs,hm]
  refine Run.of 60 ?_
  simp (config:={ maxSteps:=4000000 }) [↓yg,↓yc,yl,-getElem?_pos,Ah,Ai,yx,yA,ye,yd,yp,yj,yu,yk,yw,h31l2,hcb,Go.Ab.hcl,hcr,env31c,cr26_Object,hil,hil',htl,htl',hkl,hkl',w,i1,i2,hF,hT,c3,c4,c5,c6,e21,c2,e84,b12,b12',y2,y3,hq,hq2,f4,f5,f8,f10,f11,d1,d2,d3,d4,hcsl]
open Go
set_option maxRecDepth 10000
set_option maxHeartbeats 4000000
variable {K:HCalls}
def env31d(rs:List Int)(h10 lh:HV)(p12:Nat)(th:HV)(i:Nat):HEnv:=[(3,hN rs),(10,h10),(11,lh),(12,.ptr p12 0),(13,th),(17,hI i)]
structure T31r (base p12:Nat) (lo hi nx:Int) (oh:HV) (st:HSt) (rh:HV) (xs:List Int):Prop where
 b12:st[p12]? = some (bxM lo hi nx oh rh)
 R:RowI base st rh xs
 lt:p12<base
 ge:base<=st.length
theorem T31r.app{base p12:Nat}{lo hi nx:Int}{oh:HV}{st:HSt}{rh:HV}{xs:List Int}(T:T31r base p12 lo hi nx oh st rh xs)(g:HSt):T31r base p12 lo hi nx oh (st++g) rh xs:=
 ⟨by rw[Aj (Ad.1 T.b12).1];exact T.b12,T.R.app g,T.lt,by have:=T.ge;simp;omega⟩
def apR(st:HSt)(p12:Nat)(lo hi nx:Int)(oh rh:HV)(xs:List Int)(v:Int):HSt:=match rh with
 | .row c _ _ _=>(st.set c .dead).set p12 (bxM lo hi nx oh (.row (st.length+1) 0 (xs.length+1) 1))++[.row 1 1 [hI v],.row 1 (xs.length+1) ((xs.map fun n=>.p (.int .i64 n))++[hI v])]
 | _=>st.set p12 (bxM lo hi nx oh (.row (st.length+1) 0 1 1))++[.row 1 1 [hI v],.row 1 1 [hI v]]
theorem T31r.push{base p12:Nat}{lo hi nx:Int}{oh:HV}{st:HSt}{rh:HV}{xs:List Int}(T:T31r base p12 lo hi nx oh st rh xs)(v:Int):
 T31r base p12 lo hi nx oh (apR st p12 lo hi nx oh rh xs v) (.row (st.length+1) 0 (xs.length+1) 1) (xs++[v])/\Kq p12 base st (apR st p12 lo hi nx oh rh xs v):=by
 obtain⟨b12,R,lt,ge⟩:=T
 have l12:p12<st.length:=by omega
 rcases R with⟨rfl,rfl⟩|⟨c,hne,hc,rfl,hct⟩
 ·refine⟨⟨?_,.inr ⟨st.length+1,by simp,by omega,rfl,?_⟩,lt,?_⟩,⟨?_,fun i hi hn=>?_,fun q ds hq hds=>?_⟩⟩
  ·simp only[apR]
   rw[Aj (by simpa using l12),Bk l12];rfl
  ·simp only[apR]
   rw[A7 (by simp)];simp
  ·simp only[apR];simp;omega
  ·simp only[apR];simp
  ·simp only[apR]
   rw[Aj (by simp;omega),Ar (by omega)]
  ·simp only[apR]
   rw[Aj (by simpa using (Ad.1 hds).1),Ar (fun e=>hq e.symm)];exact hds
 ·have hcl:c<st.length:=(Ad.1 hct).1
  refine⟨⟨?_,.inr ⟨st.length+1,by simp,by omega,by simp,?_⟩,lt,?_⟩,⟨?_,fun i hi hn=>?_,fun q ds hq hds=>?_⟩⟩
  ·simp only[apR]
   rw[Aj (by simpa using l12),Bk (by simpa using l12)]
  ·simp only[apR]
   rw[A7 (by simp)];simp
  ·simp only[apR];simp;omega
  ·simp only[apR];simp
  ·simp only[apR]
   rw[Aj (by simp;omega),Ar (by omega),Ar (by omega)]
  ·simp only[apR]
   rw[Aj (by simpa using (Ad.1 hds).1),Ar (fun e=>hq e.symm),Ar (fun e=>by rw[←e,hct] at hds;cases hds)];exact hds
theorem yoQ{st:HSt}(rs:List Int)(h10 lh:HV)(p12:Nat)(th:HV):Run C0 K TH h31l3 (env31d rs h10 lh p12 th rs.length,st) (.exit 6) ([(10,h10),(12,.ptr p12 0)],st):=by
 refine Run.of 60 ?_
 simp (config:={ maxSteps:=4000000 }) [↓yg,↓yc,yl,-getElem?_pos,Ah,Ai,yx,yA,ye,yd,yp,yj,yu,yk,yw,h31l3,env31d]
theorem yoR{st:HSt}(rs:List Int)(h10 lh:HV)(p12:Nat)(th:HV){i:Nat}(hi:i<rs.length)(hr:rs.length<100000):Run C0 K TH (hcl h31l3) (env31d rs h10 lh p12 th i,st) .norm (env31d rs h10 lh p12 th i,st):=by
 have hi':(i:Int)<rs.length:=by omega
 refine Run.of 60 ?_
 simp (config:={ maxSteps:=4000000 }) [↓yg,↓yc,yl,-getElem?_pos,Ah,Ai,yx,yA,ye,yd,yp,yj,yu,yk,yw,h31l3,hcl,env31d,hi,hi']
theorem yoS{st:HSt}(rs:List Int)(h10 lh:HV)(p12:Nat)(th:HV){i:Nat}(hi:i<100000):Run C0 K TH (hcr (hcr h31l3)) (env31d rs h10 lh p12 th i,st) .norm (env31d rs h10 lh p12 th (i+1),st):=by
 have w:=wrN (i:=i) (by omega)
 refine Run.of 60 ?_
 simp (config:={ maxSteps:=4000000 }) [↓yg,↓yc,yl,-getElem?_pos,Ah,Ai,yx,yA,ye,yd,yp,yj,yu,yk,yw,h31l3,hcr,env31d,w]
theorem rD0{st:HSt}{base p12:Nat}(rs:List Int)(hr:rs.length<100000)(q:Nat){b0 b1:Nat}{lh th:HV}{F ts:List Int}(RF:RowI b0 st lh F)(RT:RowI b1 st th ts)(hFt:F.length=ts.length){lo hi nx:Int}{oh rh:HV}{xs:List Int}(T:T31r base p12 lo hi nx oh st rh xs)(hxs:xs.length<100000){i:Nat}{v u:Int}(hv:rs[i]? = some v)
 (e85:∀n,evHF C0 K TH (n+1) 85 [lh,th,hI v] st=some (hI u,st)):
 Run C0 K TH (hcb (hcl (hcr h31l3))) (env31d rs (.ptr q 0) lh p12 th i,st) .norm (env31d rs (.ptr q 0) lh p12 th i,apR st p12 lo hi nx oh rh xs u):=by
 have hi1:i<rs.length:=(Ad.1 hv).1
 have hi2:(i:Int)<rs.length:=by omega
 have c2:=yba hv
 have b12:=T.b12
 have l12:p12<st.length:=by have:=T.lt;have:=T.ge;omega
 have y2:∀g:HSt,(st++g)[p12]? = some (bxM lo hi nx oh rh):=fun g=>by rw[Aj l12,b12]
 have y3:∀(g:HSt) (y:HB),(st++g).set p12 y=st.set p12 y++g:=fun g y=>A6 _ _ l12
 rcases T.R with⟨rfl,rfl⟩|⟨c,hcne,hc,rfl,hct'⟩
 ·rcases RF.two with⟨rfl,rfl⟩|⟨hf,b2,m2,rfl⟩ <;> rcases RT.two with⟨rfl,rfl⟩|⟨hf',b3,m3,rfl⟩
  all_goals first
   | exact absurd (A3 (by simpa using hFt)) hf
   | exact absurd (A3 (by simpa using hFt.symm)) hf'
   | (refine Run.of 60 ?_
      simp (config:={ maxSteps:=4000000 }) [↓yg,↓yc,yl,-getElem?_pos,Ah,Ai,yx,yA,ye,yd,yp,yj,yu,yk,yw,h31l3,hcr,hcb,hcl,env31d,apR,hi1,hi2,c2,e85,b12,y2,y3])
 ·have hcl':c<st.length:=(Ad.1 hct').1
  have hc12:c≠p12:=by have:=T.lt;omega
  obtain⟨m,hm⟩:∃m,xs.length=m:=⟨_,rfl⟩
  obtain⟨cs,hcs⟩:∃cs,(xs.map fun n=>HV.p (.int .i64 n))=cs:=⟨_,rfl⟩
  have hcsl:cs.length=m:=by rw[←hcs,Bh,hm]
  rw[hcs] at hct'
  rw[hm] at hct' hxs
  simp only[hm] at b12 y2
  have f4:∀g:HSt,(st++g)[c]? = some (.row 1 m cs):=fun g=>by rw[Aj hcl',hct']
  have d1:(m+1)*8<=1099511627776:=by omega
  have d2:m+1<=1099511627776:=by omega
  have d3:cs.take m=cs:=Aw (by omega)
  have f5:∀(g:HSt) (x:HB),(st++g).set c x=st.set c x++g:=fun g x=>A6 _ _ hcl'
  have f8:∀(g:HSt) (x:HB) (j:Nat),(st.set c x++g)[st.length+j]? = g[j]?:=fun g x j=>by rw[A7 (by simp)];simp
  have f10:∀(g:HSt) (x:HB),(st.set c x++g)[p12]? = some (bxM lo hi nx oh (.row c 0 m 1)):=fun g x=>by rw[Aj (by simpa using l12),Ar hc12,b12]
  have f11:∀(g:HSt) (x y:HB),(st.set c x++g).set p12 y=(st.set c x).set p12 y++g:=fun g x y=>A6 _ _ (by simpa using l12)
  simp only[apR,hcs,hm]
  rcases RF.two with⟨rfl,rfl⟩|⟨hf,b2,m2,rfl⟩ <;> rcases RT.two with⟨rfl,rfl⟩|⟨hf',b3,m3,rfl⟩
  all_goals first
   | exact absurd (A3 (by simpa using hFt)) hf
   | exact absurd (A3 (by simpa using hFt.symm)) hf'
   | (refine Run.of 60 ?_
      simp (config:={ maxSteps:=4000000 }) [↓yg,↓yc,yl,-getElem?_pos,Ah,Ai,yx,yA,ye,yd,yp,yj,yu,yk,yw,h31l3,hcr,hcb,Go.Ab.hcl,env31d,hi1,hi2,c2,e85,b12,y2,y3,f4,f5,f8,f10,f11,d1,d2,d3,hcsl])
end Go.Ab
