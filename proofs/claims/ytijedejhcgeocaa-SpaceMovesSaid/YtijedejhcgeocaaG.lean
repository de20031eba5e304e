/-
  Texts of this seat: lemmas on the way to the statement.
-/
import Derived.Test.YtijedejhcgeocaaF
import Derived.Test.YtijedejhcgeocaaE
import Derived.Test.YtijedejhcgeocaaD
import Derived.Test.YtijedejhcgeocaaProg
import Derived.KernelRfl
set_option linter.unusedVariables false
set_option linter.unusedSimpArgs false
namespace Go.Ab
open Go
set_option maxRecDepth 10000
set_option maxHeartbeats 4000000
variable {K:HCalls}
theorem Same.kq{p n:Nat}{st st':HSt}(S:Same st.length st st')(h:n<=st.length):Kq p n st st':=⟨S.len,fun i hi _=>S.get i (by omega),fun q cs _ hc=>by rw[S.get q (Ad.1 hc).1];exact hc⟩
def tuO(F ts:List Int)(at':Int)(o:r26_Object):r26_Object:=⟨at',o.Shape,trnM F ts o.Shape 0 o.Slots⟩
theorem rA(H84:F84 K){base p12:Nat}{L:List r26_Object}(hl:L.length<100000)(ars:List Area)(rs:List Int){al:HV}{l:List Int}(hal:(al = .p .nils/\l=[])\/al=hN l){b0 b1:Nat}{lh th:HV}{F ts:List Int}(hFt:F.length=ts.length)(hFl:F.length<100000){lo hi nx:Int}{oh:HV}{os:List r26_Object}{st:HSt}{h10:HV}(h1:H10 p12 st h10)(RF:RowI b0 st lh F)(RT:RowI b1 st th ts)(T:T31o base p12 lo hi nx st oh os)(hos:os.length<100000){i:Nat}{o:r26_Object}(ho:L[i]? = some o)(hx:OkSh o.Shape)(hol:o.Slots.length<1000):
 ∃st1 oh1 h2,Run C0 K TH (hct (hcr (hcr bd31))) (env31x L ars rs al h10 lh p12 th i true,st) .norm (env31b L ars rs al h2 lh p12 th i,st1)/\H10 p12 st1 h2/\T31o base p12 lo hi nx st1 oh1 (os++[tuO F ts o.At o])/\Kq p12 base st st1:=by
 have ge:=T.ge
 rcases h1 with rfl|⟨q,rfl,hqp,hqb⟩
 ·have T':=T.app [bk31]
  have hq0:H10 p12 (st++[bk31]) (.ptr st.length 0):=.inr ⟨_,rfl,by have:=T.lt;omega,by rw[yy];rfl⟩
  obtain⟨st1,k,S⟩:=H84 (o:=o) o.At hx hol (RF.app [bk31]) (RT.app [bk31]) hFt hFl
  have T1:=T'.same S
  obtain⟨P1,P2⟩:=T1.push (tuO F ts o.At o)
  refine⟨_,_,.ptr st.length 0,yeM ?_ (rA0 hl ars rs hal st.length (RF.app [bk31]) (RT.app [bk31]) hFt T' T1 hos ho fun n=>yW k n),hq0.kq ((S.kq (by simp;omega)).trans P2),P1,((Kq.app ge [bk31]).trans (S.kq (by simp;omega))).trans P2⟩
  rcases hal with⟨rfl,_⟩|rfl <;> rcases RF.sh with rfl|⟨b2,q2,rfl⟩ <;> rcases RT.sh with rfl|⟨b3,q3,rfl⟩
  all_goals rfl
 ·have hq1:H10 p12 st (.ptr q 0):=.inr ⟨q,rfl,hqp,hqb⟩
  obtain⟨st1,k,S⟩:=H84 (o:=o) o.At hx hol RF RT hFt hFl
  have T1:=T.same S
  obtain⟨P1,P2⟩:=T1.push (tuO F ts o.At o)
  exact⟨_,_,.ptr q 0,rA0 hl ars rs hal q RF RT hFt T T1 hos ho fun n=>yW k n,hq1.kq ((S.kq ge).trans P2),P1,(S.kq ge).trans P2⟩
theorem rB{base p12:Nat}{L:List r26_Object}(hl:L.length<100000)(ars:List Area)(rs:List Int){al:HV}{l:List Int}(hal:(al = .p .nils/\l=[])\/al=hN l){b0 b1:Nat}{lh th:HV}{F ts:List Int}(hFt:F.length=ts.length){lo hi nx:Int}{oh:HV}{os:List r26_Object}{st:HSt}{h10:HV}(h1:H10 p12 st h10)(RF:RowI b0 st lh F)(RT:RowI b1 st th ts)(T:T31o base p12 lo hi nx st oh os)(hos:os.length<100000){i:Nat}{o:r26_Object}(ho:L[i]? = some o):
 ∃st1 oh1 h2,Run C0 K TH (hce (hcr (hcr bd31))) (env31x L ars rs al h10 lh p12 th i false,st) .norm (env31b L ars rs al h2 lh p12 th i,st1)/\H10 p12 st1 h2/\T31o base p12 lo hi nx st1 oh1 (os++[o])/\Kq p12 base st st1:=by
 have ge:=T.ge
 rcases h1 with rfl|⟨q,rfl,hqp,hqb⟩
 ·have T':=T.app [bk31]
  have hq0:H10 p12 (st++[bk31]) (.ptr st.length 0):=.inr ⟨_,rfl,by have:=T.lt;omega,by rw[yy];rfl⟩
  obtain⟨P1,P2⟩:=T'.push o
  refine⟨_,_,.ptr st.length 0,yeM ?_ (rB0 hl ars rs hal st.length (RF.app [bk31]) (RT.app [bk31]) hFt T' hos ho),hq0.kq P2,P1,(Kq.app ge [bk31]).trans P2⟩
  rcases hal with⟨rfl,_⟩|rfl <;> rcases RF.sh with rfl|⟨b2,q2,rfl⟩ <;> rcases RT.sh with rfl|⟨b3,q3,rfl⟩
  all_goals rfl
 ·have hq1:H10 p12 st (.ptr q 0):=.inr ⟨q,rfl,hqp,hqb⟩
  obtain⟨P1,P2⟩:=T.push o
  exact⟨_,_,.ptr q 0,rB0 hl ars rs hal q RF RT hFt T hos ho,hq1.kq P2,P1,P2⟩
def stays(F ts:List Int)(ars:List Area)(l:List Int)(L:List r26_Object):List r26_Object:=(nf L ars).map fun o=>if o.At∈l then tuO F ts o.At o else o
theorem ykv(F ts:List Int)(ars:List Area)(l:List Int)(o:r26_Object)(L:List r26_Object):stays F ts ars l (o::L)=(if inAny ars o.At then [] else [if o.At∈l then tuO F ts o.At o else o])++stays F ts ars l L:=by
 unfold stays nf
 cases h:inAny ars o.At <;> simp[List.filter_cons,h]
theorem yoT(B:KPu K)(H84:F84 K){base p12:Nat}{L:List r26_Object}(hl:L.length<50000){ars:List Area}(har:ars.length<1000)(rs:List Int){al:HV}{l:List Int}(hal:(al = .p .nils/\l=[])\/al=hN l)(hll:l.length<100000){b0 b1:Nat}{lh th:HV}{F ts:List Int}(hFt:F.length=ts.length)(hFl:F.length<100000){lo hi nx:Int}{oh:HV}{os:List r26_Object}{st:HSt}{h10:HV}(h1:H10 p12 st h10)(RF:RowI b0 st lh F)(RT:RowI b1 st th ts)(T:T31o base p12 lo hi nx st oh os)(hos:os.length<100000){i:Nat}{o:r26_Object}(ho:L[i]? = some o)(hx:OkSh o.Shape)(hol:o.Slots.length<1000):
 ∃st1 oh1 h2,Run C0 K TH h31l1 (env31b L ars rs al h10 lh p12 th i,st) .norm (env31b L ars rs al h2 lh p12 th (i+1),st1)/\H10 p12 st1 h2/\T31o base p12 lo hi nx st1 oh1 (os++(if inAny ars o.At then [] else [if o.At∈l then tuO F ts o.At o else o]))/\Kq p12 base st st1:=by
 have hil:i<L.length:=(Ad.1 ho).1
 have r0:=yoM (K:=K) (st:=st) ars rs al h10 lh p12 th hil (by omega)
 have hin:=yqJ (st:=st) B har rs al h10 lh p12 th ho (b:=inAny ars o.At) rfl
 cases hb:inAny ars o.At with
 | true=>
   rw[hb] at hin
   refine⟨st,oh,h10,?_,h1,by rw[if_pos rfl,Br];exact T,Kq.refl _ _ _⟩
   rw[show h31l1 = .seq (hcl h31l1) (.seq (.block 3 bd31 [0,1,3,4,10,11,12,13,15]) (hcr (hcr h31l1))) from rfl]
   refine Run.seq r0 (Run.seq (Run.block (id:=3) (k:=[0,1,3,4,10,11,12,13,15]) (b:=bd31) (ex:=.exit 3) (s1:=(env31b L ars rs al h10 lh p12 th i,st)) ?_) ?_)
   ·rw[show bd31 = .seq (hcl bd31) (hcr bd31) from rfl]
    exact Run.seqX hin (by simp)
   ·exact yma ars rs al h10 lh p12 th (by omega)
 | false=>
   rw[hb] at hin
   have r2:=ypH (st:=st) B ars rs hal hll h10 lh p12 th ho
   have cut:∀(st1:HSt) (h2:HV),Run C0 K TH (hcr (hcr bd31)) (env31x L ars rs al h10 lh p12 th i (l.contains o.At),st) .norm (env31b L ars rs al h2 lh p12 th i,st1)->Run C0 K TH h31l1 (env31b L ars rs al h10 lh p12 th i,st) .norm (env31b L ars rs al h2 lh p12 th (i+1),st1):=fun st1 h2 r3=>by
    rw[show h31l1 = .seq (hcl h31l1) (.seq (.block 3 bd31 [0,1,3,4,10,11,12,13,15]) (hcr (hcr h31l1))) from rfl]
    refine Run.seq r0 (Run.seq (Run.block (id:=3) (k:=[0,1,3,4,10,11,12,13,15]) (b:=bd31) (ex:=.norm) (s1:=(env31b L ars rs al h2 lh p12 th i,st1)) ?_) ?_)
    ·rw[show bd31 = .seq (hcl bd31) (.seq (hcl (hcr bd31)) (hcr (hcr bd31))) from rfl]
     exact Run.seq hin (Run.seq r2 r3)
    ·exact yma ars rs al h2 lh p12 th (by omega)
   cases hc:l.contains o.At with
   | true=>
     rw[hc] at cut
     have hm:o.At∈l:=by simpa using hc
     obtain⟨st1,oh1,h2,r3,H2,T1,S1⟩:=rA H84 (by omega) ars rs hal hFt hFl h1 RF RT T hos ho hx hol
     refine⟨st1,oh1,h2,cut st1 h2 ?_,H2,by rw[if_neg (by simp),if_pos hm];exact T1,S1⟩
     rw[show hcr (hcr bd31) = .cond (.t 74) (hct (hcr (hcr bd31))) (hce (hcr (hcr bd31))) [0,1,3,4,10,11,12,13,15] from rfl]
     exact Run.condT rfl r3
   | false=>
     rw[hc] at cut
     have hm:o.At∉l:=by simpa using hc
     obtain⟨st1,oh1,h2,r3,H2,T1,S1⟩:=rB (K:=K) (by omega) ars rs hal hFt h1 RF RT T hos ho
     refine⟨st1,oh1,h2,cut st1 h2 ?_,H2,by rw[if_neg (by simp),if_neg hm];exact T1,S1⟩
     rw[show hcr (hcr bd31) = .cond (.t 74) (hct (hcr (hcr bd31))) (hce (hcr (hcr bd31))) [0,1,3,4,10,11,12,13,15] from rfl]
     exact Run.condF rfl r3
theorem ymc(B:KPu K)(H84:F84 K){base p12:Nat}{L:List r26_Object}(hl:L.length<50000){ars:List Area}(har:ars.length<1000)(rs:List Int){al:HV}{l:List Int}(hal:(al = .p .nils/\l=[])\/al=hN l)(hll:l.length<100000){b0 b1:Nat}{lh th:HV}{F ts:List Int}(hFt:F.length=ts.length)(hFl:F.length<100000)(hok:∀o∈L,OkSh o.Shape/\o.Slots.length<1000)(hbl:∀b,lh = .row b 0 F.length 1->b<base/\b≠p12)(hbt:∀b,th = .row b 0 ts.length 1->b<base/\b≠p12){lo hi nx:Int}:∀(m i:Nat) (st:HSt) (oh h10:HV) (os:List r26_Object),L.length-i=m->i<=L.length->os.length<=i->H10 p12 st h10->RowI b0 st lh F->RowI b1 st th ts->T31o base p12 lo hi nx st oh os ->
 ∃st1 oh1 h2,Run C0 K TH (.loop h31l1 [0,1,3,4,10,11,12,13,15]) (env31b L ars rs al h10 lh p12 th i,st) (.exit 2) ([(0,hL L),(3,hN rs),(10,h2),(11,lh),(12,.ptr p12 0),(13,th)],st1)/\H10 p12 st1 h2/\T31o base p12 lo hi nx st1 oh1 (os++stays F ts ars l (L.drop i))/\Kq p12 base st st1
 | 0,i,st,oh,h10,os,hm,hi',hoi,h1,RF,RT,T=>by
   have:i=L.length:=by omega
   subst this
   exact⟨st,oh,h10,Run.loopX (yoN ars rs al h10 lh p12 th) (by simp),h1,by rw[Bw];simpa[stays,nf] using T,Kq.refl _ _ _⟩
 | m+1,i,st,oh,h10,os,hm,hi',hoi,h1,RF,RT,T=>by
   have hil:i<L.length:=by omega
   obtain⟨hx,hol⟩:=hok L[i] (Au hil)
   obtain⟨st1,oh1,h2,r1,H2,T1,S1⟩:=yoT B H84 hl har rs hal hll hFt hFl h1 RF RT T (by omega) (i:=i) (o:=L[i]) (Bd hil) hx hol
   obtain⟨st2,oh2,h3,r2,H3,T2,S2⟩:=ymc B H84 hl har rs hal hll hFt hFl hok hbl hbt m (i+1) st1 oh1 h2 _ (by omega) (by omega) (by rw[Bj];split <;> simp <;> omega) H2 (RF.kq S1 hbl) (RT.kq S1 hbt) T1
   refine⟨st2,oh2,h3,Run.loopN r1 r2,H3,?_,S1.trans S2⟩
   rw[A8 hil,ykv,←A4];exact T2
def goes(L:List r26_Object)(F ts:List Int):List Int->List Int->List r26_Object
 | p::ps,t::us=>(match objAt L p with
   | some o=>tuO F ts t o
   | none=>⟨t,⟨0,0⟩,[]⟩)::goes L F ts ps us
 | _,_=>[]
theorem ymd(B:KPu K)(H84:F84 K){base p12:Nat}{L:List r26_Object}(hl:L.length<50000)(hap:(L.map keyOf).Pairwise Apart)(rs:List Int){lb tb:Nat}{F ts:List Int}(hFt:F.length=ts.length)(hFl:F.length<40000)(hFm:∀p∈F,∃o∈L,o.At=p)(hok:∀o∈L,OkSh o.Shape/\o.Slots.length<1000)(hbl:lb<base/\lb≠p12)(hbt:tb<base/\tb≠p12){lo hi nx:Int}:∀(m i:Nat) (st:HSt) (oh h10:HV) (os:List r26_Object),F.length-i=m->i<=F.length->os.length<=50000+i->H10 p12 st h10->st[lb]? = some (.row 1 F.length (F.map fun n=>.p (.int .i64 n)))->st[tb]? = some (.row 1 ts.length (ts.map fun n=>.p (.int .i64 n)))->T31o base p12 lo hi nx st oh os ->
 ∃st1 oh1 h2,Run C0 K TH (.loop h31l2 [0,3,10,11,12,13,16]) (env31c L rs h10 (.row lb 0 F.length 1) p12 (.row tb 0 ts.length 1) i,st) (.exit 4) ([(3,hN rs),(10,h2),(11,.row lb 0 F.length 1),(12,.ptr p12 0),(13,.row tb 0 ts.length 1)],st1)/\H10 p12 st1 h2/\T31o base p12 lo hi nx st1 oh1 (os++goes L F ts (F.drop i) (ts.drop i))/\Kq p12 base st st1
 | 0,i,st,oh,h10,os,hm,hi',hoi,h1,hF,hT,T=>by
   have:i=F.length:=by omega
   subst this
   have hd:os++goes L F ts (F.drop F.length) (ts.drop F.length)=os:=by rw[Bw];simp[goes]
   by_cases hne:F=[]
   ·subst hne
    refine⟨st,oh,h10,Run.loopX (Run.of 60 ?_) (by simp),h1,by rw[hd];exact T,Kq.refl _ _ _⟩
    simp (config:={ maxSteps:=4000000 }) [↓yg,↓yc,yl,-getElem?_pos,Ah,Ai,yx,yA,ye,yd,yp,yj,yu,yk,yw,h31l2,env31c]
   ·exact⟨st,oh,h10,Run.loopX (ymb L rs h10 (b0:=0) (.inr ⟨lb,hne,by omega,rfl,hF⟩) p12 _) (by simp),h1,by rw[hd];exact T,Kq.refl _ _ _⟩
 | m+1,i,st,oh,h10,os,hm,hi',hoi,h1,hF,hT,T=>by
   have hil:i<F.length:=by omega
   have htl:i<ts.length:=by omega
   have ge:=T.ge
   obtain⟨o,ho,hoa⟩:=hFm F[i] (Au hil)
   have hob:=yaQ hap ho
   rw[hoa] at hob
   obtain⟨hx,hol⟩:=hok o ho
   have hFne:F≠[]:=fun e=>by rw[e] at hil;simp at hil
   have hTne:ts≠[]:=fun e=>by rw[e] at htl;simp at htl
   rcases ycV hap (by omega:L.length<140737488355328) F[i] with⟨k,o2,e1,e2,e3,_⟩|⟨_,e2⟩
   ·rw[hob] at e3;cases e3
    have hFr:RowI 0 st (.row lb 0 F.length 1) F:=.inr ⟨lb,hFne,by omega,rfl,hF⟩
    have hTr:RowI 0 st (.row tb 0 ts.length 1) ts:=.inr ⟨tb,hTne,by omega,rfl,hT⟩
    have step:∃st1 oh1 h2,Run C0 K TH (hcb (hcl (hcr h31l2))) (env31c L rs h10 (.row lb 0 F.length 1) p12 (.row tb 0 ts.length 1) i,st) .norm (env31c L rs h2 (.row lb 0 F.length 1) p12 (.row tb 0 ts.length 1) i,st1)/\H10 p12 st1 h2/\T31o base p12 lo hi nx st1 oh1 (os++[tuO F ts ts[i] o])/\Kq p12 base st st1:=by
     rcases h1 with rfl|⟨q,rfl,hqp,hqb⟩
     ·have T':=T.app [bk31]
      have hq0:H10 p12 (st++[bk31]) (.ptr st.length 0):=.inr ⟨_,rfl,by have:=T.lt;omega,by rw[yy];rfl⟩
      have hF':(st++[bk31])[lb]? = some (.row 1 F.length (F.map fun n=>.p (.int .i64 n))):=by rw[Aj (by omega)];exact hF
      have hT':(st++[bk31])[tb]? = some (.row 1 ts.length (ts.map fun n=>.p (.int .i64 n))):=by rw[Aj (by omega)];exact hT
      obtain⟨st1,k1,S⟩:=H84 (o:=o) ts[i] hx hol (hFr.app [bk31]) (hTr.app [bk31]) hFt (by omega)
      have T1:=T'.same S
      obtain⟨P1,P2⟩:=T1.push (tuO F ts ts[i] o)
      refine⟨_,_,.ptr st.length 0,yeM ?_ (rC0 B (by omega) rs st.length hF' hT' (by omega) T' T1 (by omega) (Bd hil) (Bd htl) e1 e2 fun n=>yW k1 n),hq0.kq ((S.kq (by simp;omega)).trans P2),P1,((Kq.app ge [bk31]).trans (S.kq (by simp;omega))).trans P2⟩
      rfl
     ·have hq1:H10 p12 st (.ptr q 0):=.inr ⟨q,rfl,hqp,hqb⟩
      obtain⟨st1,k1,S⟩:=H84 (o:=o) ts[i] hx hol hFr hTr hFt (by omega)
      have T1:=T.same S
      obtain⟨P1,P2⟩:=T1.push (tuO F ts ts[i] o)
      exact⟨_,_,.ptr q 0,rC0 B (by omega) rs q hF hT (by omega) T T1 (by omega) (Bd hil) (Bd htl) e1 e2 fun n=>yW k1 n,hq1.kq ((S.kq ge).trans P2),P1,(S.kq ge).trans P2⟩
    obtain⟨st1,oh1,h2,r1,H2,T1,S1⟩:=step
    obtain⟨st2,oh2,h3,r2,H3,T2,S2⟩:=ymd B H84 hl hap rs hFt hFl hFm hok hbl hbt m (i+1) st1 oh1 h2 _ (by omega) (by omega) (by simp;omega) H2 (by rw[S1.get lb hbl.1 hbl.2];exact hF) (by rw[S1.get tb hbt.1 hbt.2];exact hT) T1
    refine⟨st2,oh2,h3,Run.loopN (s1:=(env31c L rs h2 (.row lb 0 F.length 1) p12 (.row tb 0 ts.length 1) (i+1),st1)) ?_ r2,H3,?_,S1.trans S2⟩
    ·rw[show h31l2 = .seq (hcl h31l2) (.seq (.block 5 (hcb (hcl (hcr h31l2))) [0,3,10,11,12,13,16]) (hcr (hcr h31l2))) from rfl]
     exact Run.seq (yoO L rs h10 p12 _ (by omega) hil) (Run.seq (Run.block (id:=5) (k:=[0,3,10,11,12,13,16]) r1) (yoP L rs h2 _ p12 _ (by omega)))
    ·rw[A8 hil,A8 htl]
     simp only[goes,hob]
     rw[A4] at T2;exact T2
   ·rw[hob] at e2;cases e2
theorem yme(B:KPu K){base p12:Nat}(rs:List Int)(hr:rs.length<40000){b0 b1:Nat}{lh th:HV}{F ts:List Int}(hFt:F.length=ts.length)(hFl:F.length<100000)(hbl:∀b,lh = .row b 0 F.length 1->b<base/\b≠p12)(hbt:∀b,th = .row b 0 ts.length 1->b<base/\b≠p12){lo hi nx:Int}{oh:HV}:∀(m i:Nat) (st:HSt) (rh h10:HV) (xs:List Int),rs.length-i=m->i<=rs.length->xs.length<=i->H10 p12 st h10->RowI b0 st lh F->RowI b1 st th ts->T31r base p12 lo hi nx oh st rh xs ->
 ∃st1 rh1 h2,Run C0 K TH (.loop h31l3 [3,10,11,12,13,17]) (env31d rs h10 lh p12 th i,st) (.exit 6) ([(10,h2),(12,.ptr p12 0)],st1)/\H10 p12 st1 h2/\T31r base p12 lo hi nx oh st1 rh1 (xs++(rs.drop i).map (mvd F ts))/\Kq p12 base st st1
 | 0,i,st,rh,h10,xs,hm,hi',hxi,h1,RF,RT,T=>by
   have:i=rs.length:=by omega
   subst this
   exact⟨st,rh,h10,Run.loopX (yoQ rs h10 lh p12 th) (by simp),h1,by rw[Bw];simpa using T,Kq.refl _ _ _⟩
 | m+1,i,st,rh,h10,xs,hm,hi',hxi,h1,RF,RT,T=>by
   have hil:i<rs.length:=by omega
   have ge:=T.ge
   have step:∃st1 rh1 h2,Run C0 K TH (hcb (hcl (hcr h31l3))) (env31d rs h10 lh p12 th i,st) .norm (env31d rs h2 lh p12 th i,st1)/\H10 p12 st1 h2/\T31r base p12 lo hi nx oh st1 rh1 (xs++[mvd F ts rs[i]])/\Kq p12 base st st1:=by
    rcases h1 with rfl|⟨q,rfl,hqp,hqb⟩
    ·have T':=T.app [bk31]
     have hq0:H10 p12 (st++[bk31]) (.ptr st.length 0):=.inr ⟨_,rfl,by have:=T.lt;omega,by rw[yy];rfl⟩
     obtain⟨P1,P2⟩:=T'.push (mvd F ts rs[i])
     refine⟨_,_,.ptr st.length 0,yeM ?_ (rD0 rs (by omega) st.length (RF.app [bk31]) (RT.app [bk31]) hFt T' (by omega) (Bd hil) fun n=>k85 B (RF.app [bk31]) (RT.app [bk31]) hFt hFl rs[i] n),hq0.kq P2,P1,(Kq.app ge [bk31]).trans P2⟩
     rcases RF.sh with rfl|⟨b2,q2,rfl⟩ <;> rcases RT.sh with rfl|⟨b3,q3,rfl⟩
     all_goals rfl
    ·have hq1:H10 p12 st (.ptr q 0):=.inr ⟨q,rfl,hqp,hqb⟩
     obtain⟨P1,P2⟩:=T.push (mvd F ts rs[i])
     exact⟨_,_,.ptr q 0,rD0 rs (by omega) q RF RT hFt T (by omega) (Bd hil) fun n=>k85 B RF RT hFt hFl rs[i] n,hq1.kq P2,P1,P2⟩
   obtain⟨st1,rh1,h2,r1,H2,T1,S1⟩:=step
   obtain⟨st2,rh2,h3,r2,H3,T2,S2⟩:=yme B rs hr hFt hFl hbl hbt m (i+1) st1 rh1 h2 _ (by omega) (by omega) (by simp;omega) H2 (RF.kq S1 hbl) (RT.kq S1 hbt) T1
   refine⟨st2,rh2,h3,Run.loopN (s1:=(env31d rs h2 lh p12 th (i+1),st1)) ?_ r2,H3,?_,S1.trans S2⟩
   ·rw[show h31l3 = .seq (hcl h31l3) (.seq (.block 7 (hcb (hcl (hcr h31l3))) [3,10,11,12,13,17]) (hcr (hcr h31l3))) from rfl]
    exact Run.seq (yoR rs h10 lh p12 th hil (by omega)) (Run.seq (Run.block (id:=7) (k:=[3,10,11,12,13,17]) r1) (yoS rs h2 lh p12 th (by omega)))
   ·rw[A8 hil,Bu]
    rw[A4] at T2;exact T2
open Go
set_option maxRecDepth 10000
set_option maxHeartbeats 4000000
variable {K:HCalls}
theorem yj1{L:List r26_Object}(t:Int)(F:List Int)(x:Shape)(n:Nat):∀(l:List Int) (i:Nat),i+l.length<=n->trnM F (tos L t F) x i l=trn L t F x i n l
 | [],_,_=>rfl
 | v::r,i,h=>by
   simp only[Bv] at h
   simp only[trnM,trn,yj1 t F x n r (i+1) (by omega)]
   have hi:i<n:=by omega
   simp only[hi,true_and]
theorem yj2{L:List r26_Object}(t:Int)(F:List Int)(o:r26_Object):tuO F (tos L t F) o.At o=trnO L t F o:=by
 unfold tuO trnO
 rw[yj1 t F o.Shape o.Slots.length o.Slots 0 (by omega)]
theorem ym3{L:List r26_Object}(t:Int)(F:List Int)(ars:List Area)(l:List Int):stays F (tos L t F) ars l L=(nf L ars).map (trnIf L t F l):=by
 unfold stays
 refine Bs fun o _=>?_
 unfold trnIf
 rw[yj2]
theorem ymf{L:List r26_Object}(t0:Int)(G:List Int):∀(F:List Int) (t:Int),goes L G (tos L t0 G) F (tos L t F)=(cps L t F).map (trnO L t0 G)
 | [],t=>rfl
 | p::r,t=>by
   simp only[tos,goes,cps,Bu]
   rw[ymf t0 G r]
   congr 1
   unfold cpy
   cases objAt L p with
   | none=>rfl
   | some o=>exact yj2 t0 G ⟨t,o.Shape,o.Slots⟩
theorem yse(B:KPu K){base p12:Nat}{L:List r26_Object}(hl:L.length<100000)(hap:(L.map keyOf).Pairwise Apart)(ars:List Area){al:HV}(hal:al = .p .nils\/∃l,al=hN l){F:List Int}(hFl:F.length<100000){lo hi:Int}(hFm:∀p∈F,∃o∈L,o.At=p)(hok:∀o∈L,o.Slots.length<1000)(rs:List Int)(t0:Int)(hx:endT L t0 F<1000000000)(ht:0<=t0){st:HSt}{b0:Nat}{lh:HV}(RF:RowI b0 st lh F)(hbl:∀b,lh = .row b 0 F.length 1->b<p12)(H:T31 base p12 lo hi t0 st (.p .nils) []):
 ∃st1 th1 h1,Run C0 K TH (.loop h31l0 [0,1,3,4,10,11,12,13,14]) (env31a L (hAs ars) rs al bx31 lh p12 (.p .nils) 0,st) (.exit 0) ([(0,hL L),(1,hAs ars),(3,hN rs),(4,al),(10,h1),(11,lh),(12,.ptr p12 0),(13,th1)],st1)/\H10 p12 st1 h1/\T31 base p12 lo hi (endT L t0 F) st1 th1 (tos L t0 F)/\Same p12 st st1:=by
 rcases RF with⟨rfl,rfl⟩|⟨b,hne,hb,rfl,hst⟩
 ·exact⟨st,_,bx31,Run.loopX (yl2 ars rs al bx31 (.p .nils) p12 (.p .nils) (F:=[]) (b0:=0) (.inl ⟨rfl,rfl⟩)) (by simp),.inl rfl,H,Same.refl _ _⟩
 ·exact yl3 B hl hap ars hal hFl (hbl b rfl) hFm hok rs t0 hx ht F.length 0 st (.p .nils) bx31 rfl (by omega) (.inl rfl) hst H
theorem e31(B:KPu K)(H84:F84 K)(hk28:∀ws st,K 28 ws st = .none)(hk83:∀ws st,K 83 ws st = .none)(hk31:∀ws st,K 31 ws st = .none){st:HSt}{ws:List Int}{L:List r26_Object}{ars:List Area}(hk:Lk ars ws L)(to:Area){rs:List Int}(hrs:rs.length<40000)(hro:∀p∈rs,AddrOk L p){al:HV}{l:List Int}(hal:(al = .p .nils/\l=[])\/al=hN l)(hl:l.length<40000)(hLl:L.length<40000)(hok:∀o∈L,OkSh o.Shape/\o.Slots.length<1000)(hFO:OutOk L ars (live L ars rs l))(ht0:0<=to.Next)(hend:endT L to.Next (live L ars rs l)<1000000000):
 ∃st' n oh rh,evHF C0 K TH n 31 [hL L,hAs ars,hA to,hN rs,al] st=some (mkAgg [oh,hI to.Lo,hI to.Hi,hI (endT L to.Next (live L ars rs l)),rh],st')/\RowO st.length st' oh (mvL L ars to.Next (live L ars rs l) l)/\RowI st.length st' rh (rs.map (mv L to.Next (live L ars rs l)))/\Same st.length st st':=by
 obtain⟨st1,n0,lh,e28',RF,S1⟩:=e28 B hk28 hk83 (st:=st) hk (ah:=hAs ars) (.inl rfl) (by omega) hro (al:=al) (l:=l) (by rcases hal with h|h;exact .inl h;exact .inr (.inl h)) (by omega)
 obtain⟨F,hF⟩:∃F,live L ars rs l=F:=⟨_,rfl⟩
 rw[hF] at RF hFO hend ⊢
 have hFl:F.length<=L.length:=hFO.le
 have hFm:∀p∈F,∃o∈L,o.At=p:=fun p hp=>(hFO.mem p hp).2
 have hal':al = .p .nils\/∃l,al=hN l:=by
  rcases hal with⟨h,_⟩|h
  ·exact .inl h
  ·exact .inr ⟨l,h⟩
 have hbl:∀b,lh = .row b 0 F.length 1->st.length<=b/\b<st1.length:=fun b e=>by
  rcases RF with⟨_,h⟩|⟨b',_,h1,h2,h3⟩
  ·rw[h] at e;cases e
  ·rw[h2] at e;cases e;exact⟨h1,(Ad.1 h3).1⟩
 let g:HSt:=[.box [hI to.Lo,hI to.Hi,hI to.Next],bxM to.Lo to.Hi to.Next (.p .nils) (.p .nils)]
 obtain⟨pp,hpp⟩:∃pp,pp=st1.length+1:=⟨_,rfl⟩
 have T0:T31 (pp+1) pp to.Lo to.Hi to.Next (st1++g) (.p .nils) []:=⟨by rw[hpp,ym];rfl,.inl ⟨rfl,rfl⟩,by omega,by simp[g];omega⟩
 obtain⟨st2,th,h2,ra,H2,T2,S2⟩:=yse B (by omega) hk.ap ars hal' (by omega) hFm (fun o ho=>(hok o ho).2) rs to.Next hend ht0 (RF.app g) (fun b e=>by have:=hbl b e;omega) T0
 have RF2:RowI st.length st2 lh F:=(RF.app g).same S2.get fun b e=>by have:=hbl b e;omega
 have hts:=yfH (L:=L) F to.Next
 have hbt:∀b,th = .row b 0 (tos L to.Next F).length 1->pp<b/\b<st2.length:=fun b e=>by
  rcases T2.R with⟨_,h⟩|⟨b',_,h1,h3,h4⟩
  ·rw[h] at e;cases e
  ·rw[h3] at e;cases e;exact⟨by omega,(Ad.1 h4).1⟩
 have l2:=T2.ge
 have T2':T31o st2.length pp to.Lo to.Hi (endT L to.Next F) st2 (.p .nils) []:=⟨T2.b12,.inl ⟨rfl,rfl⟩,by omega,by omega⟩
 have kl:∀b,lh = .row b 0 F.length 1->b<st2.length/\b≠pp:=fun b e=>by have:=hbl b e;omega
 have kt:∀b,th = .row b 0 (tos L to.Next F).length 1->b<st2.length/\b≠pp:=fun b e=>by have:=hbt b e;omega
 obtain⟨st3,oh3,h3,rb,H3,T3,S3⟩:=ymc B H84 (by omega) hk.al rs hal (by omega) hts.symm (by omega) hok kl kt L.length 0 st2 (.p .nils) h2 [] (by omega) (by omega) (by simp) H2 RF2 T2.R T2'
 rw[A5,Bt,ym3] at T3
 have RF3:=RF2.kq S3 kl
 have RT3:=T2.R.kq S3 kt
 have hsl:((nf L ars).map (trnIf L to.Next F l)).length<=L.length:=by rw[Bh];exact List.length_filter_le ..
 have part:∃st4 oh4 h4,Run C0 K TH (.loop h31l2 [0,3,10,11,12,13,16]) ([(0,hL L),(3,hN rs),(10,h3),(11,lh),(12,.ptr pp 0),(13,th),(16,hI (0:Nat))],st3) (.exit 4) (env31v rs h4 lh pp th,st4)/\H10 pp st4 h4/\T31o st2.length pp to.Lo to.Hi (endT L to.Next F) st4 oh4 (mvL L ars to.Next F l)/\Kq pp st2.length st3 st4:=by
  have RFc:=RF3
  have RTc:=RT3
  rcases RFc with⟨hn,rfl⟩|⟨b,hne,hb,rfl,hst⟩
  ·refine⟨st3,oh3,h3,Run.loopX ?_ (by simp),H3,?_,Kq.refl _ _ _⟩
   ·have:=ymb (K:=K) (st:=st3) L rs h3 (b0:=0) (lh:=.p .nils) (F:=[]) (.inl ⟨rfl,rfl⟩) pp th
    exact this
   ·subst hn
    simpa[mvL,cps] using T3
  ·rcases RTc with⟨hn,_⟩|⟨c,hne',hc,rfl,hct⟩
   ·exact absurd (A3 (by rw[←hts,hn];rfl)) hne
   ·obtain⟨st4,oh4,h4,r,H4,T4,S4⟩:=ymd B H84 (by omega) hk.ap rs hts.symm (by omega) hFm hok (kl b rfl) (kt c rfl) F.length 0 st3 oh3 h3 _ (by omega) (by omega) (by omega) H3 hst hct T3
    rw[A5,A5,ymf] at T4
    exact⟨st4,oh4,h4,r,H4,T4,S4⟩
 obtain⟨st4,oh4,h4,rc,H4,T4,S4⟩:=part
 have RF4:=RF3.kq S4 kl
 have RT4:=RT3.kq S4 kt
 have l3:=S3.len
 have l4:=S4.len
 have T4r:T31r st4.length pp to.Lo to.Hi (endT L to.Next F) oh4 st4 (.p .nils) []:=⟨T4.b12,.inl ⟨rfl,rfl⟩,by omega,by omega⟩
 obtain⟨st5,rh5,h5',rd,H5,T5,S5⟩:=yme B rs hrs hts.symm (by omega) (fun b e=>by have:=kl b e;omega) (fun b e=>by have:=kt b e;omega) (oh:=oh4) rs.length 0 st4 (.p .nils) h4 [] (by omega) (by omega) (by simp) H4 RF4 RT4 T4r
 rw[A5,Bt] at T5
 have l5:=S5.len
 have ls1:=S1.len
 have RO5:RowO st2.length st5 oh4 (mvL L ars to.Next F l):=by
  rcases T4.R with h|⟨b,h1,h6,h7,h8⟩
  ·exact .inl h
  ·exact .inr ⟨b,h1,h6,h7,by rw[S5.get b (Ad.1 h8).1 (by have:=T4.lt;omega)];exact h8⟩
 have Sall:Same st.length st st5:=by
  refine⟨by have:=S2.len;simp at this;omega,fun i hi=>?_⟩
  rw[S5.get i (by omega) (by omega),S4.get i (by omega) (by omega),S3.get i (by omega) (by omega),S2.get i (by omega),Aj (by omega),S1.get i hi]
 have run:∀{ex:Ex} {s:HS},Run C0 K TH (pm31 8) ([(10,h5'),(12,.ptr pp 0)],st5) ex s->Run C0 K TH h31.body (env31p L ars to rs al,st) ex s:=fun {ex s} hz=>by
  rw[show h31.body = .seq (hcl (pm31 0)) (pm31 1) from rfl];refine Run.seq (yqK st L ars to rs al) ?_
  rw[show pm31 1 = .seq (hcl (pm31 1)) (pm31 2) from rfl];refine Run.seq (yqL L ars to rs hal RF e28') ?_
  rw[show pm31 2 = .seq (hcl (pm31 2)) (pm31 3) from rfl];refine Run.seq (yqM st1 L ars to rs al lh hpp) ?_
  rw[show pm31 3 = .seq (hcl (pm31 3)) (pm31 4) from rfl];refine Run.seq (yqN _ L ars rs al lh pp) ?_
  rw[show pm31 4 = .seq (.seq (hcl (hcl (pm31 4))) (.block 0 (.loop h31l0 [0,1,3,4,10,11,12,13,14]) [0,1,3,4,10,11,12,13])) (pm31 5) from rfl]
  refine Run.seq (Run.seq (yqO _ L ars rs al bx31 lh pp (.p .nils)) (Run.block (id:=0) (k:=[0,1,3,4,10,11,12,13]) ra)) ?_
  rw[show pm31 5 = .seq (.seq (hcl (hcl (pm31 5))) (.block 2 (.loop h31l1 [0,1,3,4,10,11,12,13,15]) [0,3,10,11,12,13])) (pm31 6) from rfl]
  refine Run.seq (Run.seq (yqP st2 L ars rs al h2 lh pp th) (Run.block (id:=2) (k:=[0,3,10,11,12,13]) rb)) ?_
  rw[show pm31 6 = .seq (.seq (hcl (hcl (pm31 6))) (.block 4 (.loop h31l2 [0,3,10,11,12,13,16]) [3,10,11,12,13])) (pm31 7) from rfl]
  refine Run.seq (Run.seq (yqQ st3 L rs h3 lh pp th) (Run.block (id:=4) (k:=[3,10,11,12,13]) rc)) ?_
  rw[show pm31 7 = .seq (.seq (hcl (hcl (pm31 7))) (.block 6 (.loop h31l3 [3,10,11,12,13,17]) [10,12])) (pm31 8) from rfl]
  exact Run.seq (Run.seq (yqR st4 rs h4 lh pp th) (Run.block (id:=6) (k:=[10,12]) rd)) hz
 have b12:=T5.b12
 have so:oh4 = .p .nils\/∃b n,oh4 = .row b 0 n 4:=by
  rcases RO5 with⟨_,h⟩|⟨b,_,_,h,_⟩
  ·exact .inl h
  ·exact .inr ⟨b,_,h⟩
 have RR5:=T5.R
 rcases H5 with rfl|⟨q,rfl,hq,hqb⟩
 ·obtain⟨n,hn⟩:=Ans.intro (K:=K) (C:=C0) (T:=TH) hk31 (x:=h31) rfl (ws:=[hL L,hAs ars,hA to,hN rs,al]) rfl (run (ypI b12 so T5.R.sh)) (by simp) (vs:=[mkAgg [oh4,hI to.Lo,hI to.Hi,hI (endT L to.Next F),rh5]]) (by
   show resHL ([(10,.ptr st5.length 0)],st5++[bxM to.Lo to.Hi (endT L to.Next F) oh4 rh5]) [.cell 10 true 5]=_
   simp only[resHL,resH1,HEnv.get,blkCells,if_true]
   rw[yy];rfl) (r:=mkAgg [oh4,hI to.Lo,hI to.Hi,hI (endT L to.Next F),rh5]) rfl rfl
  refine⟨_,n,oh4,rh5,hn,?_,?_,?_⟩
  ·show RowO st.length (st5++[bxM to.Lo to.Hi (endT L to.Next F) oh4 rh5]) oh4 _
   rcases RO5.app [bxM to.Lo to.Hi (endT L to.Next F) oh4 rh5] with h|⟨b,h6,h7,h8⟩
   ·exact .inl h
   ·exact .inr ⟨b,h6,by omega,h8⟩
  ·show RowI st.length (st5++[bxM to.Lo to.Hi (endT L to.Next F) oh4 rh5]) rh5 _
   rcases RR5.app [bxM to.Lo to.Hi (endT L to.Next F) oh4 rh5] with h|⟨b,h6,h7,h8⟩
   ·exact .inl h
   ·exact .inr ⟨b,h6,by omega,h8⟩
  ·show Same st.length st (st5++[bxM to.Lo to.Hi (endT L to.Next F) oh4 rh5])
   exact Sall.trans (Same.app (by omega) _)
 ·have hql:=(Ad.1 hqb).1
  obtain⟨n,hn⟩:=Ans.intro (K:=K) (C:=C0) (T:=TH) hk31 (x:=h31) rfl (ws:=[hL L,hAs ars,hA to,hN rs,al]) rfl (run (ypJ b12 so T5.R.sh hqb)) (by simp) (vs:=[mkAgg [oh4,hI to.Lo,hI to.Hi,hI (endT L to.Next F),rh5]]) (by
   show resHL ([(10,.ptr q 0)],st5.set q (bxM to.Lo to.Hi (endT L to.Next F) oh4 rh5)) [.cell 10 true 5]=_
   simp only[resHL,resH1,HEnv.get,blkCells,if_true]
   rw[Bk hql];rfl) (r:=mkAgg [oh4,hI to.Lo,hI to.Hi,hI (endT L to.Next F),rh5]) rfl rfl
  have hset:∀(i:Nat) (x:HB),(∀cs,x ≠ .box cs)->st5[i]? = some x->(st5.set q (bxM to.Lo to.Hi (endT L to.Next F) oh4 rh5))[i]? = some x:=fun i x hx h=>by
   rw[Ar (fun e=>by rw[←e,hqb] at h;exact hx _ (Ag h).symm)];exact h
  refine⟨_,n,oh4,rh5,hn,?_,?_,?_⟩
  ·show RowO st.length (st5.set q (bxM to.Lo to.Hi (endT L to.Next F) oh4 rh5)) oh4 _
   rcases RO5 with h|⟨b,h6,h7,h8,h9⟩
   ·exact .inl h
   ·exact .inr ⟨b,h6,by omega,h8,hset b _ (fun cs e=>by cases e) h9⟩
  ·show RowI st.length (st5.set q (bxM to.Lo to.Hi (endT L to.Next F) oh4 rh5)) rh5 _
   rcases RR5 with h|⟨b,h6,h7,h8,h9⟩
   ·exact .inl h
   ·exact .inr ⟨b,h6,by omega,h8,hset b _ (fun cs e=>by cases e) h9⟩
  ·show Same st.length st (st5.set q (bxM to.Lo to.Hi (endT L to.Next F) oh4 rh5))
   exact⟨by have:=Sall.len;simp;omega,fun i hi=>by rw[Ar (by omega)];exact Sall.get i hi⟩
open Go
set_option maxRecDepth 10000
set_option maxHeartbeats 4000000
variable {K:HCalls}
theorem yja(l:List Int)(hl:l.length<140737488355328):r13_Begins l l=some true:=by
 have key:∃r,r13_Begins_l1 l l 0=some r/\r = .next ():=by
  refine ydj (ρ:=Stp Unit Unit) l.length (fun s=>s) (fun _=>True) (fun r=>r = .next ()) (fun s _ h0 h1=>?_) 0 trivial (Ce _) (by omega)
  unfold r13_Begins_l1_b
  by_cases h:s<l.length
  ·obtain⟨x,hx,_⟩:=yaO h0 h
   right
   refine⟨s+1,?_,trivial,rfl,by omega⟩
   rw[if_pos (by simpa using h),hx,Bg,Bg,if_neg (by simp),wr1 h0 (by omega)]
  ·left
   exact⟨.next (),by rw[if_neg (by simpa using h)],rfl⟩
 obtain⟨r,h1,rfl⟩:=key
 unfold r13_Begins
 rw[if_neg (by simp),h1];rfl
theorem k32(B:KPu K)(l:List Int)(hl:l.length<140737488355328)(n:Nat)(st:HSt):evHF C0 K TH (n+1) 32 [hN l,hN l] st=some (.p (.bool true),st):=by
 refine B.known (f:=32) rfl (ws:=[.sl l.length (l.flatMap (cint .i64)),.sl l.length (l.flatMap (cint .i64))]) rfl (yiX l l true ?_) rfl rfl rfl n st
 unfold r13_Nums r13_Nums_j1
 rw[if_pos (by simp),yja l hl];rfl
theorem ym4{ws:List Int}{L:List r26_Object}(hLn:L.length<40000)(hap:(L.map keyOf).Pairwise Apart)(hok:∀o∈L,ObjOk ws o)(F:List Int)(hF:F.length<40000)(hm:∀p∈F,∃o∈L,o.At=p):r26_Words L F=some (wsum ws F):=by
 have key:∃r,r26_Words_l1 L F (0,0)=some r/\r=wsum ws F:=by
  refine ydj (ρ:=Int) F.length (fun s=>s.2) (fun s=>s.1=wsum ws (F.take s.2.toNat)) (fun r=>r=wsum ws F) (fun s hI h0 h1=>?_) (0,0) (by simp[wsum]) (Ce _) (by simp)
  obtain⟨n,i⟩:=s
  simp only at hI h0 h1
  unfold r26_Words_l1_b
  by_cases h:i<F.length
  ·obtain⟨x,hx,hx'⟩:=yaO h0 h
   obtain⟨o,ho,rfl⟩:=hm x (Bf hx')
   have hob:=yaQ hap ho
   rcases ycV hap (by omega:L.length<140737488355328) o.At with⟨k,o2,e1,e2,e3,_⟩|⟨_,e2⟩
   ·rw[hob] at e3;cases e3
    have hkl:=(Ad.1 e2).1
    have hix:ix L (k:Int)=some o:=by
     obtain⟨y,hy,hy'⟩:=yaO (xs:=L) (i:=(k:Int)) (by omega) (by omega)
     rw[Bq,e2] at hy'
     cases hy';exact hy
    have hO:=hok o ho
    have hsh:=hO.sh
    have hs0:=hsh.1
    have hs1:=hsh.2.1
    have hlen:=hO.len
    have hb:=yea ws (F.take i.toNat)
    rw[Ci] at hb
    rw[←hI] at hb
    right
    refine⟨(n+1+o.Slots.length,i+1),?_,?_,rfl,by simp only;omega⟩
    ·rw[if_pos (by simpa using h),hx,Bg,e1,Bg,hix,Bg,yfC (x:=n+1) (by omega) (by omega),yfC (x:=n+1+o.Slots.length) (by omega) (by omega),wr1 h0 (by omega)]
    ·simp only
     obtain⟨h2,h3⟩:=Ad.1 hx'
     have hd:F.take (i+1).toNat=F.take i.toNat++[o.At]:=by
      rw[show (i+1).toNat=i.toNat+1 by omega,List.take_succ_eq_append_getElem h2,h3]
     have hwd:ws.getD o.At.toNat 0=hdB o.Shape:=by simp[List.getD,hO.hd]
     have hmod:(hdB o.Shape) % 32=o.Shape.Slots:=by unfold hdB;omega
     rw[hd,yjT,hwd,hmod,hI];omega
   ·rw[hob] at e2;cases e2
  ·left
   exact⟨n,by rw[if_neg (by simpa using h)],by rw[hI,Aw (by omega)]⟩
 obtain⟨r,h1,rfl⟩:=key
 unfold r26_Words
 rw[h1];rfl
theorem k30(B:KPu K){ws:List Int}{L:List r26_Object}(hLn:L.length<40000)(hap:(L.map keyOf).Pairwise Apart)(hok:∀o∈L,ObjOk ws o)(F:List Int)(hF:F.length<40000)(hm:∀p∈F,∃o∈L,o.At=p)(n:Nat)(st:HSt):evHF C0 K TH (n+1) 30 [hL L,hN F] st=some (hI (wsum ws F),st):=
 B.known (f:=30) rfl (ws:=[.sl L.length (L.flatMap cr26_Object),.sl F.length (F.flatMap (cint .i64))]) rfl (yig L F _ (ym4 hLn hap hok F hF hm)) rfl rfl rfl n st
open Go
set_option maxRecDepth 10000
set_option maxHeartbeats 4000000
variable {K:HCalls}
theorem yoU{l li:List Nat}{f:Nat}(h1:l.contains f=false)(h2:li.contains f=true){wv cs:List HV}{vs:List PV}{st st':HSt}(n:Nat)(e:evHF C0 K TH n f wv st=some (.tup cs,st'))(hl:cs.length=vs.length)
 (hi:∀(i:Nat) (c:HV) (v:PV),cs[i]? = some c->vs[i]? = some v->Ic st' st.length c v)(hs:Same st.length st st'):∃st2,lev K l li f wv st=some (.p (.tup vs),st2)/\Same st.length st st2:=by
 have er:rowsH st' 4 (.tup cs)=cs.flatMap (rowsH st' 3):=rfl
 have hD:∀c∈cs,∀a∈rowsH st' 3 c,a∈rowsH st' 4 (.tup cs):=fun c hc a ha=>by rw[er];exact Cd.2 ⟨c,hc,ha⟩
 have key:∀(D:List Nat) (cs:List HV) (vs:List PV),cs.length=vs.length->(∀(i:Nat) (c:HV) (v:PV),cs[i]? = some c->vs[i]? = some v->Ic st' st.length c v)->(∀c∈cs,∀a∈rowsH st' 3 c,a∈D)->allO (iceV st' D 3) cs=some (vs.map .p):=by
  intro D cs
  induction cs with
  | nil=>
    intro vs hl _ _
    have:vs=[]:=A3 hl.symm
    subst this;rfl
  | cons c cs ih=>
    intro vs hl hi hD
    cases vs with
    | nil=>simp at hl
    | cons v vs=>
      have e1:=(hi 0 c v rfl rfl).ic D (hD c (by simp))
      have e2:=ih vs (by simpa using hl) (fun i c v h1 h2=>hi (i+1) c v (by simpa using h1) (by simpa using h2)) fun c hc=>hD c (by simp[hc])
      simp only[allO,e1,e2,Bu]
 have hall:∀vs:List PV,allP (vs.map HV.p)=some vs:=fun vs=>by
  induction vs with
  | nil=>rfl
  | cons w ws ih=>simp[allP,ih]
 have:=yfD (K:=K) h1 h2 n e (r':=.p (.tup vs)) (by
  simp only[iceV,key _ cs vs hl hi hD,An,mkTup,hall])
 refine⟨_,this,⟨by rw[ybW];exact hs.len,fun i hil=>?_⟩⟩
 rw[yaD,if_neg ?_]
 ·exact hs.get i hil
 ·intro hh
  rw[er] at hh
  obtain⟨c,hc,ha⟩:=Cd.1 hh.1
  obtain⟨j,hj⟩:=Bp hc
  have hjl:=(Ad.1 hj).1
  have:=(hi j c vs[j] hj (by simp)).ge i ha
  omega
theorem yqS{l li:List Nat}{f:Nat}(h1:l.contains f=false)(h2:li.contains f=true){wv:List HV}{st st':HSt}{h:HV}{xs:List Int}(n:Nat)(e:evHF C0 K TH n f wv st=some (h,st'))(R:RowI st.length st' h xs)(hs:Same st.length st st'):∃st2,lev K l li f wv st=some (hN xs,st2)/\Same st.length st st2:=by
 rcases R with⟨rfl,rfl⟩|⟨b,hne,hb,rfl,hst⟩
 ·exact⟨st',yl9 h1 h2 n e rfl,hs⟩
 ·rw[yes] at hst
  have er:rowsH st' 4 (.row b 0 xs.length 1)=[b]:=by
   show rowsV st' 4 (.row b 0 xs.length 1)=[b]
   rw[yau hst,A5,←List.map_take,yaN]
  have hr:=ybF (k:=3) (D:=[b]) (off:=0) (len:=xs.length) (sz:=1) (by simp) hst (by rw[Bh,ybG];omega) (by
   rw[A5,Aw (by rw[Bh,ybG];omega)]
   exact ycB (ycc xs))
  have:=yfD (K:=K) h1 h2 n e (r':=hN xs) (by
   rw[er]
   simp only[iceV,hr,An])
  rw[er] at this
  refine⟨_,this,⟨by rw[ybW];exact hs.len,fun i hil=>?_⟩⟩
  rw[yaD,if_neg (by simp;omega)]
  exact hs.get i hil
def F27(K:HCalls):Prop:=∀{st:HSt} {sp wb:Nat} {ws:List Int} (S:SpaceAt st sp wb ws) (hw0:ws.length≠0) {L:List r26_Object} {ars:List Area} (hk:Lk ars ws L) {ah:HV} (hA:AreasAt st ah ars) {rs:List Int} (hrs:rs.length<100000) (hro:∀p∈rs,AddrOk L p) {al:HV} {l:List Int} (hal:IntsAt st al l) (hl:l.length<100000) (hob:∀p∈l,∃o∈L,o.At=p),
    ∃st2,K 27 [.ptr sp 0,ah,hN rs,al] st=some (.p (.tup [.sl (live L ars rs l).length ((live L ars rs l).flatMap (cint .i64)),.int .i64 (wsum ws (live L ars rs l))]),st2)/\Same st.length st st2
theorem ypK(B:KB K){l li:List Nat}(h1:l.contains 27=false)(h2:li.contains 27=true):F27 (lev K l li):=by
 intro st sp wb ws S hw0 L ars hk ah hA rs hrs hro al l' hal hl hob
 obtain⟨st',n0,oh,e,R,Sm⟩:=e27 B S hw0 hk hA hrs hro hal hl hob
 have e:=e n0 (Av _)
 have I:=yi9 R
 rcases R with⟨hn,rfl⟩|⟨b,hne,hb,rfl,hst⟩
 ·rw[hn] at e ⊢
  exact⟨st',yl9 h1 h2 n0 e rfl,Sm⟩
 ·refine yoU h1 h2 n0 e rfl (fun i c v hc hv=>?_) Sm
  match i,hc,hv with
  | 0,hc,hv=>cases hc;cases hv;exact I
  | 1,hc,hv=>cases hc;cases hv;exact ym2 rfl
  | i+2,hc,hv=>cases hc
theorem yoV{l li:List Nat}(h1:l.contains 27=false)(h2:li.contains 27=false)(F:F27 K):F27 (lev K l li):=by
 intro st sp wb ws S hw0 L ars hk ah hA rs hrs hro al l' hal hl hob
 rw[yaM h1 h2]
 exact F S hw0 hk hA hrs hro hal hl hob
def F28(K:HCalls):Prop:=∀{st:HSt} {ws:List Int} {L:List r26_Object} {ars:List Area} (hk:Lk ars ws L) {ah:HV} (hA:AreasAt st ah ars) {rs:List Int} (hrs:rs.length<80000) (hro:∀p∈rs,AddrOk L p) {al:HV} {l:List Int} (hal:IntsAt st al l) (hl:l.length<80000),
    ∃st2,K 28 [hL L,ah,hN rs,al] st=some (hN (live L ars rs l),st2)/\Same st.length st st2
theorem ypL(B:KPu K)(hk28:∀ws st,K 28 ws st = .none)(hk83:∀ws st,K 83 ws st = .none){l li:List Nat}(h1:l.contains 28=false)(h2:li.contains 28=true):F28 (lev K l li):=by
 intro st ws L ars hk ah hA rs hrs hro al l' hal hl
 obtain⟨st',n0,h,e,R,Sm⟩:=e28 B hk28 hk83 (st:=st) hk hA hrs hro hal hl
 exact yqS h1 h2 n0 (e n0 (Av _)) R Sm
theorem yoW{l li:List Nat}(h1:l.contains 28=false)(h2:li.contains 28=false)(F:F28 K):F28 (lev K l li):=by
 intro st ws L ars hk ah hA rs hrs hro al l' hal hl
 rw[yaM h1 h2]
 exact F hk hA hrs hro hal hl
def F31(K:HCalls):Prop:=∀{st:HSt} {ws:List Int} {L:List r26_Object} {ars:List Area} (hk:Lk ars ws L) (to:Area) {rs:List Int} (hrs:rs.length<40000) (hro:∀p∈rs,AddrOk L p) {al:HV} {l:List Int} (hal:(al = .p .nils/\l=[])\/al=hN l) (hl:l.length<40000) (hLl:L.length<40000) (hok:∀o∈L,OkSh o.Shape/\o.Slots.length<1000) (hFO:OutOk L ars (live L ars rs l)) (ht0:0<=to.Next) (hend:endT L to.Next (live L ars rs l)<1000000000),
    ∃st2,K 31 [hL L,hAs ars,hA to,hN rs,al] st=some (.p (.agg [.sl (mvL L ars to.Next (live L ars rs l) l).length ((mvL L ars to.Next (live L ars rs l) l).flatMap cr26_Object),.int .i64 to.Lo,.int .i64 to.Hi,.int .i64 (endT L to.Next (live L ars rs l)),.sl (rs.map (mv L to.Next (live L ars rs l))).length ((rs.map (mv L to.Next (live L ars rs l))).flatMap (cint .i64))]),st2)/\Same st.length st st2
theorem ypM(B:KPu K)(H84:F84 K)(hk28:∀ws st,K 28 ws st = .none)(hk83:∀ws st,K 83 ws st = .none)(hk31:∀ws st,K 31 ws st = .none){l li:List Nat}(h1:l.contains 31=false)(h2:li.contains 31=true):F31 (lev K l li):=by
 intro st ws L ars hk to rs hrs hro al l' hal hl hLl hok hFO ht0 hend
 obtain⟨st',n,oh,rh,e,RO,RR,Sm⟩:=e31 B H84 hk28 hk83 hk31 (st:=st) hk to hrs hro hal hl hLl hok hFO ht0 hend
 exact yqI h1 h2 n e RO RR Sm
theorem yoX{l li:List Nat}(h1:l.contains 31=false)(h2:li.contains 31=false)(F:F31 K):F31 (lev K l li):=by
 intro st ws L ars hk to rs hrs hro al l' hal hl hLl hok hFO ht0 hend
 rw[yaM h1 h2]
 exact F hk to hrs hro hal hl hLl hok hFO ht0 hend
def F18n(K:HCalls):Prop:=∀{ars:List Area} {L:List r26_Object} {hi:Int} {st:HSt} {sp wb:Nat} {ws:List Int} (S:SpaceAt st sp wb ws) (hwl:ws.length<1000000000) {ah:HV} (hAr:AreasAt st ah ars) (to:Area) {rs:List Int} (hrs:rs.length<100000) (hro:∀p∈rs,AddrOk L p) {al:HV} {l:List Int} (hal:IntsAt st al l) (hbw:∀b n,al = .row b 0 n 1->b≠wb) (hl:l.length<100000) (hnd:l.Nodup) (hob:∀p∈l,∃o∈L,o.At=p/\inAny ars p=false)
    (M:Mk ars L to.Next hi (live L ars rs l)) (hptr:∀o∈L,PtrOk L o) (hok:∀o∈L,OkSh o.Shape/\(o.Slots.length:Int)=o.Shape.Slots) (H0:MVI L ars to.Next hi ws [] (nf L ars)),
    ∃st' ws',K 18 [.ptr sp 0,ah,hA to,hN rs,al] st=some (.p (.tup [.agg [.int .i64 to.Lo,.int .i64 to.Hi,.int .i64 (endT L to.Next (live L ars rs l))],.sl (rs.map (mv L to.Next (live L ars rs l))).length ((rs.map (mv L to.Next (live L ars rs l))).flatMap (cint .i64))]),st')/\SpaceAt st' sp wb ws'/\ws'.length=ws.length /\
     MVI L ars to.Next hi ws' (live L ars rs l) (mvL L ars to.Next (live L ars rs l) l)/\Keeps wb st st'
theorem yoY(B:KB K){l li:List Nat}(h1:l.contains 18=false)(h2:li.contains 18=true):F18n (lev K l li):=by
 intro ars L hi st sp wb ws S hwl ah hAr to rs hrs hro al l' hal hbw hl hnd hob M hptr hok H0
 obtain⟨st',ws',n0,oh,e,S',hwl',M',R,Kp⟩:=e18 B S hwl hAr to hrs hro hal hbw hl hnd hob M hptr hok H0
 obtain⟨ls,lw,_⟩:=S.lt
 have e:=e n0 (Av _)
 by_cases hne:rs=[]
 ·subst hne
  rcases R with⟨_,rfl⟩|⟨b,h,_⟩
  ·exact⟨st',ws',yl9 h1 h2 n0 e rfl,S',hwl',M',Kp⟩
  ·exact absurd rfl h
 ·obtain⟨st2,e2,S2,K2⟩:=yqH h1 h2 (xs:=rs.map (mv L to.Next (live L ars rs l'))) (by simpa using hne) n0 e R S' ⟨ls,lw⟩ Kp
  exact⟨st2,ws',e2,S2,hwl',M',K2⟩
theorem ym5{l li:List Nat}(h1:l.contains 18=false)(h2:li.contains 18=false)(F:F18n K):F18n (lev K l li):=by
 intro ars L hi st sp wb ws S hwl ah hAr to rs hrs hro al l' hal hbw hl hnd hob M hptr hok H0
 rw[yaM h1 h2]
 exact F S hwl hAr to hrs hro hal hbw hl hnd hob M hptr hok H0
noncomputable def KM0:HCalls:=lev KS0 [] [84]
noncomputable def KM1:HCalls:=lev KM0 [22,24,64,65,66] [114,76,27,28,18,31]
noncomputable def KM2:HCalls:=lev KM1 [] [68,69]
theorem yj3{f:Nat}(h:f≠84):KM0 f=KS0 f:=yaM (by simp) (by simpa using h)
theorem ycd{f:Nat}(h:lp.contains f=false)(h2:f≠15)(h3:f≠84)(ws:List HV)(st:HSt):KM0 f ws st=Option.none:=by
 rw[yj3 h3];exact yhh h h2 ws st
theorem ymg:KB KM0 where
 pu f hf:=by rw[yj3 (fun e=>by subst e;exact absurd hf (by decide))];exact yoI.pu f hf
 no f hf ws st:=by rw[yj3 (fun e=>by subst e;exact absurd hf (by decide))];exact yoI.no f hf ws st
theorem ypN:F84 KM0:=by
 intro o at' hx hol st b0 b1 lh th F ts RF RT hFt hF
 exact i84 yoI.toKPu (yhh (by decide) (by decide)) (by decide) (by decide) at' hx hol RF RT hFt hF
theorem yqT:KD KM1:=yqx ymg (ycd (by decide) (by decide) (by decide)) (by decide) (by decide) (by decide)
theorem yhi{f:Nat}(h:lp.contains f=false)(h2:f≠15)(h3:[22,24,64,65,66,114,76,27,28,18,31,84].contains f=false)(ws:List HV)(st:HSt):KM1 f ws st=Option.none:=by
 simp only[List.contains_eq_mem,Bi,B8,or_false,decide_eq_false_iff_not,not_or] at h3
 unfold KM1
 rw[yaM (by simp;omega) (by simp;omega)]
 exact ycd h h2 (by omega) ws st
theorem yjb:KE KM2:=yqy yqT ⟨yhi (by decide) (by decide) (by decide),yhi (by decide) (by decide) (by decide)⟩ (by decide) (by decide)
theorem yhj{f:Nat}(h:lp.contains f=false)(h2:f≠15)(h3:[22,24,64,65,66,114,76,27,28,18,31,84,68,69].contains f=false)(ws:List HV)(st:HSt):KM2 f ws st=Option.none:=by
 simp only[List.contains_eq_mem,Bi,B8,or_false,decide_eq_false_iff_not,not_or] at h3
 unfold KM2
 rw[yaM (by simp) (by simp;omega)]
 refine yhi h h2 ?_ ws st
 simp;omega
theorem ypO(st:HSt):KM2 15 [] st=some (.p (.bool true),st):=by
 unfold KM2
 rw[yaM (by decide) (by decide)]
 unfold KM1
 rw[yaM (by decide) (by decide),yj3 (by decide)]
 unfold KS0 orK
 rw[yqF]
theorem ypP{P:Program}(hm:P.follows .mixedOrders=true)(hT:TOk P T)(hTH:TOkH P TH):HCallOk P (evHI C0 KM2 TH):=by
 have h0:HCallOk P KP:=yjM (ymP (yjK hm hT lp)) (ymN (yjK hm hT lp))
 exact ygw hm yn3 (ylz hm hTH (ylz hm hTH (ylz hm hTH (yjM (yqG hm hTH) h0) _ _) _ _) _ _) hTH
theorem ypQ:F18n KM2:=ym5 (by decide) (by decide) (yoY ymg (by decide) (by decide))
theorem ypR:F27 KM2:=yoV (by decide) (by decide) (ypK ymg (by decide) (by decide))
theorem ypS:F28 KM2:=yoW (by decide) (by decide) (ypL ymg.toKPu (ycd (by decide) (by decide) (by decide)) (ycd (by decide) (by decide) (by decide)) (by decide) (by decide))
theorem ypT:F31 KM2:=yoX (by decide) (by decide) (ypM ymg.toKPu ypN (ycd (by decide) (by decide) (by decide)) (ycd (by decide) (by decide) (by decide)) (ycd (by decide) (by decide) (by decide)) (by decide) (by decide))
open Go
set_option maxRecDepth 10000
set_option maxHeartbeats 4000000
variable {K:HCalls}
open Go
set_option maxRecDepth 10000
set_option maxHeartbeats 4000000
variable {K:HCalls}
open Go
set_option maxRecDepth 10000
set_option maxHeartbeats 4000000
variable {K:HCalls}
theorem Two.same{base n:Nat}{st st':HSt}{ah bh:HV}{xs ys:List Int}(H:Two base st ah bh xs ys)(S:Same st.length st st'):Two base st' ah bh xs ys:=by
 have h:∀{h:HV} {zs:List Int},RowI base st h zs->RowI base st' h zs:=fun {h zs} R=>by
  rcases R with h1|⟨b,h1,h2,h3,h4⟩
  ·exact .inl h1
  ·exact .inr ⟨b,h1,h2,h3,S.some (Ad.1 h4).1 h4⟩
 exact⟨h H.A,h H.B,H.len,H.ne⟩
theorem Old.same{base:Nat}{st st':HSt}{sp p9 ob:Nat}{As:List Area}{L:List r26_Object}(O:Old st sp p9 ob As L)(S:Same base st st')(h:p9<base/\ob<base):Old st' sp p9 ob As L:=
 ⟨S.some h.1 O.b9,S.some h.2 O.ob⟩
structure W3 (base sp wb p9 ob:Nat) (ws:List Int) (As:List Area) (L:List r26_Object) (F:List Int) (m:Int->Int) (ways:List Int):Prop where
 lt:sp<base/\wb<base/\p9<base/\ob<base
 hb:ws.length<1000000000
 hl:L.length<100000
 M:Mvd ws L F m
 hw:ways.length<1000
 hwr:∀v∈ways,0<=v/\v<256
open Go
set_option maxRecDepth 10000
set_option maxHeartbeats 4000000
variable {K:HCalls}
theorem k17(B:KPu K){L:List r26_Object}{fr rs:List Int}(h:l26_roots L fr=some rs)(n:Nat)(st:HSt):evHF C0 K TH (n+1) 17 [hL L,hB8 fr] st=some (hN rs,st):=
 B.known (f:=17) rfl (ws:=[.sl L.length (L.flatMap cr26_Object),.sl fr.length (fr.flatMap (cint .u8))]) rfl (yij L fr rs h) rfl rfl rfl n st
open Go
set_option maxRecDepth 10000
set_option maxHeartbeats 4000000
variable {K:HCalls}
def bk5:Nat->HC
 | 0=>h5.body
 | n+1=>hcr (bk5 n)
abbrev hB(b:Bool):HV:=.p (.bool b)
def env5p(z:Int)(ops:List l26_Op)(fr:List Int)(both:Bool):HEnv:=[(0,.p (.int .u8 z)),(1,hOps ops),(2,hB8 fr),(3,hB both)]
def env5a(fr:List Int)(both:Bool)(p9:Nat):HEnv:=[(2,hB8 fr),(3,hB both),(9,.ptr p9 0)]
def env5b(fr:List Int)(both:Bool)(p9:Nat)(ars:List Area)(al:HV):HEnv:=[(2,hB8 fr),(3,hB both),(9,.ptr p9 0),(11,hAs ars),(12,al)]
def env5c(both:Bool)(p9:Nat)(ars:List Area)(al:HV)(rs:List Int):HEnv:=[(3,hB both),(9,.ptr p9 0),(11,hAs ars),(12,al),(13,hN rs)]
def env5d(both:Bool)(p9:Nat)(ars:List Area)(al:HV)(rs F:List Int)(W:Int):HEnv:=[(3,hB both),(9,.ptr p9 0),(11,hAs ars),(12,al),(13,hN rs),(14,hN F),(15,hI W)]
def env5e(both:Bool)(p9:Nat)(ars:List Area)(al:HV)(rs F:List Int)(W:Int):HEnv:=[(3,hB both),(9,.ptr p9 0),(11,hAs ars),(12,al),(13,hN rs),(14,hN F),(15,hI W),(16,hN F)]
def env5f(both:Bool)(p9:Nat)(ars:List Area)(al:HV)(rs:List Int)(p17:Nat)(vs:List Int):HEnv:=[(3,hB both),(9,.ptr p9 0),(11,hAs ars),(12,al),(13,hN rs),(17,.ptr p17 0),(18,hN vs)]
def env5g(both:Bool)(p9:Nat)(p17:Nat)(vs:List Int)(p19:Nat):HEnv:=[(3,hB both),(9,.ptr p9 0),(17,.ptr p17 0),(18,hN vs),(19,.ptr p19 0)]
def env5h(both:Bool)(p9 p17 p19:Nat):HEnv:=[(3,hB both),(9,.ptr p9 0),(17,.ptr p17 0),(19,.ptr p19 0)]
def env5i(both:Bool)(p9 p19:Nat)(ah:HV):HEnv:=[(3,hB both),(9,.ptr p9 0),(19,.ptr p19 0),(20,ah)]
def env5j(p9 p19:Nat)(ah:HV):HEnv:=[(9,.ptr p9 0),(19,.ptr p19 0),(20,ah)]
abbrev bW(sp:Nat)(As:List Area)(L:List r26_Object):HB:=.box [.ptr sp 0,hAs As,hL L]
abbrev bA(a:Area):HB:=.box [hI a.Lo,hI a.Hi,hI a.Next]
theorem e5g(k15:∀n st,evHF C0 K TH (n+1) 15 [] st=some (.p (.bool true),st))(hk:∀ws st,K 5 ws st = .none)(z:Int)(ops:List l26_Op)(fr:List Int)(both:Bool)(h:60<ops.length\/(ops.length<=60/\20<fr.length))(st:HSt):
 evHF C0 K TH 60 5 [.p (.int .u8 z),hOps ops,hB8 fr,hB both] st=some (.p (.bool true),st):=by
 rcases h with h|⟨h1,h2⟩
 ·have a1:(60:Int)<ops.length:=by omega
  refine yD (n:=59) hk (x:=h5) rfl rfl ?_
  simp (config:={ maxSteps:=4000000 }) [↓yg,↓yc,yl,h5,h,a1,k15]
 ·have a1:¬(60:Int)<ops.length:=by omega
  have a1':¬60<ops.length:=by omega
  have a3:(20:Int)<fr.length:=by omega
  refine yD (n:=59) hk (x:=h5) rfl rfl ?_
  simp (config:={ maxSteps:=4000000 }) [↓yg,↓yc,yl,h5,a1,a1',a3,h2,k15]
theorem ysf(z:Int)(ops:List l26_Op)(fr:List Int)(both:Bool)(st:HSt):Run C0 K TH (hcl (bk5 0)) (env5p z ops fr both,st) .norm (env5p z ops fr both,st):=by
 refine Run.of 60 ?_
 simp (config:={ maxSteps:=4000000 }) [↓yg,↓yc,yl,-getElem?_pos,Ah,Ai,yx,yA,ye,yd,yp,yj,yu,yk,yw,h5,bk5,hcl,hcr,env5p]
theorem ysg(z:Int)(ops:List l26_Op)(fr:List Int)(both:Bool)(st:HSt)(h1:ops.length<=60)(h2:fr.length<=20):Run C0 K TH (hcl (bk5 1)) (env5p z ops fr both,st) .norm (env5p z ops fr both,st):=by
 have a1:¬(60:Int)<ops.length:=by omega
 have a1':¬60<ops.length:=by omega
 have a3:¬(20:Int)<fr.length:=by omega
 have a3':¬20<fr.length:=by omega
 refine Run.of 60 ?_
 simp (config:={ maxSteps:=4000000 }) [↓yg,↓yc,yl,-getElem?_pos,Ah,Ai,yx,yA,ye,yd,yp,yj,yu,yk,yw,h5,bk5,hcl,hcr,env5p,a1,a1',a3,a3']
theorem ysh(z:Int)(ops:List l26_Op)(fr:List Int)(both:Bool){st st1:HSt}{sp:Nat}{As:List Area}{L:List r26_Object}{n:Nat}(e:evHF C0 K TH n 16 [.p (.int .u8 z),hOps ops] st=some (.tup [hW sp As L,.p (.bool true)],st1)):
 Run C0 K TH (hcl (bk5 2)) (env5p z ops fr both,st) .norm ([(2,hB8 fr),(3,hB both),(9,.ptr st1.length 0),(10,.p (.bool true))],st1++[bW sp As L]):=by
 have e':evHF C0 K TH (n+60) 16 [.p (.int .u8 z),hOps ops] st=some (.tup [hW sp As L,.p (.bool true)],st1):=yz (by omega) _ _ _ _ e
 refine Run.of (n+60) ?_
 simp (config:={ maxSteps:=4000000 }) [↓yg,↓yc,yl,-getElem?_pos,Ah,Ai,yx,yA,ye,yd,yp,yj,yu,yk,yw,h5,bk5,hcl,hcr,env5p,e']
theorem ysi(fr:List Int)(both:Bool)(p9:Nat)(st:HSt):Run C0 K TH (hcl (bk5 3)) ([(2,hB8 fr),(3,hB both),(9,.ptr p9 0),(10,.p (.bool true))],st) .norm (env5a fr both p9,st):=by
 refine Run.of 60 ?_
 simp (config:={ maxSteps:=4000000 }) [↓yg,↓yc,yl,-getElem?_pos,Ah,Ai,yx,yA,ye,yd,yp,yj,yu,yk,yw,h5,bk5,hcl,hcr,env5a]
theorem ysj(fr:List Int)(both:Bool){st:HSt}{p9 sp:Nat}{b0 b1 b2:Area}{L:List r26_Object}(b9:st[p9]? = some (bW sp [b0,b1,b2] L)):Run C0 K TH (hcl (bk5 4)) (env5a fr both p9,st) .norm ([(2,hB8 fr),(3,hB both),(9,.ptr p9 0),(11,hAs [b0])],st):=by
 refine Run.of 60 ?_
 simp (config:={ maxSteps:=4000000 }) [↓yg,↓yc,yl,-getElem?_pos,Ah,Ai,yx,yA,ye,yd,yp,yj,yu,yk,yw,h5,bk5,hcl,hcr,env5a,b9,cArea]
theorem ysk(B:KPu K)(fr:List Int)(both:Bool){st:HSt}{p9 sp:Nat}{b0 b1 b2:Area}{L:List r26_Object}(b9:st[p9]? = some (bW sp [b0,b1,b2] L)){l:List Int}(hs:r26_Starts L b1=some l):Run C0 K TH (hcl (bk5 5)) ([(2,hB8 fr),(3,hB both),(9,.ptr p9 0),(11,hAs [b0])],st) .norm (env5b fr both p9 [b0] (hN l),st):=by
 have e26:=fun n st=>k26 B hs n st
 refine Run.of 60 ?_
 simp (config:={ maxSteps:=4000000 }) [↓yg,↓yc,yl,-getElem?_pos,Ah,Ai,yx,yA,ye,yd,yp,yj,yu,yk,yw,h5,bk5,hcl,hcr,env5b,b9,e26,cArea]
def al5(both:Bool)(l:List Int):HV:=if both then .p .nils else hN l
def l5(both:Bool)(l:List Int):List Int:=if both then [] else l
theorem ysl(fr:List Int)(both:Bool){st:HSt}{p9 sp:Nat}{b0 b1 b2:Area}{L:List r26_Object}(b9:st[p9]? = some (bW sp [b0,b1,b2] L))(l:List Int):Run C0 K TH (hcl (bk5 6)) (env5b fr both p9 [b0] (hN l),st) .norm (env5b fr both p9 (arsOf both b0 b1) (al5 both l),st):=by
 cases both
 all_goals
  refine Run.of 60 ?_
  simp (config:={ maxSteps:=4000000 }) [↓yg,↓yc,yl,-getElem?_pos,Ah,Ai,yx,yA,ye,yd,yp,yj,yu,yk,yw,h5,bk5,hcl,hcr,env5b,arsOf,al5,b9,cArea]
theorem ysm(B:KPu K){fr rs:List Int}(both:Bool){st:HSt}{p9 sp:Nat}{As:List Area}{L:List r26_Object}(b9:st[p9]? = some (bW sp As L))(h:l26_roots L fr=some rs)(ars:List Area){al:HV}{l:List Int}(hal:(al = .p .nils/\l=[])\/al=hN l):Run C0 K TH (hcl (bk5 7)) (env5b fr both p9 ars al,st) .norm (env5c both p9 ars al rs,st):=by
 have e:=fun n=>k17 B h n st
 rcases hal with⟨rfl,_⟩|rfl
 all_goals
  refine Run.of 60 ?_
  simp (config:={ maxSteps:=4000000 }) [↓yg,↓yc,yl,-getElem?_pos,Ah,Ai,yx,yA,ye,yd,yp,yj,yu,yk,yw,h5,bk5,hcl,hcr,env5b,env5c,b9,e]
theorem ysn(both:Bool){st st1:HSt}{p9 sp:Nat}{As:List Area}{L:List r26_Object}(b9:st[p9]? = some (bW sp As L))(ars:List Area){al:HV}{l:List Int}(hal:(al = .p .nils/\l=[])\/al=hN l)(rs:List Int){F:List Int}{W:Int}(e:K 27 [.ptr sp 0,hAs ars,hN rs,al] st=some (.p (.tup [.sl F.length (F.flatMap (cint .i64)),.int .i64 W]),st1)):
 Run C0 K TH (hcl (bk5 8)) (env5c both p9 ars al rs,st) .norm (env5d both p9 ars al rs F W,st1):=by
 have e':evHF C0 K TH 60 27 [.ptr sp 0,hAs ars,hN rs,al] st=_:=yW e 59
 rcases hal with⟨rfl,_⟩|rfl
 all_goals
  refine Run.of 60 ?_
  simp (config:={ maxSteps:=4000000 }) [↓yg,↓yc,yl,-getElem?_pos,Ah,Ai,yx,yA,ye,yd,yp,yj,yu,yk,yw,h5,bk5,hcl,hcr,env5c,env5d,b9,e']
theorem yso(both:Bool){st st1:HSt}{p9 sp:Nat}{As:List Area}{L:List r26_Object}(b9:st[p9]? = some (bW sp As L))(ars:List Area){al:HV}{l:List Int}(hal:(al = .p .nils/\l=[])\/al=hN l)(rs:List Int){F:List Int}(W:Int)(e:K 28 [hL L,hAs ars,hN rs,al] st=some (hN F,st1)):
 Run C0 K TH (hcl (bk5 9)) (env5d both p9 ars al rs F W,st) .norm (env5e both p9 ars al rs F W,st1):=by
 have e':evHF C0 K TH 60 28 [hL L,hAs ars,hN rs,al] st=_:=yW e 59
 rcases hal with⟨rfl,_⟩|rfl
 all_goals
  refine Run.of 60 ?_
  simp (config:={ maxSteps:=4000000 }) [↓yg,↓yc,yl,-getElem?_pos,Ah,Ai,yx,yA,ye,yd,yp,yj,yu,yk,yw,h5,bk5,hcl,hcr,env5d,env5e,b9,e']
theorem yqU(both:Bool){st:HSt}{p9 sp:Nat}{As:List Area}{L:List r26_Object}(b9:st[p9]? = some (bW sp As L))(ars:List Area){al:HV}{l:List Int}(hal:(al = .p .nils/\l=[])\/al=hN l)(rs:List Int){F:List Int}{W:Int}(e29:∀n st,evHF C0 K TH (n+1) 29 [hN F,hN F] st=some (.p (.bool true),st))(e30:∀n st,evHF C0 K TH (n+1) 30 [hL L,hN F] st=some (hI W,st)):
 Run C0 K TH (hcl (bk5 10)) (env5e both p9 ars al rs F W,st) .norm (env5c both p9 ars al rs,st):=by
 rcases hal with⟨rfl,_⟩|rfl
 all_goals
  refine Run.of 60 ?_
  simp (config:={ maxSteps:=4000000 }) [↓yg,↓yc,yl,-getElem?_pos,Ah,Ai,yx,yA,ye,yd,yp,yj,yu,yk,yw,h5,bk5,hcl,hcr,env5c,env5e,b9,e29,e30]
theorem yqV(both:Bool){st st1:HSt}{p9 sp:Nat}{b0 b1 b2:Area}{L:List r26_Object}(b9:st[p9]? = some (bW sp [b0,b1,b2] L))(ars:List Area){al:HV}{l:List Int}(hal:(al = .p .nils/\l=[])\/al=hN l)(rs:List Int){vs:List Int}{nx:Int}(e:K 18 [.ptr sp 0,hAs ars,hA b2,hN rs,al] st=some (.p (.tup [.agg [.int .i64 b2.Lo,.int .i64 b2.Hi,.int .i64 nx],.sl vs.length (vs.flatMap (cint .i64))]),st1)):
 Run C0 K TH (hcl (bk5 11)) (env5c both p9 ars al rs,st) .norm (env5f both p9 ars al rs st1.length vs,st1++[bA ⟨b2.Lo,b2.Hi,nx⟩]):=by
 have e':evHF C0 K TH 60 18 [.ptr sp 0,hAs ars,hA b2,hN rs,al] st=_:=yW e 59
 have c1:=yah vs
 rcases hal with⟨rfl,_⟩|rfl
 all_goals
  refine Run.of 60 ?_
  simp (config:={ maxSteps:=4000000 }) [↓yg,↓yc,yl,-getElem?_pos,Ah,Ai,yx,yA,ye,yd,yp,yj,yu,yk,yw,h5,bk5,hcl,hcr,env5c,env5f,b9,e',cArea,c1]
theorem yqW(both:Bool){st st1:HSt}{p9 sp:Nat}{b0 b1 b2:Area}{L:List r26_Object}(b9:st[p9]? = some (bW sp [b0,b1,b2] L))(ars:List Area){al:HV}{l:List Int}(hal:(al = .p .nils/\l=[])\/al=hN l)(rs:List Int)(p17:Nat)(vs:List Int){NL:List r26_Object}{us:List Int}{nx:Int}(e:K 31 [hL L,hAs ars,hA b2,hN rs,al] st=some (.p (.agg [.sl NL.length (NL.flatMap cr26_Object),.int .i64 b2.Lo,.int .i64 b2.Hi,.int .i64 nx,.sl us.length (us.flatMap (cint .i64))]),st1)):
 Run C0 K TH (hcl (bk5 12)) (env5f both p9 ars al rs p17 vs,st) .norm (env5g both p9 p17 vs st1.length,st1++[bxM b2.Lo b2.Hi nx (hL NL) (hN us)]):=by
 have e':evHF C0 K TH 60 31 [hL L,hAs ars,hA b2,hN rs,al] st=_:=yW e 59
 have c1:=yah us
 rcases hal with⟨rfl,_⟩|rfl
 all_goals
  refine Run.of 60 ?_
  simp (config:={ maxSteps:=4000000 }) [↓yg,↓yc,yl,-getElem?_pos,Ah,Ai,yx,yA,ye,yd,yp,yj,yu,yk,yw,h5,bk5,hcl,hcr,env5f,env5g,b9,e',cArea,c1]
theorem yqX(both:Bool){st:HSt}{p9 p17 p19:Nat}{lo hi nx:Int}{NL:List r26_Object}{vs:List Int}(b17:st[p17]? = some (bA ⟨lo,hi,nx⟩))(b19:st[p19]? = some (bxM lo hi nx (hL NL) (hN vs)))(e32:∀n st,evHF C0 K TH (n+1) 32 [hN vs,hN vs] st=some (.p (.bool true),st)):
 Run C0 K TH (hcl (bk5 13)) (env5g both p9 p17 vs p19,st) .norm (env5h both p9 p17 p19,st):=by
 refine Run.of 60 ?_
 simp (config:={ maxSteps:=4000000 }) [↓yg,↓yc,yl,-getElem?_pos,Ah,Ai,yx,yA,ye,yd,yp,yj,yu,yk,yw,h5,bk5,hcl,hcr,env5g,env5h,b17,b19,e32]
theorem yqY(both:Bool){st:HSt}(p9:Nat){p17:Nat}(p19:Nat){a:Area}(b17:st[p17]? = some (bA a)):
 ∃ah g,Run C0 K TH (hcl (bk5 14)) (env5h both p9 p17 p19,st) .norm (env5i both p9 p19 ah,st++g)/\ah = .row st.length 0 1 3/\g=[.row 3 1 ((([a]:List Area).flatMap cArea).map .p)]:=by
 refine⟨_,_,Run.of 60 ?_,rfl,rfl⟩
 simp (config:={ maxSteps:=4000000 }) [↓yg,↓yc,yl,-getElem?_pos,Ah,Ai,yx,yA,ye,yd,yp,yj,yu,yk,yw,h5,bk5,hcl,hcr,env5h,env5i,b17,cArea]
open Go
set_option maxRecDepth 10000
set_option maxHeartbeats 4000000
variable {K:HCalls}
theorem ypU{st:HSt}(p9 p19 c:Nat):Run C0 K TH (hcl (bk5 15)) (env5i true p9 p19 (.row c 0 1 3),st) .norm (env5j p9 p19 (.row c 0 1 3),st):=by
 refine Run.of 60 ?_
 simp (config:={ maxSteps:=4000000 }) [↓yg,↓yc,yl,-getElem?_pos,Ah,Ai,yx,yA,ye,yd,yp,yj,yu,yk,yw,h5,bk5,hcl,hcr,env5i,env5j]
theorem ypV{st:HSt}{p9 p19 c sp:Nat}{b0 b1 b2 a:Area}{L:List r26_Object}(b9:st[p9]? = some (bW sp [b0,b1,b2] L))(bc:st[c]? = some (.row 3 1 [hI a.Lo,hI a.Hi,hI a.Next])):
 Run C0 K TH (hcl (bk5 15)) (env5i false p9 p19 (.row c 0 1 3),st) .norm (env5j p9 p19 (.row (st.length+1) 0 2 3),st.set c .dead++[.row 3 1 [hI b1.Lo,hI b1.Hi,hI b1.Next],.row 3 2 [hI a.Lo,hI a.Hi,hI a.Next,hI b1.Lo,hI b1.Hi,hI b1.Next]]):=by
 have hcl':c<st.length:=(Ad.1 bc).1
 have f4:∀g:HSt,(st++g)[c]? = some (.row 3 1 [hI a.Lo,hI a.Hi,hI a.Next]):=fun g=>by rw[Aj hcl',bc]
 have f5:∀(g:HSt) (x:HB),(st++g).set c x=st.set c x++g:=fun g x=>A6 _ _ hcl'
 have f8:∀(g:HSt) (x:HB) (j:Nat),(st.set c x++g)[st.length+j]? = g[j]?:=fun g x j=>by rw[A7 (by simp)];simp
 refine Run.of 60 ?_
 simp (config:={ maxSteps:=4000000 }) [↓yg,↓yc,yl,-getElem?_pos,Ah,Ai,yx,yA,ye,yd,yp,yj,yu,yk,yw,h5,bk5,hcl,hcr,env5i,env5j,b9,f4,f5,f8,cArea]
theorem yqZ(k15:∀n st,evHF C0 K TH (n+1) 15 [] st=some (.p (.bool true),st)){st:HSt}{p9 p19 sp:Nat}{As:List Area}{L NL:List r26_Object}{lo hi nx:Int}{gh:HV}(b9:st[p9]? = some (bW sp As L))(b19:st[p19]? = some (bxM lo hi nx (hL NL) gh))(c n:Nat){g:HSt}{n0:Nat}(e25:∀m,n0<=m->evHF C0 K TH m 25 [.ptr sp 0,.row c 0 n 3,hL NL] st=some (hI 0,st++g)):
 Run C0 K TH (bk5 16) (env5j p9 p19 (.row c 0 n 3),st) .ret ([(8,.p (.bool true))],st++g):=by
 have e:=e25 (n0+60) (by omega)
 refine Run.of (n0+60) ?_
 simp (config:={ maxSteps:=4000000 }) [↓yg,↓yc,yl,-getElem?_pos,Ah,Ai,yx,yA,ye,yd,yp,yj,yu,yk,yw,h5,bk5,hcl,hcr,env5j,b9,b19,e,k15]
theorem ymh{both:Bool}{b0 b1 b2 a:Area}(h:a∈arsOf both b0 b1):a∈[b0,b1,b2]:=by
 cases both <;> simp[arsOf] at h ⊢
 ·exact .inl h
 ·rcases h with rfl|rfl <;> simp
theorem ymi(both:Bool)(b0 b1:Area):(arsOf both b0 b1).length<1000:=by cases both <;> simp[arsOf]
theorem yjc{z:Int}(hz:0<=z/\z<=255)(ops:List l26_Op)(hops:∀o∈ops,OkOp o)(hl:ops.length<140737488355328)(fr:List Int)(hfr:∀v∈fr,0<=v/\v<256)(both:Bool):
 ∃st',evHI C0 KM2 TH 5 [.p (.int .u8 z),hOps ops,hB8 fr,.p (.bool both)] []=some (.p (.bool true),st'):=by
 have k15:=fun n st=>yW (ypO st) n
 have hk:∀ws st,KM2 5 ws st = .none:=yhj (by decide) (by decide) (by decide)
 by_cases hg:60<ops.length\/(ops.length<=60/\20<fr.length)
 ·exact⟨[],ycx.2 ⟨60,e5g k15 hk z ops fr both hg []⟩⟩
 have g1:ops.length<=60:=by omega
 have g3:fr.length<=20:=by omega
 obtain⟨n1,N,st1,sp,wb,ws,b0,b1,L,hNN,e1,S,hw,H,hLn,h0,h1⟩:=e16 yjb (yhj (by decide) (by decide) (by decide)) hz ops hops (by omega) []
 obtain⟨hall,htot,hout⟩:=yl4 H h0 h1
 obtain⟨rs,hrs,hrl,hra⟩:=ymX L (by omega) fr (by omega) hfr
 have o1:=H.lay.ord b1 (by simp)
 have o0:=H.lay.ord b0 (by simp)
 have hL0:L.length<40000:=by omega
 have hst1:=yim H.lay (by omega) (a:=b1) (by simp) (by omega)
 obtain⟨l,hl1⟩:∃l,(objsIn L b1).map r26_Object.At=l:=⟨_,rfl⟩
 rw[hl1] at hst1
 have hlob:∀p∈l,∃o∈L,o.At=p/\inA b1 p=true:=fun p hp=>by
  rw[←hl1] at hp
  obtain⟨o,ho,rfl⟩:=Bm.1 hp
  have:=B7.1 ho
  exact⟨o,this.1,rfl,this.2⟩
 have hln:l.Nodup:=by
  rw[←hl1]
  have hap:=H.lay.apart
  have:(L.map r26_Object.At).Nodup:=by
   rw[List.pairwise_map] at hap
   refine List.pairwise_map.2 (hap.imp fun {a b} h=>?_)
   intro e
   simp only[Apart,keyOf] at h
   omega
  exact this.sublist (List.Sublist.map _ (List.filter_sublist))
 have hll:l.length<=1000:=by rw[←hl1,Bh];have:=yd8 L b1;omega
 obtain⟨ars,hars⟩:∃ars,arsOf both b0 b1=ars:=⟨_,rfl⟩
 obtain⟨l2,hl2⟩:∃l2,l5 both l=l2:=⟨_,rfl⟩
 have hal:(al5 both l = .p .nils/\l2=[])\/al5 both l=hN l2:=by
  cases both
  ·right;rw[←hl2];rfl
  ·left;rw[←hl2];exact⟨rfl,rfl⟩
 obtain⟨al,hal1⟩:∃al,al5 both l=al:=⟨_,rfl⟩
 rw[hal1] at hal
 have hl2n:l2.Nodup:=by rw[←hl2];cases both;exact hln;exact List.nodup_nil
 have hl2l:l2.length<=1000:=by rw[←hl2];cases both;exact hll;simp[l5]
 have hl2o:∀p∈l2,∃o∈L,o.At=p/\inAny ars p=false:=fun p hp=>by
  rw[←hl2] at hp
  cases both with
  | true=>simp[l5] at hp
  | false=>
    obtain⟨o,ho,e,h⟩:=hlob p hp
    refine⟨o,ho,e,?_⟩
    cases hi:inAny ars p with
    | false=>rfl
    | true=>
      rw[←hars] at hi
      obtain⟨a,ha,h'⟩:=yaP.1 hi
      simp[arsOf] at ha
      subst ha
      have:=yan.1 h
      have:=yan.1 h'
      omega
 have hz0:inAny ars 0=false:=ykt H.lay fun a ha=>by rw[←hars] at ha;exact ymh ha
 have hal':IntsAt st1 al l2:=by rcases hal with h|h;exact .inl h;exact .inr (.inl h)
 have hAl:ars.length<1000:=by rw[←hars];exact ymi both b0 b1
 obtain⟨F,hF⟩:∃F,live L ars rs l2=F:=⟨_,rfl⟩
 obtain⟨hFO,hFr,hFc⟩:=yoG (L:=L) (ars:=ars) hz0 H.ptr (rs:=rs) (al:=l2) hra
 rw[hF] at hFO
 have hFl:=hFO.le
 have hroom:endT L (1+N+N) F<=1+N+N+2*N:=ym1 H h0 h1 both (by rw[hars];exact hFO)
 have hM:Mk ars L (1+N+N) (1+N+N+2*N) F:=⟨hz0,H.lay.apart,by omega,hAl,hFO,by omega,by omega⟩
 have hwsl:=H.wsl ⟨1+N+N,1+N+N+2*N,1+N+N⟩ (by simp)
 simp only at hwsl
 have h00:=ysc H ars (1+N+N) (1+N+N+2*N) (by omega) hwsl (fun k hk=>.inl (hout k hk))
 have hok:∀o∈L,OkSh o.Shape/\(o.Slots.length:Int)=o.Shape.Slots:=fun o ho=>⟨(H.ok o ho).sh,(H.ok o ho).len⟩
 have hok2:∀o∈L,OkSh o.Shape/\o.Slots.length<1000:=fun o ho=>⟨(H.ok o ho).sh,by have:=(H.ok o ho).len;have:=(H.ok o ho).sh.2.1;omega⟩
 have hposk:∀o∈L,0<o.At:=fun o ho=>H.lay.pos (k:=keyOf o) (Bm.2 ⟨o,ho,rfl⟩)
 have hLk:Lk ars ws L:=⟨fun o ho=>⟨H.ok o ho,hposk o ho⟩,H.ptr,H.lay.apart,hz0,by omega,by omega,hAl⟩
 obtain⟨W,hW⟩:∃W,wsum ws F=W:=⟨_,rfl⟩
 have hFm:∀p∈F,∃o∈L,o.At=p:=fun p hp=>(hFO.mem p hp).2
 have e29:=fun n st=>k29 yjb.toKPu F (by omega) n st
 have e30:=fun n st=>k30 yjb.toKPu hL0 H.lay.apart H.ok F (by omega) hFm n st
 rw[hW] at e30
 obtain⟨vs,hvs⟩:∃vs,rs.map (mv L (1+N+N) F)=vs:=⟨_,rfl⟩
 have hvl:vs.length<140737488355328:=by rw[←hvs,Bh];omega
 have e32:=fun n st=>k32 yjb.toKPu vs hvl n st
 let st2:HSt:=st1++[bW sp [b0,b1,⟨1+N+N,1+N+N+2*N,1+N+N⟩] L]
 have S2:SpaceAt st2 sp wb ws:=S.app _
 obtain⟨ls,lw,lne⟩:=S.lt
 have hl2':st2.length=st1.length+1:=by simp[st2]
 have b9:st2[st1.length]? = some (bW sp [b0,b1,⟨1+N+N,1+N+N+2*N,1+N+N⟩] L):=by rw[yy];rfl
 have hal2:∀st,IntsAt st al l2:=fun st=>by rcases hal with h|h;exact .inl h;exact .inr (.inl h)
 obtain⟨st3,c27,S27⟩:=ypR (L:=L) S2 (by omega) hLk (ah:=hAs ars) (.inl rfl) (rs:=rs) (by omega) hra (hal2 st2) (by omega) (fun p hp=>by obtain⟨o,ho,e,_⟩:=hl2o p hp;exact⟨o,ho,e⟩)
 rw[hF,hW] at c27
 have b9':=S27.some (by omega) b9
 have S3:=S27.space S2 (by omega) (by omega)
 have l3:=S27.len
 obtain⟨st4,c28,S28⟩:=ypS (st:=st3) hLk (ah:=hAs ars) (.inl rfl) (rs:=rs) (by omega) hra (hal2 st3) (by omega)
 rw[hF] at c28
 have b94:=S28.some (by omega) b9'
 have S4:=S28.space S3 (by omega) (by omega)
 have l4:=S28.len
 obtain⟨st5,ws5,c18,S5,hwl5,M5,K5⟩:=ypQ (L:=L) S4 (by omega) (ah:=hAs ars) (.inl rfl) ⟨1+N+N,1+N+N+2*N,1+N+N⟩ (rs:=rs) (by omega) hra (hal2 st4) (fun b n h=>by rcases hal with⟨h',_⟩|h' <;> rw[h'] at h <;> cases h) (by omega) hl2n hl2o (hi:=1+N+N+2*N) (by rw[hF];exact hM) H.ptr hok h00
 rw[hF] at c18 M5
 simp only at c18 M5
 rw[hvs] at c18
 have b95:=K5.some b94 (by omega)
 have l5':=K5.len
 let st6:HSt:=st5++[bA ⟨1+N+N,1+N+N+2*N,endT L (1+N+N) F⟩]
 have hl6:st6.length=st5.length+1:=by simp[st6]
 have S6:SpaceAt st6 sp wb ws5:=S5.app _
 have b96:st6[st1.length]? = some (bW sp [b0,b1,⟨1+N+N,1+N+N+2*N,1+N+N⟩] L):=by rw[Aj (by omega)];exact b95
 have b176:st6[st5.length]? = some (bA ⟨1+N+N,1+N+N+2*N,endT L (1+N+N) F⟩):=by rw[yy];rfl
 obtain⟨st7,c31,S31⟩:=ypT (st:=st6) hLk ⟨1+N+N,1+N+N+2*N,1+N+N⟩ (rs:=rs) (by omega) hra hal (by omega) hL0 hok2 (by rw[hF];exact hFO) (by simp only;omega) (by rw[hF];simp only;omega)
 rw[hF] at c31
 simp only at c31
 rw[hvs] at c31
 obtain⟨NL,hNL⟩:∃NL,mvL L ars (1+N+N) F l2=NL:=⟨_,rfl⟩
 have hlike:=ym0 H h0 h1 (by omega) both hL0 (by omega) hroom (l:=l2) (by rw[hars];exact M5)
 have hNLl:=yl6 (L:=L) ars (1+N+N) F l2
 rw[hars,hNL] at hlike
 rw[hNL] at c31 M5 hNLl
 have l7:=S31.len
 let st8:HSt:=st7++[bxM (1+N+N) (1+N+N+2*N) (endT L (1+N+N) F) (hL NL) (hN vs)]
 have hl8:st8.length=st7.length+1:=by simp[st8]
 have get8:∀i,i<st6.length->st8[i]? = st6[i]?:=fun i hi=>by
  show (st7++_)[i]? = _
  rw[Aj (by omega),S31.get i hi]
 have S8:SpaceAt st8 sp wb ws5:=⟨by rw[get8 sp (by omega)];exact S6.s,by rw[get8 wb (by omega)];exact S6.w⟩
 have b98:st8[st1.length]? = some (bW sp [b0,b1,⟨1+N+N,1+N+N+2*N,1+N+N⟩] L):=by rw[get8 _ (by omega)];exact b96
 have b178:st8[st5.length]? = some (bA ⟨1+N+N,1+N+N+2*N,endT L (1+N+N) F⟩):=by rw[get8 _ (by omega)];exact b176
 have b198:st8[st7.length]? = some (bxM (1+N+N) (1+N+N+2*N) (endT L (1+N+N) F) (hL NL) (hN vs)):=by rw[yy];rfl
 let st9:HSt:=st8++[.row 3 1 [hI (1+N+N),hI (1+N+N+2*N),hI (endT L (1+N+N) F)]]
 have hl9:st9.length=st8.length+1:=by simp[st9]
 have get9:∀i,i<st8.length->st9[i]? = st8[i]?:=fun i hi=>Aj hi
 have bc9:st9[st8.length]? = some (.row 3 1 [hI (1+N+N),hI (1+N+N+2*N),hI (endT L (1+N+N) F)]):=by rw[yy];rfl
 have b99:st9[st1.length]? = some (bW sp [b0,b1,⟨1+N+N,1+N+N+2*N,1+N+N⟩] L):=by rw[get9 _ (by omega)];exact b98
 have b199:st9[st7.length]? = some (bxM (1+N+N) (1+N+N+2*N) (endT L (1+N+N) F) (hL NL) (hN vs)):=by rw[get9 _ (by omega)];exact b198
 have S9:SpaceAt st9 sp wb ws5:=S8.app _
 have left:∃(c n:Nat) (st10:HSt),Run C0 KM2 TH (hcl (bk5 15)) (env5i both st1.length st7.length (.row st8.length 0 1 3),st9) .norm (env5j st1.length st7.length (.row c 0 n 3),st10)/\AreasAt st10 (.row c 0 n 3) (leftOf both ⟨1+N+N,1+N+N+2*N,endT L (1+N+N) F⟩ b1)/\∀i,i<st8.length->st10[i]? = st9[i]?:=by
  cases both with
  | true=>exact⟨_,_,_,ypU st1.length st7.length st8.length,.inr ⟨_,rfl,bc9⟩,fun i hi=>rfl⟩
  | false=>
    refine⟨_,_,_,ypV b99 bc9 (a:=⟨1+N+N,1+N+N+2*N,endT L (1+N+N) F⟩),.inr ⟨_,rfl,?_⟩,fun i hi=>?_⟩
    ·rw[A7 (by simp)];simp[leftOf,cArea]
    ·rw[Aj (by simp;omega),Ar (by omega)]
 obtain⟨c,n,st10,r15,hA10,get10⟩:=left
 have S10:SpaceAt st10 sp wb ws5:=⟨by rw[get10 sp (by omega)];exact S9.s,by rw[get10 wb (by omega)];exact S9.w⟩
 have b910:st10[st1.length]? = some (bW sp [b0,b1,⟨1+N+N,1+N+N+2*N,1+N+N⟩] L):=by rw[get10 _ (by omega)];exact b99
 have b1910:st10[st7.length]? = some (bxM (1+N+N) (1+N+N+2*N) (endT L (1+N+N) F) (hL NL) (hN vs)):=by rw[get10 _ (by omega)];exact b199
 obtain⟨g,n0,e25'⟩:=e25 yjb (yhj (by decide) (by decide) (by decide)) S10 (by omega) (.row c 0 n 3) hA10 (by cases both <;> simp[leftOf]) NL (by omega) hlike
 have rr:Run C0 KM2 TH h5.body (env5p z ops fr both,[]) .ret ([(8,.p (.bool true))],st10++g):=by
  rw[show h5.body = .seq (hcl (bk5 0)) (bk5 1) from rfl];refine Run.seq (ysf z ops fr both []) ?_
  rw[show bk5 1 = .seq (hcl (bk5 1)) (bk5 2) from rfl];refine Run.seq (ysg z ops fr both [] g1 g3) ?_
  rw[show bk5 2 = .seq (hcl (bk5 2)) (bk5 3) from rfl];refine Run.seq (ysh z ops fr both e1) ?_
  rw[show bk5 3 = .seq (hcl (bk5 3)) (bk5 4) from rfl];refine Run.seq (ysi fr both st1.length st2) ?_
  rw[show bk5 4 = .seq (hcl (bk5 4)) (bk5 5) from rfl];refine Run.seq (ysj fr both b9) ?_
  rw[show bk5 5 = .seq (hcl (bk5 5)) (bk5 6) from rfl];refine Run.seq (ysk yjb.toKPu fr both b9 hst1) ?_
  rw[show bk5 6 = .seq (hcl (bk5 6)) (bk5 7) from rfl];refine Run.seq (ysl fr both b9 l) ?_
  rw[hars,hal1]
  rw[show bk5 7 = .seq (hcl (bk5 7)) (bk5 8) from rfl];refine Run.seq (ysm yjb.toKPu both b9 hrs ars hal) ?_
  rw[show bk5 8 = .seq (hcl (bk5 8)) (bk5 9) from rfl];refine Run.seq (ysn both b9 ars hal rs c27) ?_
  rw[show bk5 9 = .seq (hcl (bk5 9)) (bk5 10) from rfl];refine Run.seq (yso both b9' ars hal rs W c28) ?_
  rw[show bk5 10 = .seq (hcl (bk5 10)) (bk5 11) from rfl];refine Run.seq (yqU both b94 ars hal rs e29 e30) ?_
  rw[show bk5 11 = .seq (hcl (bk5 11)) (bk5 12) from rfl];refine Run.seq (yqV both b94 ars hal rs c18) ?_
  rw[show bk5 12 = .seq (hcl (bk5 12)) (bk5 13) from rfl];refine Run.seq (yqW both b96 ars hal rs st5.length vs c31) ?_
  rw[show bk5 13 = .seq (hcl (bk5 13)) (bk5 14) from rfl];refine Run.seq (yqX both b178 b198 e32) ?_
  obtain⟨ah,g',r14,rfl,rfl⟩:=yqY (K:=KM2) both st1.length st7.length b178
  rw[show bk5 14 = .seq (hcl (bk5 14)) (bk5 15) from rfl];refine Run.seq r14 ?_
  rw[show bk5 15 = .seq (hcl (bk5 15)) (bk5 16) from rfl];refine Run.seq r15 ?_
  exact yqZ k15 b910 b1910 c n e25'
 obtain⟨n,hn⟩:=Ans.intro (K:=KM2) hk (x:=h5) rfl (ws:=[.p (.int .u8 z),hOps ops,hB8 fr,.p (.bool both)]) rfl rr (by simp) (vs:=[.p (.bool true)]) rfl (r:=.p (.bool true)) rfl rfl
 exact⟨_,ycx.2 ⟨n,hn⟩⟩
open Go
set_option maxRecDepth 100000
theorem ysp:OkH1 Go.Proofs.Try.prog 5 h5:=⟨Go.Proofs.Try.f5,_,hintsH h5.body,Go.Proofs.Try.func5,by kernel_rfl,rfl,by decide,by decide,by kernel_rfl,by kernel_rfl⟩
theorem yq0:OkH1 Go.Proofs.Try.prog 15 h15:=⟨Go.Proofs.Try.f15,_,hintsH h15.body,Go.Proofs.Try.func15,by kernel_rfl,rfl,by decide,by decide,by kernel_rfl,by kernel_rfl⟩
theorem yq1:OkH1 Go.Proofs.Try.prog 16 h16:=⟨Go.Proofs.Try.f16,_,hintsH h16.body,Go.Proofs.Try.func16,by kernel_rfl,rfl,by decide,by decide,by kernel_rfl,by kernel_rfl⟩
theorem yq2:OkH1 Go.Proofs.Try.prog 17 h17:=⟨Go.Proofs.Try.f17,_,hintsH h17.body,Go.Proofs.Try.func17,by kernel_rfl,rfl,by decide,by decide,by kernel_rfl,by kernel_rfl⟩
theorem yq3:OkH1 Go.Proofs.Try.prog 18 h18:=⟨Go.Proofs.Try.f18,_,hintsH h18.body,Go.Proofs.Try.func18,by kernel_rfl,rfl,by decide,by decide,by kernel_rfl,by kernel_rfl⟩
theorem yq4:OkH1 Go.Proofs.Try.prog 19 h19:=⟨Go.Proofs.Try.f19,_,hintsH h19.body,Go.Proofs.Try.func19,by kernel_rfl,rfl,by decide,by decide,by kernel_rfl,by kernel_rfl⟩
theorem yq5:OkH1 Go.Proofs.Try.prog 21 h21:=⟨Go.Proofs.Try.f21,_,hintsH h21.body,Go.Proofs.Try.func21,by kernel_rfl,rfl,by decide,by decide,by kernel_rfl,by kernel_rfl⟩
theorem yq6:OkH1 Go.Proofs.Try.prog 22 h22:=⟨Go.Proofs.Try.f22,_,hintsH h22.body,Go.Proofs.Try.func22,by kernel_rfl,rfl,by decide,by decide,by kernel_rfl,by kernel_rfl⟩
theorem yq7:OkH1 Go.Proofs.Try.prog 23 h23:=⟨Go.Proofs.Try.f23,_,hintsH h23.body,Go.Proofs.Try.func23,by kernel_rfl,rfl,by decide,by decide,by kernel_rfl,by kernel_rfl⟩
theorem yq8:OkH1 Go.Proofs.Try.prog 24 h24:=⟨Go.Proofs.Try.f24,_,hintsH h24.body,Go.Proofs.Try.func24,by kernel_rfl,rfl,by decide,by decide,by kernel_rfl,by kernel_rfl⟩
theorem yq9:OkH1 Go.Proofs.Try.prog 25 h25:=⟨Go.Proofs.Try.f25,_,hintsH h25.body,Go.Proofs.Try.func25,by kernel_rfl,rfl,by decide,by decide,by kernel_rfl,by kernel_rfl⟩
theorem yra:OkH1 Go.Proofs.Try.prog 26 h26:=⟨Go.Proofs.Try.f26,_,hintsH h26.body,Go.Proofs.Try.func26,by kernel_rfl,rfl,by decide,by decide,by kernel_rfl,by kernel_rfl⟩
theorem yrb:OkH1 Go.Proofs.Try.prog 27 h27:=⟨Go.Proofs.Try.f27,_,hintsH h27.body,Go.Proofs.Try.func27,by kernel_rfl,rfl,by decide,by decide,by kernel_rfl,by kernel_rfl⟩
theorem yrc:OkH1 Go.Proofs.Try.prog 28 h28:=⟨Go.Proofs.Try.f28,_,hintsH h28.body,Go.Proofs.Try.func28,by kernel_rfl,rfl,by decide,by decide,by kernel_rfl,by kernel_rfl⟩
theorem yrd:OkH1 Go.Proofs.Try.prog 29 h29:=⟨Go.Proofs.Try.f29,_,hintsH h29.body,Go.Proofs.Try.func29,by kernel_rfl,rfl,by decide,by decide,by kernel_rfl,by kernel_rfl⟩
theorem yre:OkH1 Go.Proofs.Try.prog 30 h30:=⟨Go.Proofs.Try.f30,_,hintsH h30.body,Go.Proofs.Try.func30,by kernel_rfl,rfl,by decide,by decide,by kernel_rfl,by kernel_rfl⟩
theorem yrf:OkH1 Go.Proofs.Try.prog 31 h31:=⟨Go.Proofs.Try.f31,_,hintsH h31.body,Go.Proofs.Try.func31,by kernel_rfl,rfl,by decide,by decide,by kernel_rfl,by kernel_rfl⟩
theorem yrg:OkH1 Go.Proofs.Try.prog 32 h32:=⟨Go.Proofs.Try.f32,_,hintsH h32.body,Go.Proofs.Try.func32,by kernel_rfl,rfl,by decide,by decide,by kernel_rfl,by kernel_rfl⟩
theorem yrh:OkH1 Go.Proofs.Try.prog 35 h35:=⟨Go.Proofs.Try.f35,_,hintsH h35.body,Go.Proofs.Try.func35,by kernel_rfl,rfl,by decide,by decide,by kernel_rfl,by kernel_rfl⟩
theorem yri:OkH1 Go.Proofs.Try.prog 64 h64:=⟨Go.Proofs.Try.f64,_,hintsH h64.body,Go.Proofs.Try.func64,by kernel_rfl,rfl,by decide,by decide,by kernel_rfl,by kernel_rfl⟩
theorem yrj:OkH1 Go.Proofs.Try.prog 65 h65:=⟨Go.Proofs.Try.f65,_,hintsH h65.body,Go.Proofs.Try.func65,by kernel_rfl,rfl,by decide,by decide,by kernel_rfl,by kernel_rfl⟩
theorem yrk:OkH1 Go.Proofs.Try.prog 66 h66:=⟨Go.Proofs.Try.f66,_,hintsH h66.body,Go.Proofs.Try.func66,by kernel_rfl,rfl,by decide,by decide,by kernel_rfl,by kernel_rfl⟩
theorem yrl:OkH1 Go.Proofs.Try.prog 67 h67:=⟨Go.Proofs.Try.f67,_,hintsH h67.body,Go.Proofs.Try.func67,by kernel_rfl,rfl,by decide,by decide,by kernel_rfl,by kernel_rfl⟩
theorem yrm:OkH1 Go.Proofs.Try.prog 68 h68:=⟨Go.Proofs.Try.f68,_,hintsH h68.body,Go.Proofs.Try.func68,by kernel_rfl,rfl,by decide,by decide,by kernel_rfl,by kernel_rfl⟩
theorem yrn:OkH1 Go.Proofs.Try.prog 69 h69:=⟨Go.Proofs.Try.f69,_,hintsH h69.body,Go.Proofs.Try.func69,by kernel_rfl,rfl,by decide,by decide,by kernel_rfl,by kernel_rfl⟩
theorem yro:OkH1 Go.Proofs.Try.prog 70 h70:=⟨Go.Proofs.Try.f70,_,hintsH h70.body,Go.Proofs.Try.func70,by kernel_rfl,rfl,by decide,by decide,by kernel_rfl,by kernel_rfl⟩
theorem yrp:OkH1 Go.Proofs.Try.prog 71 h71:=⟨Go.Proofs.Try.f71,_,hintsH h71.body,Go.Proofs.Try.func71,by kernel_rfl,rfl,by decide,by decide,by kernel_rfl,by kernel_rfl⟩
theorem yrq:OkH1 Go.Proofs.Try.prog 72 h72:=⟨Go.Proofs.Try.f72,_,hintsH h72.body,Go.Proofs.Try.func72,by kernel_rfl,rfl,by decide,by decide,by kernel_rfl,by kernel_rfl⟩
theorem yrr:OkH1 Go.Proofs.Try.prog 73 h73:=⟨Go.Proofs.Try.f73,_,hintsH h73.body,Go.Proofs.Try.func73,by kernel_rfl,rfl,by decide,by decide,by kernel_rfl,by kernel_rfl⟩
theorem yrs:OkH1 Go.Proofs.Try.prog 74 h74:=⟨Go.Proofs.Try.f74,_,hintsH h74.body,Go.Proofs.Try.func74,by kernel_rfl,rfl,by decide,by decide,by kernel_rfl,by kernel_rfl⟩
theorem yrt:OkH1 Go.Proofs.Try.prog 75 h75:=⟨Go.Proofs.Try.f75,_,hintsH h75.body,Go.Proofs.Try.func75,by kernel_rfl,rfl,by decide,by decide,by kernel_rfl,by kernel_rfl⟩
theorem yru:OkH1 Go.Proofs.Try.prog 76 h76:=⟨Go.Proofs.Try.f76,_,hintsH h76.body,Go.Proofs.Try.func76,by kernel_rfl,rfl,by decide,by decide,by kernel_rfl,by kernel_rfl⟩
theorem yrv:OkH1 Go.Proofs.Try.prog 77 h77:=⟨Go.Proofs.Try.f77,_,hintsH h77.body,Go.Proofs.Try.func77,by kernel_rfl,rfl,by decide,by decide,by kernel_rfl,by kernel_rfl⟩
theorem yrw:OkH1 Go.Proofs.Try.prog 78 h78:=⟨Go.Proofs.Try.f78,_,hintsH h78.body,Go.Proofs.Try.func78,by kernel_rfl,rfl,by decide,by decide,by kernel_rfl,by kernel_rfl⟩
theorem yrx:OkH1 Go.Proofs.Try.prog 79 h79:=⟨Go.Proofs.Try.f79,_,hintsH h79.body,Go.Proofs.Try.func79,by kernel_rfl,rfl,by decide,by decide,by kernel_rfl,by kernel_rfl⟩
theorem yry:OkH1 Go.Proofs.Try.prog 80 h80:=⟨Go.Proofs.Try.f80,_,hintsH h80.body,Go.Proofs.Try.func80,by kernel_rfl,rfl,by decide,by decide,by kernel_rfl,by kernel_rfl⟩
theorem yrz:OkH1 Go.Proofs.Try.prog 81 h81:=⟨Go.Proofs.Try.f81,_,hintsH h81.body,Go.Proofs.Try.func81,by kernel_rfl,rfl,by decide,by decide,by kernel_rfl,by kernel_rfl⟩
theorem yrA:OkH1 Go.Proofs.Try.prog 82 h82:=⟨Go.Proofs.Try.f82,_,hintsH h82.body,Go.Proofs.Try.func82,by kernel_rfl,rfl,by decide,by decide,by kernel_rfl,by kernel_rfl⟩
theorem yrB:OkH1 Go.Proofs.Try.prog 83 h83:=⟨Go.Proofs.Try.f83,_,hintsH h83.body,Go.Proofs.Try.func83,by kernel_rfl,rfl,by decide,by decide,by kernel_rfl,by kernel_rfl⟩
theorem yrC:OkH1 Go.Proofs.Try.prog 84 h84:=⟨Go.Proofs.Try.f84,_,hintsH h84.body,Go.Proofs.Try.func84,by kernel_rfl,rfl,by decide,by decide,by kernel_rfl,by kernel_rfl⟩
theorem yrD:OkH1 Go.Proofs.Try.prog 85 h85:=⟨Go.Proofs.Try.f85,_,hintsH h85.body,Go.Proofs.Try.func85,by kernel_rfl,rfl,by decide,by decide,by kernel_rfl,by kernel_rfl⟩
theorem yrE:OkH1 Go.Proofs.Try.prog 86 h86:=⟨Go.Proofs.Try.f86,_,hintsH h86.body,Go.Proofs.Try.func86,by kernel_rfl,rfl,by decide,by decide,by kernel_rfl,by kernel_rfl⟩
theorem yrF:OkH1 Go.Proofs.Try.prog 97 h97:=⟨Go.Proofs.Try.f97,_,hintsH h97.body,Go.Proofs.Try.func97,by kernel_rfl,rfl,by decide,by decide,by kernel_rfl,by kernel_rfl⟩
theorem yrG:OkH1 Go.Proofs.Try.prog 98 h98:=⟨Go.Proofs.Try.f98,_,hintsH h98.body,Go.Proofs.Try.func98,by kernel_rfl,rfl,by decide,by decide,by kernel_rfl,by kernel_rfl⟩
theorem ypW:OkH1 Go.Proofs.Try.prog 113 h113:=⟨Go.Proofs.Try.f113,_,hintsH h113.body,Go.Proofs.Try.func113,by kernel_rfl,rfl,by decide,by decide,by kernel_rfl,by kernel_rfl⟩
theorem ypX:OkH1 Go.Proofs.Try.prog 114 h114:=⟨Go.Proofs.Try.f114,_,hintsH h114.body,Go.Proofs.Try.func114,by kernel_rfl,rfl,by decide,by decide,by kernel_rfl,by kernel_rfl⟩
theorem ypY:OkH1 Go.Proofs.Try.prog 115 h115:=⟨Go.Proofs.Try.f115,_,hintsH h115.body,Go.Proofs.Try.func115,by kernel_rfl,rfl,by decide,by decide,by kernel_rfl,by kernel_rfl⟩
theorem ypZ:OkH1 Go.Proofs.Try.prog 116 h116:=⟨Go.Proofs.Try.f116,_,hintsH h116.body,Go.Proofs.Try.func116,by kernel_rfl,rfl,by decide,by decide,by kernel_rfl,by kernel_rfl⟩
theorem yp0:OkH1 Go.Proofs.Try.prog 117 h117:=⟨Go.Proofs.Try.f117,_,hintsH h117.body,Go.Proofs.Try.func117,by kernel_rfl,rfl,by decide,by decide,by kernel_rfl,by kernel_rfl⟩
theorem yp1:OkH1 Go.Proofs.Try.prog 120 h120:=⟨Go.Proofs.Try.f120,_,hintsH h120.body,Go.Proofs.Try.func120,by kernel_rfl,rfl,by decide,by decide,by kernel_rfl,by kernel_rfl⟩
theorem yrH:TOkH Go.Proofs.Try.prog TH:=yne (l:=TL) ⟨ysp,yq0,yq1,yq2,yq3,yq4,yq5,yq6,yq7,yq8,yq9,yra,yrb,yrc,yrd,yre,yrf,yrg,yrh,yri,yrj,yrk,yrl,yrm,yrn,yro,yrp,yrq,yrr,yrs,yrt,yru,yrv,yrw,yrx,yry,yrz,yrA,yrB,yrC,yrD,yrE,yrF,yrG,ypW,ypX,ypY,ypZ,yp0,yp1,trivial⟩
open Go
theorem yoZ{o:l26_Op}(h:Rl26_Op o):OkOp o:=by
 obtain⟨_,h2,h3,h4,h5,h6⟩:=h
 have:=h2.u8;have:=h3.u8;have:=h4.u8;have:=h5.u8;have:=h6.u16
 exact⟨by omega,by omega,by omega,by omega,by omega⟩
open Go
theorem km2Ok:HCallOk Go.Proofs.Try.prog (evHI C0 KM2 TH):=ypP yqp tok yrH
theorem spaceMoves(x1:Int)(x2:List l26_Op)(x3:List Int)(x4:Bool)(r1:Rng .u8 x1)(r2:x2.length<140737488355328/\∀y∈x2,Rl26_Op y)(r3:x3.length<140737488355328/\∀y∈x3,Rng .u8 y)(r4:True):∃st',evHI C0 KM2 TH 5 ([PV.int .u8 x1,PV.sl x2.length (x2.flatMap cl26_Op),PV.sl x3.length (x3.flatMap (cint .u8)),PV.bool x4].map .p) []=some (.p (.bool true),st'):=
 yjc r1.u8 x2 (fun o ho=>yoZ (r2.2 o ho)) r2.1 x3 (fun v hv=>by have:=(r3.2 v hv).u8;omega) x4
end Go.Ab
