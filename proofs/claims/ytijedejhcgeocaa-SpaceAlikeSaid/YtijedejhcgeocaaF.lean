/-
  Texts of this seat: lemmas on the way to the statement.
-/
import Derived.Test.YtijedejhcgeocaaE
import Derived.Test.YtijedejhcgeocaaD
namespace Go.Ab
open Go
set_option linter.unusedVariables false
set_option linter.unusedSimpArgs false
set_option maxRecDepth 10000
set_option maxHeartbeats 4000000
variable {K:HCalls}
def zer:Nat→Nat→List Int→List Int
  | _,0,ws=>ws
  | i,k + 1,ws=>zer (i + 1) k (ws.set i 0)
theorem zer_len:∀ (k i:Nat) (ws:List Int),(zer i k ws).length=ws.length
  | 0,_,_=>rfl
  | k + 1,i,ws=>by simp [zer,zer_len k]
theorem set_same {st:HSt} {i:Nat} {x:HB} (h:st[i]? = some x):st.set i x=st:=by
  apply List.ext_getElem?
  intro j
  by_cases hj:i=j
  · subst hj;rw [List.getElem?_set_self (List.getElem?_eq_some_iff.1 h).1,h]
  · rw [List.getElem?_set_ne hj]
def env65 (sp p4 p5 p6 at' n i:Nat):HEnv:=[(0,.ptr sp 0),(4,.ptr p4 0),(5,.ptr p5 0),(6,.ptr p6 0),(8,.p (.int .i64 at')),(31,.p (.int .i64 n)),(32,.p (.int .i64 i))]
theorem loop65 (sp wb p4 p5 p6 at' n:Nat) (hn:n < 1000) :
    ∀ (k i:Nat) (ws:List Int) (s:HSt),n - i=k→i ≤ n→at' + 1 + n ≤ ws.length→ws.length < 140737488355328→SpaceAt s sp wb ws →
      Run C0 K TH (.loop h65l0 [0,4,5,6,8,31,32]) (env65 sp p4 p5 p6 at' n i,s) (.exit 0) ([(4,.ptr p4 0),(5,.ptr p5 0),(6,.ptr p6 0),(8,.p (.int .i64 at'))],s.set wb (.row 1 ws.length ((zer (at' + 1 + i) k ws).map fun n=>.p (.int .i64 n)))):=by
  intro k
  induction k with
  | zero =>
    intro i ws s hk hi hw hb S
    have hlt:¬ i < n:=by omega
    have e1:s.set wb (.row 1 ws.length ((zer (at' + 1 + i) 0 ws).map fun n=>.p (.int .i64 n)))=s:=by rw [zer];exact set_same S.w
    rw [e1]
    refine Run.loopX (Run.of 40 ?_) (by simp)
    simp (config:={ maxSteps:=4000000 }) [↓hs_pre,↓evP_call0',hs_eq,h65l0,env65,hlt]
  | succ k ih =>
    intro i ws s hk hi hw hb S
    have hlt:i < n:=by omega
    have e1:=S.s
    have e2:=S.w
    have w1:=wrN (i:=i) (by omega)
    have hr0:=ih (i + 1)
    rw [zer]
    rw [show at' + 1 + (i + 1)=at' + 1 + i + 1 by omega] at hr0
    obtain ⟨j,hj⟩:∃ j,at' + 1 + i=j:=⟨_,rfl⟩
    rw [hj] at hr0 ⊢
    have w2:IntKind.wrap .i64 ((at':Int) + 1)=(at':Int) + 1:=wrap_id (by omega) (by omega)
    have w3:IntKind.wrap .i64 ((at':Int) + 1 + (i:Int))=(j:Int):=by rw [wrap_id (by omega) (by omega)];omega
    have e3:j < ws.length:=by omega
    have e4:j + 1 ≤ ws.length:=by omega
    have S2:=S.set (ws.set j 0) (by simp)
    have hr:=hr0 (ws.set j 0) _ (by omega) (by omega) (by simpa using hw) (by simpa using hb) S2
    rw [List.set_set,List.length_set] at hr
    have hs:Run C0 K TH h65l0 (env65 sp p4 p5 p6 at' n i,s) .norm (env65 sp p4 p5 p6 at' n (i + 1),s.set wb (wRow (ws.set j 0))):=by
      refine Run.of 40 ?_
      simp (config:={ maxSteps:=4000000 }) [↓hs_pre,↓evP_call0',hs_eq,h65l0,env65,hlt,e1,e2,w1,w2,w3,e3,e4,wRow,List.map_set,List.length_set]
    exact Run.loopN hs hr
theorem e65n (B:KB K) {st:HSt} {sp:Nat} (a:Area) (x:Shape) (h0:-4611686018427387904 ≤ a.Hi - a.Next∧a.Hi - a.Next ≤ 4611686018427387904) (h1:OkSh x) (h:a.Hi - a.Next < 1 + x.Slots) (n:Nat) :
    evHF C0 K TH (n + 40) 65 [.ptr sp 0,hA a,hX x] st =
      some (.p (.tup [.agg [.int .i64 a.Lo,.int .i64 a.Hi,.int .i64 a.Next],.int .i64 0]),st ++ [.box [hI a.Lo,hI a.Hi,hI a.Next],.box [hI x.Slots,hI x.Mask],.box [hI a.Lo,hI a.Hi,hI a.Next]]):=by
  obtain ⟨h2,h3,_⟩:=h1
  have w1:=@wrap64 (a.Hi - a.Next) (by omega)
  have w2:=@wrap64 (1 + x.Slots) (by omega)
  refine evHF_in (n:=n + 39) (B.no 65 rfl) (x:=h65) rfl rfl ?_
  simp (config:={ maxSteps:=4000000 }) [↓hs_pre,↓evP_call0',hs_eq,h65,w1,w2,h]
def mkW (ws:List Int) (at':Nat) (x:Shape):List Int:=zer (at' + 1) x.Slots.toNat (ws.set at' (hdB x))
theorem mkW_len (ws:List Int) (at':Nat) (x:Shape):(mkW ws at' x).length=ws.length:=by simp [mkW,zer_len]
theorem e65 (B:KB K) {st:HSt} {sp wb:Nat} {ws:List Int} (S:SpaceAt st sp wb ws) (hb:ws.length < 140737488355328) (a:Area) (at':Nat) (ha:a.Next=at') (x:Shape) (h0:-4611686018427387904 ≤ a.Hi - a.Next∧a.Hi - a.Next ≤ 4611686018427387904) (h1:OkSh x)
    (h:¬ a.Hi - a.Next < 1 + x.Slots) (hw:at' + 1 + x.Slots.toNat ≤ ws.length) :
    ∃ n0,∀ n,n0 ≤ n→evHF C0 K TH n 65 [.ptr sp 0,hA a,hX x] st =
      some (.p (.tup [.agg [.int .i64 a.Lo,.int .i64 a.Hi,.int .i64 (a.Next + (1 + x.Slots))],.int .i64 a.Next]),st.set wb (wRow (mkW ws at' x)) ++
        [.box [hI a.Lo,hI a.Hi,hI (a.Next + (1 + x.Slots))],.box [hI x.Slots,hI x.Mask],.box [hI a.Lo,hI a.Hi,hI (a.Next + (1 + x.Slots))]]):=by
  have hx:=h1
  obtain ⟨h2,h3,_⟩:=h1
  obtain ⟨xs,xm⟩:=x
  obtain ⟨lo,hi,nx⟩:=a
  simp only at *
  subst ha
  obtain ⟨s,rfl⟩:∃ s:Nat,xs=s:=⟨xs.toNat,by omega⟩
  have w1:=@wrap64 (hi - at') (by omega)
  have w2:=@wrap64 (1 + (s:Int)) (by omega)
  have w3:=@wrap64 ((at':Int) + (1 + s)) (by omega)
  obtain ⟨l1,l2,l3⟩:=S.lt
  have f1:=fun g=>(S.app g).s
  have f2:=fun g=>(S.app g).w
  have f3:∀ (g:HSt) (x:HB),(st ++ g).set wb x=st.set wb x ++ g:=fun g x=>List.set_append_left _ _ l2
  have f4:∀ (x:HB) (g:HSt) (k:Nat),(st.set wb x ++ g)[st.length + k]? = g[k]?:=fun x g k=>by
    have:=getElem?_len (st.set wb x) g k;rwa [List.length_set] at this
  have f4':∀ (x:HB) (g:HSt),(st.set wb x ++ g)[st.length]? = g[0]?:=fun x g=>f4 x g 0
  have f5:∀ (x:HB) (g:HSt) (k:Nat) (y:HB),(st.set wb x ++ g).set (st.length + k) y=st.set wb x ++ g.set k y:=fun x g k y=>by
    have:=set_len (st.set wb x) g k y;rwa [List.length_set] at this
  have f5':∀ (x:HB) (g:HSt) (y:HB),(st.set wb x ++ g).set st.length y=st.set wb x ++ g.set 0 y:=fun x g y=>f5 x g 0 y
  have e3:at' < ws.length:=by omega
  have e4:at' + 1 ≤ ws.length:=by omega
  have S2:=(S.set (ws.set at' (hdB ⟨s,xm⟩)) (by simp)).app [.box [hI lo,hI hi,hI at'],.box [hI s,hI xm],.box [hI 0,hI 0,hI 0]]
  have L:=loop65 (K:=K) sp wb st.length (st.length + 1) (st.length + 2) at' s (by omega) s 0 (ws.set at' (hdB ⟨s,xm⟩)) _ (by omega) (by omega) (by simp;omega) (by simpa using hb) S2
  rw [List.set_append_left _ _ (by simpa using l2),List.set_set,List.length_set] at L
  obtain ⟨n0,hn0⟩:=Run.all L
  simp [env65,wRow,List.map_set] at hn0
  have e7:=fun n st=>k113 B.toKPu hx n st
  refine ⟨n0 + 60,fun n hn=>?_⟩
  refine evHF_mono hn _ _ _ _ (evHF_in (n:=n0 + 59) (B.no 65 rfl) (x:=h65) rfl rfl ?_)
  simp (config:={ maxSteps:=4000000 }) [↓hs_pre,↓evP_call0',hs_eq,h65,w1,w2,w3,f1,f2,f3,f4,f4',f5,f5',h,e7,e3,e4,hn0,wRow,mkW,zer_len,Int.toNat_natCast,List.map_set]
end Go.Ab
namespace Go.Ab
open Go
set_option linter.unusedVariables false
set_option linter.unusedSimpArgs false
set_option maxRecDepth 10000
set_option maxHeartbeats 4000000
noncomputable def levA (K:HCalls) (l:List Nat):HCalls:=fun f ws st=>if l.contains f then evHI C0 K TH f ws st else Option.none
noncomputable def lev (K:HCalls) (l li:List Nat):HCalls:=orK (levA K l) (orK (iceC (evHI C0 K TH) li) K)
theorem lev_none {K:HCalls} {l li:List Nat} {f:Nat} (h:l.contains f=false) (h':li.contains f=false):lev K l li f=K f:=by
  funext ws st
  unfold lev orK levA iceC
  simp only [h,h',Bool.false_eq_true,if_false]
theorem lev_a {K:HCalls} {l li:List Nat} {f:Nat} (h:l.contains f=true) {ws:List HV} {st st':HSt} {r:HV} (n:Nat) (e:evHF C0 K TH n f ws st=some (r,st')):lev K l li f ws st=some (r,st'):=by
  unfold lev orK levA
  simp only [h,if_true,evHI_some.2 ⟨n,e⟩]
theorem lev_i {K:HCalls} {l li:List Nat} {f:Nat} (h:l.contains f=false) (h':li.contains f=true) {ws:List HV} {st st':HSt} {r r':HV} (n:Nat) (e:evHF C0 K TH n f ws st=some (r,st')) (hi:iceV st' (rowsH st' 4 r) 4 r=some r'):lev K l li f ws st=some (r',killD (rowsH st' 4 r) st'):=by
  unfold lev orK levA iceC
  simp only [h,h',Bool.false_eq_true,if_false,if_true,evHI_some.2 ⟨n,e⟩,hi]
theorem lev_ok {P:Program} (hm:P.follows .mixedOrders=true) (hT:TOkH P TH) {K:HCalls} (hK:HCallOk P K) (l li:List Nat):HCallOk P (lev K l li):=by
  have h1:=evHI_sound hm (C0_ok (P:=P)) hK hT
  refine orK_ok (fun f ws st r st' e=>?_) (orK_ok (iceC_ok h1 li) hK)
  unfold levA at e
  split at e
  · exact h1 f ws st r st' e
  · cases e
theorem known_of {K:HCalls} {f:Nat} {ws:List HV} {st st':HSt} {r:HV} (e:K f ws st=some (r,st')) (n:Nat):evHF C0 K TH (n + 1) f ws st=some (r,st'):=by
  rw [evHF_eq,e,oel_some]
theorem allO_p {st:HSt} {D:List Nat} {k:Nat}:∀ {vs:List PV},(∀ v ∈ vs,v.free=true)→allO (rdD st D k) (vs.map HV.p)=some vs
  | [],_=>rfl
  | v :: vs,h=>by
    have e1:rdD st D k (.p v)=some v:=by
      have:=h v (by simp)
      cases k <;> simp [rdD,this]
    have e2:=allO_p (st:=st) (D:=D) (k:=k) (vs:=vs) fun w hw=>h w (List.mem_cons_of_mem _ hw)
    simp only [List.map_cons,allO,e1,e2]
theorem allO_app {α β:Type} {f:α→Option β}:∀ {xs ys:List α} {us vs:List β},allO f xs=some us→allO f ys=some vs→allO f (xs ++ ys)=some (us ++ vs)
  | [],ys,us,vs,h,h'=>by simp only [allO,Option.some.injEq] at h;subst h;exact h'
  | x :: xs,ys,us,vs,h,h'=>by
    simp only [allO] at h
    split at h
    · rename_i a ars ha has
      obtain rfl:=Option.some.inj h
      simp only [List.cons_append,allO,ha,allO_app has h']
    · cases h
theorem rowsV_p {st:HSt} (k:Nat) (v:PV):rowsV st k (.p v)=[]:=by cases k <;> simp [rowsV]
theorem rowsV_ps {st:HSt} (k:Nat):∀ vs:List PV,(vs.map HV.p).flatMap (rowsV st k)=[]
  | []=>rfl
  | v :: vs=>by simp [rowsV_p,rowsV_ps k vs]
theorem rowsH_p {st:HSt} (k:Nat) (v:PV):rowsH st k (.p v)=[]:=by cases k <;> simp [rowsH,rowsV]
theorem killD_app:∀ (D:List Nat) (st g:HSt),(∀ a ∈ D,st.length ≤ a) → ∃ g',killD D (st ++ g)=st ++ g'
  | [],st,g,_=>⟨g,rfl⟩
  | a :: D,st,g,h=>by
    rw [killD,List.set_append_right _ _ (h a (by simp))]
    exact killD_app D st _ fun b hb=>h b (by simp [hb])
theorem rep_free (n:Nat):∀ x ∈ rep n [PV.int .i64 0],PV.free x=true:=by
  induction n with
  | zero=>intro x h;cases h
  | succ n ih =>
    intro x h
    rcases List.mem_append.1 h with h | h
    · simp at h;subst h;rfl
    · exact ih x h
theorem rep_eq (n:Nat):rep n [PV.int .i64 0]=(List.replicate n (0:Int)).flatMap (cint .i64):=by
  induction n with
  | zero=>rfl
  | succ n ih=>rw [List.replicate_succ,List.flatMap_cons,← ih];rfl
theorem rep_len (n:Nat):(rep n [PV.int .i64 0]).length=n:=by
  rw [rep_eq];simp [cint]
theorem cobj_free (l:List r26_Object):∀ v ∈ l.flatMap cr26_Object,v.free=true:=by
  intro v hv
  obtain ⟨o,ho,hv⟩:=List.mem_flatMap.1 hv
  simp only [cr26_Object,List.mem_cons,List.not_mem_nil,or_false] at hv
  rcases hv with rfl | rfl | rfl | rfl <;> rfl
theorem cobj_len (l:List r26_Object):(l.flatMap cr26_Object).length=l.length * 4:=by
  induction l with
  | nil=>rfl
  | cons o l ih=>rw [List.flatMap_cons,List.length_append,ih];simp [cr26_Object];omega
theorem one_ps (vs:List PV) (h:∀ v ∈ vs,v.free=true):∀ c ∈ vs.map HV.p,HV.one c=true:=by
  intro c hc
  obtain ⟨v,hv,rfl⟩:=List.mem_map.1 hc
  have:=h v hv
  cases v <;> simp_all [HV.one,PV.free]
theorem ifP {v:PV} (h:v.free=true) {k:Nat} {st:HSt} {D:List Nat}:rdD st D k (.p v)=some v:=by cases k <;> simp [rdD,h]
variable {K:HCalls}
theorem e114n (hk:∀ ws st,K 114 ws st = .none) {st:HSt} (l:List r26_Object) (a:Area) (x:Shape) (h0:0 ≤ a.Next∧a.Next < 1000000000) (h1:OkSh x) (h:a.Hi < a.Next + 1 + x.Slots) (n:Nat) :
    ∃ g,evHF C0 K TH (n + 40) 114 [hL l,hA a,hX x] st=some (.p (.tup [.sl l.length (l.flatMap cr26_Object),.agg [.int .i64 a.Lo,.int .i64 a.Hi,.int .i64 a.Next],.bool false]),st ++ g):=by
  obtain ⟨h2,h3,_⟩:=h1
  have w1:=@wrap64 (a.Next + 1) (by omega)
  have w2:=@wrap64 (a.Next + 1 + x.Slots) (by omega)
  apply Exists.intro
  refine evHF_in (n:=n + 39) hk (x:=h114) rfl rfl ?_
  simp (config:={ maxSteps:=4000000 }) [↓hs_pre,↓evP_call0',hs_eq,h114,w1,w2,h]
  all_goals exact rfl
theorem e114 (hk:∀ ws st,K 114 ws st = .none) {st:HSt} (l:List r26_Object) (hl:l.length < 100000) (a:Area) (x:Shape) (h0:0 ≤ a.Next∧a.Next < 1000000000) (h1:OkSh x) (h:¬ a.Hi < a.Next + 1 + x.Slots) :
    ∃ g b hs,(∀ n,evHF C0 K TH (n + 60) 114 [hL l,hA a,hX x] st =
      some (.tup [.row b 0 (l.length + 1) 4,.p (.agg [.int .i64 a.Lo,.int .i64 a.Hi,.int .i64 (a.Next + 1 + x.Slots)]),.p (.bool true)],st ++ g))∧st.length ≤ b ∧
      (st ++ g)[b]? = some (.row 4 (l.length + 1) ((l.flatMap cr26_Object).map .p ++ [hI a.Next,hI x.Slots,hI x.Mask,hs])) ∧
      ((x.Slots.toNat=0∧hs = .p (.sl 0 [])) ∨ ∃ p,st.length ≤ p∧0 < x.Slots.toNat∧hs = .row p 0 x.Slots.toNat 1∧(st ++ g)[p]? = some (.row 1 x.Slots.toNat ((rep x.Slots.toNat [.int .i64 0]).map .p))):=by
  obtain ⟨h2,h3,_⟩:=h1
  obtain ⟨xs,xm⟩:=x
  obtain ⟨lo,hi,nx⟩:=a
  simp only at *
  obtain ⟨s,rfl⟩:∃ s:Nat,xs=s:=⟨xs.toNat,by omega⟩
  have w1:=@wrap64 (nx + 1) (by omega)
  have w2:=@wrap64 (nx + 1 + s) (by omega)
  have n1:s * 8 ≤ 1099511627776:=by omega
  have n2:s ≤ 1099511627776:=by omega
  have n4:(rep s [PV.int .i64 0]).all PV.free=true:=List.all_eq_true.2 (rep_free s)
  have n5:(∀ x ∈ rep s [PV.int .i64 0],PV.free x=true)=True:=eq_true (rep_free s)
  simp only [Int.toNat_natCast]
  have c6:(l.flatMap cr26_Object).length=l.length * 4:=cobj_len l
  obtain ⟨k,hk1⟩:∃ k,l.length=k:=⟨_,rfl⟩
  obtain ⟨ocs,ho⟩:∃ ocs,l.flatMap cr26_Object=ocs:=⟨_,rfl⟩
  have o5:=one_ps _ (cobj_free l)
  rw [ho] at c6 o5
  rw [hk1] at c6 hl
  simp only [hL]
  rw [hk1,ho]
  have o6:(∀ x ∈ ocs,HV.one (.p x)=true)=True:=eq_true fun x hx=>o5 _ (List.mem_map.2 ⟨x,hx,rfl⟩)
  have o7:(∀ x ∈ ocs,PV.free x=true)=True:=eq_true fun x hx=>cobj_free l x (by rw [ho];exact hx)
  have c1:k * 48 ≤ 1099511627776:=by omega
  have c2:k ≤ 1099511627776:=by omega
  have c3:(k + 1) * 48 ≤ 1099511627776:=by omega
  have c4:k + 1 ≤ 1099511627776:=by omega
  have c7:(k * 4=ocs.length)=True:=eq_true c6.symm
  have c9:k * 4 ≤ ocs.length:=by omega
  have c8:(ocs.map HV.p).take (k * 4)=ocs.map HV.p:=List.take_of_length_le (by simp;omega)
  by_cases hk0:k=0
  · subst hk0
    have:ocs=[]:=List.eq_nil_of_length_eq_zero (by omega)
    subst this
    by_cases hs:s=0
    · have hs':(s=0)=True:=eq_true hs
      apply Exists.intro
      apply Exists.intro
      apply Exists.intro
      refine ⟨fun n=>evHF_in (n:=n + 59) hk (x:=h114) rfl rfl ?_,?_,?_,?_⟩
      · simp (config:={ maxSteps:=4000000 }) [↓hs_pre,↓evP_call0',hs_eq,h114,w1,w2,h,hs',n1,n2]
        all_goals exact ⟨rfl,rfl⟩
      · omega
      · rw [getElem?_len];rfl
      · exact .inl ⟨hs,rfl⟩
    · have hs':(s=0)=False:=eq_false hs
      apply Exists.intro
      apply Exists.intro
      apply Exists.intro
      refine ⟨fun n=>evHF_in (n:=n + 59) hk (x:=h114) rfl rfl ?_,?_,?_,?_⟩
      · simp (config:={ maxSteps:=4000000 }) [↓hs_pre,↓evP_call0',hs_eq,h114,w1,w2,h,hs',n1,n2,n4,n5]
        all_goals exact ⟨rfl,rfl⟩
      · omega
      · rw [getElem?_len];rfl
      · exact .inr ⟨_,by omega,by omega,rfl,by rw [getElem?_len];rfl⟩
  · have hk0':0 < k:=by omega
    by_cases hs:s=0
    · have hs':(s=0)=True:=eq_true hs
      apply Exists.intro
      apply Exists.intro
      apply Exists.intro
      refine ⟨fun n=>evHF_in (n:=n + 59) hk (x:=h114) rfl rfl ?_,?_,?_,?_⟩
      · simp (config:={ maxSteps:=4000000 }) [↓hs_pre,↓evP_call0',hs_eq,h114,w1,w2,h,hs',n1,n2,c1,c2,c3,c4,c6,c7,c8,c9,hk0,hk0',o6,o7]
        all_goals exact ⟨rfl,rfl⟩
      · omega
      · rw [getElem?_len];rfl
      · exact .inl ⟨hs,rfl⟩
    · have hs':(s=0)=False:=eq_false hs
      apply Exists.intro
      apply Exists.intro
      apply Exists.intro
      refine ⟨fun n=>evHF_in (n:=n + 59) hk (x:=h114) rfl rfl ?_,?_,?_,?_⟩
      · simp (config:={ maxSteps:=4000000 }) [↓hs_pre,↓evP_call0',hs_eq,h114,w1,w2,h,hs',n1,n2,n4,n5,c1,c2,c3,c4,c6,c7,c8,c9,hk0,hk0',o6,o7]
        all_goals exact ⟨rfl,rfl⟩
      · omega
      · rw [getElem?_len];rfl
      · exact .inr ⟨_,by omega,by omega,rfl,by rw [getElem?_len];rfl⟩
end Go.Ab
namespace Go.Ab
open Go
set_option linter.unusedVariables false
set_option linter.unusedSimpArgs false
set_option maxRecDepth 10000
set_option maxHeartbeats 4000000
theorem rdD_row {st:HSt} {D:List Nat} {k a off len sz n:Nat} {cs:List HV} {vs:List PV} (hD:D.contains a=true) (h:st[a]? = some (.row sz n cs)) (hle:off + len * sz ≤ cs.length) (hv:allO (rdD st D k) ((cs.drop off).take (len * sz))=some vs) :
    rdD st D (k + 1) (.row a off len sz)=some (.sl len vs):=by
  simp only [rdD,hD,if_true,h,hle,and_self,hv,Option.map_some]
theorem rowsV_row {st:HSt} {k a off len sz n:Nat} {cs:List HV} (h:st[a]? = some (.row sz n cs)):rowsV st (k + 1) (.row a off len sz)=a :: ((cs.drop off).take (len * sz)).flatMap (rowsV st k):=by
  simp only [rowsV,h]
def newO (a:Area) (x:Shape):r26_Object:=⟨a.Next,x,List.replicate x.Slots.toNat 0⟩
variable {K:HCalls}
theorem i114 {l li:List Nat} (h1:l.contains 114=false) (h2:li.contains 114=true) (hk:∀ ws st,K 114 ws st = .none) (os:List r26_Object) (hl:os.length < 100000) (a:Area) (x:Shape) (h0:0 ≤ a.Next∧a.Next < 1000000000) (hx:OkSh x) (h:¬ a.Hi < a.Next + 1 + x.Slots) (st:HSt) :
    ∃ g,lev K l li 114 [hL os,hA a,hX x] st=some (.p (.tup [.sl (os ++ [newO a x]).length ((os ++ [newO a x]).flatMap cr26_Object),.agg [.int .i64 a.Lo,.int .i64 a.Hi,.int .i64 (a.Next + 1 + x.Slots)],.bool true]),st ++ g):=by
  obtain ⟨g,b,hs,e1,hb,e2,e3⟩:=e114 (K:=K) hk (st:=st) os hl a x h0 hx h
  have hc:=cobj_len os
  have e2':rowsV (st ++ g) 3 (.row b 0 (os.length + 1) 4)=b :: rowsV (st ++ g) 2 hs:=by
    rw [rowsV_row e2,List.drop_zero,List.take_of_length_le (by simp [hc];omega),List.flatMap_append,rowsV_ps]
    simp [rowsV_p]
  have e4:rowsH (st ++ g) 4 (.tup [.row b 0 (os.length + 1) 4,.p (.agg [.int .i64 a.Lo,.int .i64 a.Hi,.int .i64 (a.Next + 1 + x.Slots)]),.p (.bool true)])=b :: rowsV (st ++ g) 2 hs:=by
    simp only [rowsH,List.flatMap_cons,List.flatMap_nil,rowsV_p,List.append_nil,e2']
  have e5:∀ c ∈ b :: rowsV (st ++ g) 2 hs,st.length ≤ c:=by
    intro c hc
    rcases List.mem_cons.1 hc with rfl | hc
    · exact hb
    · rcases e3 with ⟨_,rfl⟩ | ⟨p,hp,_,rfl,e6⟩
      · simp [rowsV_p] at hc
      · rw [rowsV_row e6,List.drop_zero] at hc
        rcases List.mem_cons.1 hc with rfl | hc
        · exact hp
        · rw [← List.map_take,rowsV_ps] at hc;cases hc
  have e7:rdD (st ++ g) (b :: rowsV (st ++ g) 2 hs) 3 hs=some (.sl x.Slots.toNat ((List.replicate x.Slots.toNat (0:Int)).flatMap (cint .i64))):=by
    rcases e3 with ⟨h3,rfl⟩ | ⟨p,hp,_,rfl,e6⟩
    · rw [h3];rfl
    · rw [← rep_eq]
      refine rdD_row (by rw [rowsV_row e6];simp) e6 (by simp [rep_len]) ?_
      rw [List.drop_zero,List.take_of_length_le (by simp [rep_len])]
      exact allO_p (rep_free _)
  obtain ⟨g',e8⟩:=killD_app _ st g e5
  refine ⟨g',?_⟩
  have e9:rdD (st ++ g) (b :: rowsV (st ++ g) 2 hs) 4 (.row b 0 (os.length + 1) 4)=some (.sl (os ++ [newO a x]).length ((os ++ [newO a x]).flatMap cr26_Object)):=by
    rw [List.length_append,List.flatMap_append]
    refine rdD_row (by simp) e2 (by simp [hc];omega) ?_
    rw [List.drop_zero,List.take_of_length_le (by simp [hc];omega)]
    refine allO_app (allO_p (cobj_free os)) ?_
    simp only [allO,ifP (show PV.free (.int .i64 a.Next)=true from rfl),ifP (show PV.free (.int .i64 x.Slots)=true from rfl),ifP (show PV.free (.int .i64 x.Mask)=true from rfl),e7]
    simp [newO,cr26_Object]
  have:=lev_i h1 h2 60 (e1 0) (r':=.p (.tup [.sl (os ++ [newO a x]).length ((os ++ [newO a x]).flatMap cr26_Object),.agg [.int .i64 a.Lo,.int .i64 a.Hi,.int .i64 (a.Next + 1 + x.Slots)],.bool true])) (by
    rw [e4]
    simp only [iceV,allO,e9,Option.map_some]
    rfl)
  rw [this,e4,e8]
theorem i114n {l li:List Nat} (h1:l.contains 114=false) (h2:li.contains 114=true) (hk:∀ ws st,K 114 ws st = .none) (os:List r26_Object) (a:Area) (x:Shape) (h0:0 ≤ a.Next∧a.Next < 1000000000) (hx:OkSh x) (h:a.Hi < a.Next + 1 + x.Slots) (st:HSt) :
    ∃ g,lev K l li 114 [hL os,hA a,hX x] st=some (.p (.tup [.sl os.length (os.flatMap cr26_Object),.agg [.int .i64 a.Lo,.int .i64 a.Hi,.int .i64 a.Next],.bool false]),st ++ g):=by
  obtain ⟨g,e⟩:=e114n (K:=K) hk (st:=st) os a x h0 hx h 0
  exact ⟨g,lev_i h1 h2 40 e (by rw [rowsH_p];rfl)⟩
theorem wrl1:IntKind.i64.wrap 1=1:=by decide
theorem wrl2:IntKind.i64.wrap 2=2:=by decide
theorem wrl3:IntKind.i64.wrap 3=3:=by decide
theorem e64 (B:KB K) (n:Nat) (a b c:Int) (st:HSt) (h:0 ≤ a∧a ≤ 2000000∧0 ≤ b∧b ≤ 2000000∧0 ≤ c∧c ≤ 2000000) :
    ∃ g,evHF C0 K TH (n + 40) 64 [.row st.length 0 3 1] (st ++ [.row 1 3 [hI a,hI b,hI c]])=some (.tup [.ptr (st.length + 8) 0,.row (st.length + 6) 0 3 3],st ++ g)∧g.length=9 ∧
      g[6]? = some (.row 3 3 [hI 1,hI (1 + a),hI 1,hI (1 + a),hI (1 + a + b),hI (1 + a),hI (1 + a + b),hI (1 + a + b + c),hI (1 + a + b)]) ∧
      g[7]? = some (wRow (List.replicate (1 + a + b + c).toNat 0))∧g[8]? = some (.box [.row (st.length + 7) 0 (1 + a + b + c).toNat 1]):=by
  have w1:=@wrap64 (1 + a) (by omega)
  have w2:=@wrap64 (1 + a + b) (by omega)
  obtain ⟨N,hN⟩:∃ N:Nat,1 + a + b + c=(N:Int):=⟨(1 + a + b + c).toNat,by omega⟩
  have w3:IntKind.i64.wrap (1 + a + b + c)=(N:Int):=by rw [wrap64 (by omega),hN]
  have n1:N * 8 ≤ 1099511627776:=by omega
  have n2:N ≤ 1099511627776:=by omega
  have n3:N ≠ 0:=by omega
  have n4:(rep N [PV.int .i64 0]).all PV.free=true:=List.all_eq_true.2 (rep_free N)
  have n5:(∀ x ∈ rep N [PV.int .i64 0],PV.free x=true)=True:=eq_true (rep_free N)
  apply Exists.intro
  refine ⟨evHF_in (n:=n + 39) (B.no 64 rfl) (x:=h64) rfl rfl ?_,?_,?_,?_,?_⟩
  · simp (config:={ maxSteps:=4000000 }) [↓hs_pre,↓evP_call0',hs_eq,h64,evHC_loop,w1,w2,w3,n1,n2,n3,n4,n5,wrl1,wrl2,wrl3]
    all_goals exact rfl
  · rfl
  · rw [hN];rfl
  · rw [hN,Int.toNat_natCast]
    refine congrArg some ?_
    simp only [wRow,rep_eq,List.length_replicate]
    congr 1
    simp [List.flatMap,cint]
  · rw [hN,Int.toNat_natCast];rfl
end Go.Ab
namespace Go.Ab
open Go
set_option linter.unusedVariables false
set_option linter.unusedSimpArgs false
theorem runL_up {σ ρ:Type} {body:σ→Option (Stp σ ρ)} (N:Nat) (idx:σ→Int) (I:σ→Prop) (Q:ρ→Prop)
    (h:∀ s,I s→0 ≤ idx s→idx s ≤ N→(∃ r,body s=some (.stop r)∧Q r) ∨ ∃ s',body s=some (.next s')∧I s' ∧ idx s' = idx s + 1∧idx s' ≤ N) (s:σ) (hs:I s) (h0:0 ≤ idx s) (h1:idx s ≤ N):∃ r,runL body s=some r∧Q r :=
  runL_inv (fun s=>I s∧0 ≤ idx s∧idx s ≤ N) Q (fun s=>(N - idx s).toNat) (fun s ⟨hI,h0,h1⟩=>by
    rcases h s hI h0 h1 with hr | ⟨s',hb,hI',hi,hN⟩
    · exact .inl hr
    · exact .inr ⟨s',hb,⟨hI',by omega,hN⟩,by omega⟩) s ⟨hs,h0,h1⟩
theorem ix_of_lt {α:Type} {xs:List α} {i:Int} (h0:0 ≤ i) (h1:i < xs.length):∃ x,ix xs i=some x∧xs[i.toNat]? = some x:=by
  have:i.toNat < xs.length:=by omega
  refine ⟨xs[i.toNat],?_,by simp [this]⟩
  simp only [ix,if_pos h0,List.getElem?_eq_getElem this]
theorem wr1 {i:Int} (h0:0 ≤ i) (h1:i < 140737488355328):IntKind.wrap .i64 (i + 1)=i + 1:=wr64 (by omega) (by omega)
theorem drop_step {α:Type} {xs:List α} {i:Nat} {x:α} (h:xs[i]? = some x):xs.drop i=x :: xs.drop (i + 1):=by
  obtain ⟨hl,rfl⟩:=List.getElem?_eq_some_iff.1 h
  rw [List.drop_eq_getElem_cons hl]
end Go.Ab
namespace Go.Ab
open Go
set_option linter.unusedVariables false
set_option linter.unusedSimpArgs false
def inA (a:Area) (p:Int):Bool:=decide (a.Lo ≤ p) && decide (p < a.Next)
theorem inA_iff {a:Area} {p:Int}:inA a p=true ↔ a.Lo ≤ p∧p < a.Next:=by simp [inA]
abbrev Key:=Int × Nat
def keyOf (o:r26_Object):Key:=(o.At,o.Slots.length)
def Chain:Int→List Key→Int→Prop
  | lo,[],hi=>lo=hi
  | lo,k :: r,hi=>k.1=lo∧Chain (lo + 1 + k.2) r hi
theorem Chain.le:∀ {ks:List Key} {lo hi:Int},Chain lo ks hi→lo ≤ hi
  | [],lo,hi,h=>by simp [Chain] at h;omega
  | k :: r,lo,hi,h=>by have:=h.2.le;omega
theorem Chain.mem:∀ {ks:List Key} {lo hi:Int},Chain lo ks hi → ∀ k ∈ ks,lo ≤ k.1∧k.1 + 1 + k.2 ≤ hi
  | k :: r,lo,hi,h,j,hj=>by
    have h2:=h.2.le
    rcases List.mem_cons.1 hj with rfl | hj
    · exact ⟨by rw [h.1];omega,by rw [h.1];omega⟩
    · have:=h.2.mem j hj
      omega
theorem Chain.app:∀ {ks:List Key} {lo hi:Int} {k:Key},Chain lo ks hi→k.1=hi→Chain lo (ks ++ [k]) (hi + 1 + k.2)
  | [],lo,hi,k,h,e=>by simp only [Chain] at h;subst h;exact ⟨e,rfl⟩
  | j :: r,lo,hi,k,h,e=>⟨h.1,h.2.app e⟩
abbrev Apart (k k':Key):Prop:=k.1 + 1 + k.2 ≤ k'.1 ∨ k'.1 + 1 + k'.2 ≤ k.1
structure Lay (ks:List Key) (As:List Area):Prop where
  ord:∀ a ∈ As,0 < a.Lo∧a.Lo ≤ a.Next∧a.Next ≤ a.Hi
  chain:∀ a ∈ As,Chain a.Lo (ks.filter fun k=>inA a k.1) a.Next
  cover:∀ k ∈ ks,∃ a ∈ As,inA a k.1=true
  dis:As.Pairwise fun a b=>a.Hi ≤ b.Lo ∨ b.Hi ≤ a.Lo
  apart:ks.Pairwise Apart
theorem Lay.ext {ks:List Key} {As:List Area} (H:Lay ks As) {a:Area} (ha:a ∈ As) {k:Key} (hk:k ∈ ks) (h:inA a k.1=true):a.Lo ≤ k.1∧k.1 + 1 + k.2 ≤ a.Next :=
  (H.chain a ha).mem k (List.mem_filter.2 ⟨hk,h⟩)
theorem Lay.pos {ks:List Key} {As:List Area} (H:Lay ks As) {k:Key} (hk:k ∈ ks):0 < k.1:=by
  obtain ⟨a,ha,h⟩:=H.cover k hk
  have:=H.ord a ha
  have:=H.ext ha hk h
  omega
theorem apart_get {ks:List Key} (h:ks.Pairwise Apart) {i j:Nat} {k k':Key} (hi:ks[i]? = some k) (hj:ks[j]? = some k') (hn:i ≠ j):Apart k k':=by
  obtain ⟨h1,rfl⟩:=List.getElem?_eq_some_iff.1 hi
  obtain ⟨h2,rfl⟩:=List.getElem?_eq_some_iff.1 hj
  rcases Nat.lt_or_gt_of_ne hn with h3 | h3
  · exact List.pairwise_iff_getElem.1 h i j h1 h2 h3
  · exact (List.pairwise_iff_getElem.1 h j i h2 h1 h3).symm
theorem apart_idx {ks:List Key} (h:ks.Pairwise Apart) {i j:Nat} {k k':Key} (hi:ks[i]? = some k) (hj:ks[j]? = some k') (e:k.1=k'.1):i=j:=by
  apply Classical.byContradiction
  intro hn
  have:=apart_get h hi hj hn
  simp only [Apart] at this
  omega
theorem pairwise_snoc {α:Type} {R:α→α→Prop} {l:List α} {x:α} (h:l.Pairwise R) (hx:∀ y ∈ l,R y x):(l ++ [x]).Pairwise R:=by
  rw [List.pairwise_append]
  exact ⟨h,by simp,fun y hy z hz=>by rw [List.mem_singleton] at hz;subst hz;exact hx y hy⟩
theorem Lay.make {ks:List Key} {As:List Area} (H:Lay ks As) {i:Nat} {a:Area} (ha:As[i]? = some a) (n:Nat) (h:a.Next + 1 + n ≤ a.Hi) :
    Lay (ks ++ [(a.Next,n)]) (As.set i ⟨a.Lo,a.Hi,a.Next + 1 + n⟩):=by
  have ham:a ∈ As:=List.mem_of_getElem? ha
  obtain ⟨hil,hia⟩:=List.getElem?_eq_some_iff.1 ha
  have ho:=H.ord a ham
  have mem:∀ b ∈ As.set i ⟨a.Lo,a.Hi,a.Next + 1 + n⟩,b=⟨a.Lo,a.Hi,a.Next + 1 + n⟩ ∨ (∃ j,j ≠ i∧As[j]? = some b):=fun b hb=>by
    obtain ⟨j,hj⟩:=List.getElem?_of_mem hb
    by_cases e:i=j
    · subst e;rw [List.getElem?_set_self hil] at hj;left;simpa using hj.symm
    · rw [List.getElem?_set_ne e] at hj;exact .inr ⟨j,fun h=>e h.symm,hj⟩
  have sep:∀ b j,j ≠ i→As[j]? = some b→a.Hi ≤ b.Lo ∨ b.Hi ≤ a.Lo:=fun b j hj hb=>by
    obtain ⟨h1,rfl⟩:=List.getElem?_eq_some_iff.1 hb
    subst hia
    rcases Nat.lt_or_gt_of_ne hj with h3 | h3
    · exact (List.pairwise_iff_getElem.1 H.dis j i h1 hil h3).symm
    · exact List.pairwise_iff_getElem.1 H.dis i j hil h1 h3
  have old:∀ k ∈ ks,(k.1 + 1 + k.2 ≤ a.Next∧a.Lo ≤ k.1) ∨ k.1 + 1 + k.2 ≤ a.Lo ∨ a.Hi ≤ k.1:=fun k hk=>by
    obtain ⟨b,hb,hin⟩:=H.cover k hk
    have he:=H.ext hb hk hin
    have hob:=H.ord b hb
    obtain ⟨j,hj⟩:=List.getElem?_of_mem hb
    by_cases e:j=i
    · subst e;rw [ha] at hj;cases hj;left;omega
    · right;have:=sep b j e hj;omega
  have fa:(ks ++ [(a.Next,n)]).filter (fun k=>inA ⟨a.Lo,a.Hi,a.Next + 1 + n⟩ k.1)=ks.filter (fun k=>inA a k.1) ++ [(a.Next,n)]:=by
    rw [List.filter_append]
    congr 1
    · apply List.filter_congr
      intro k hk
      have:=old k hk
      simp only [inA]
      rw [Bool.eq_iff_iff]
      simp
      omega
    · rw [List.filter_cons_of_pos]
      · rfl
      · rw [inA_iff];simp only;omega
  refine ⟨fun b hb=>?_,fun b hb=>?_,fun k hk=>?_,?_,?_⟩
  · rcases mem b hb with rfl | ⟨j,hj,hb⟩
    · exact ⟨ho.1,by simp only;omega,by simp only;omega⟩
    · exact H.ord b (List.mem_of_getElem? hb)
  · rcases mem b hb with rfl | ⟨j,hj,hb⟩
    · rw [fa];exact (H.chain a ham).app rfl
    · have hbm:=List.mem_of_getElem? hb
      have:=H.chain b hbm
      have hob:=H.ord b hbm
      rw [List.filter_append,List.filter_cons_of_neg,List.filter_nil,List.append_nil]
      · exact this
      · have:=sep b j hj hb
        rw [inA_iff];simp only;omega
  · rcases List.mem_append.1 hk with hk | hk
    · obtain ⟨b,hb,hin⟩:=H.cover k hk
      obtain ⟨j,hj⟩:=List.getElem?_of_mem hb
      by_cases e:j=i
      · subst e
        rw [ha] at hj;cases hj
        refine ⟨⟨a.Lo,a.Hi,a.Next + 1 + n⟩,List.mem_set hil _,?_⟩
        rw [inA_iff] at hin ⊢;simp only;omega
      · exact ⟨b,List.mem_of_getElem? (i:=j) (by rw [List.getElem?_set_ne (fun h=>e h.symm)];exact hj),hin⟩
    · simp at hk;subst hk
      refine ⟨⟨a.Lo,a.Hi,a.Next + 1 + n⟩,List.mem_set hil _,?_⟩
      rw [inA_iff];simp only;omega
  · rw [List.pairwise_iff_getElem]
    intro p q hp hq hpq
    simp only [List.length_set] at hp hq
    rw [List.getElem_set,List.getElem_set]
    have:=List.pairwise_iff_getElem.1 H.dis p q hp hq hpq
    by_cases e1:i=p
    · subst e1;rw [if_pos rfl,if_neg (by omega)];rw [hia] at this;exact this
    · by_cases e2:i=q
      · subst e2;rw [if_neg e1,if_pos rfl];rw [hia] at this;exact this
      · rw [if_neg e1,if_neg e2];exact this
  · refine pairwise_snoc H.apart fun k hk=>?_
    have:=old k hk
    simp only [Apart]
    omega
structure ObjOk (ws:List Int) (o:r26_Object):Prop where
  sh:OkSh o.Shape
  len:(o.Slots.length:Int)=o.Shape.Slots
  hd:ws[o.At.toNat]? = some (hdB o.Shape)
  sl:∀ (i:Nat) (v:Int),o.Slots[i]? = some v→ws[o.At.toNat + 1 + i]? = some v
def PtrOk (L:List r26_Object) (o:r26_Object):Prop:=∀ (i:Nat) (v:Int),o.Slots[i]? = some v→ptB o.Shape i=true→v=0 ∨ ∃ o' ∈ L,o'.At=v
structure Spc (ws:List Int) (As:List Area) (L:List r26_Object):Prop where
  lay:Lay (L.map keyOf) As
  ok:∀ o ∈ L,ObjOk ws o
  ptr:∀ o ∈ L,PtrOk L o
  wsl:∀ a ∈ As,a.Hi ≤ ws.length
theorem zer_get:∀ (k i:Nat) (ws:List Int) (j:Nat),(zer i k ws)[j]? = if i ≤ j∧j < i + k∧j < ws.length then some 0 else ws[j]?
  | 0,i,ws,j=>by rw [if_neg (by omega)];rfl
  | k + 1,i,ws,j=>by
    rw [zer,zer_get k (i + 1)]
    rw [List.length_set]
    by_cases h1:i + 1 ≤ j∧j < i + 1 + k∧j < ws.length
    · rw [if_pos h1,if_pos (by omega)]
    · rw [if_neg h1,List.getElem?_set]
      by_cases h2:i=j
      · subst h2
        by_cases h3:i < ws.length
        · rw [if_pos rfl,if_pos h3,if_pos (by omega)]
        · rw [if_pos rfl,if_neg h3,if_neg (by omega)];exact (List.getElem?_eq_none (by omega)).symm
      · rw [if_neg h2]
        by_cases h3:i ≤ j∧j < i + (k + 1)∧j < ws.length
        · omega
        · rw [if_neg h3]
theorem mkW_get (ws:List Int) (at':Nat) (x:Shape) (j:Nat) (h:at' + 1 + x.Slots.toNat ≤ ws.length):(mkW ws at' x)[j]? = if j=at' then some (hdB x) else if at' < j∧j < at' + 1 + x.Slots.toNat then some 0 else ws[j]?:=by
  rw [mkW,zer_get,List.length_set,List.getElem?_set]
  by_cases h1:j=at'
  · subst h1;rw [if_neg (by omega),if_pos rfl,if_pos rfl,if_pos (by omega)]
  · rw [if_neg h1]
    by_cases h2:at' < j∧j < at' + 1 + x.Slots.toNat
    · rw [if_pos (by omega),if_pos h2]
    · rw [if_neg (by omega),if_neg h2,if_neg (by omega)]
theorem ObjOk.ext {ws ws':List Int} {o:r26_Object} (h:ObjOk ws o) (h0:0 ≤ o.At) (he:∀ j:Nat,o.At ≤ j→(j:Int) < o.At + 1 + o.Slots.length→ws'[j]? = ws[j]?):ObjOk ws' o :=
  ⟨h.sh,h.len,by rw [he _ (by omega) (by omega)];exact h.hd,fun i v hv=>by
    have:i < o.Slots.length:=(List.getElem?_eq_some_iff.1 hv).1
    rw [he _ (by omega) (by omega)];exact h.sl i v hv⟩
theorem Spc.make {ws:List Int} {As:List Area} {L:List r26_Object} (H:Spc ws As L) {i:Nat} {a:Area} (ha:As[i]? = some a) {x:Shape} (hx:OkSh x) (h:a.Next + 1 + x.Slots ≤ a.Hi) :
    Spc (mkW ws a.Next.toNat x) (As.set i ⟨a.Lo,a.Hi,a.Next + 1 + x.Slots⟩) (L ++ [newO a x]):=by
  have ham:a ∈ As:=List.mem_of_getElem? ha
  have ho:=H.lay.ord a ham
  have hw:=H.wsl a ham
  have hx0:=hx.1
  have hlen:(List.replicate x.Slots.toNat (0:Int)).length=x.Slots.toNat:=by simp
  have hlay:=H.lay.make ha x.Slots.toNat (by omega)
  have e1:(L ++ [newO a x]).map keyOf=L.map keyOf ++ [(a.Next,x.Slots.toNat)]:=by simp [keyOf,newO]
  rw [← e1,show (x.Slots.toNat:Int)=x.Slots by omega] at hlay
  have hap:=hlay.apart
  rw [e1,List.pairwise_append] at hap
  refine ⟨hlay,fun o hm=>?_,fun o hm=>?_,fun b hb=>?_⟩
  · rcases List.mem_append.1 hm with hm | hm
    · have hk:keyOf o ∈ L.map keyOf:=List.mem_map.2 ⟨o,hm,rfl⟩
      have h0:=H.lay.pos hk
      have ha2:=hap.2.2 _ hk _ (List.mem_singleton.2 rfl)
      simp only [Apart,keyOf] at ha2 h0
      refine (H.ok o hm).ext (by omega) fun j h1 h2=>?_
      rw [mkW_get _ _ _ _ (by omega),if_neg (by omega),if_neg (by omega)]
    · rw [List.mem_singleton] at hm;subst hm
      refine ⟨hx,by simp [newO];omega,?_,fun k v hv=>?_⟩
      · rw [mkW_get _ _ _ _ (by omega)];simp [newO]
      · simp only [newO,List.getElem?_replicate] at hv ⊢
        split at hv
        · rename_i hk
          cases hv
          rw [mkW_get _ _ _ _ (by omega),if_neg (by omega),if_pos (by omega)]
        · cases hv
  · rcases List.mem_append.1 hm with hm | hm
    · intro k v hv hp
      rcases H.ptr o hm k v hv hp with h1 | ⟨o',h1,h2⟩
      · exact .inl h1
      · exact .inr ⟨o',List.mem_append_left _ h1,h2⟩
    · rw [List.mem_singleton] at hm;subst hm
      intro k v hv hp
      simp only [newO,List.getElem?_replicate] at hv
      split at hv
      · cases hv;exact .inl rfl
      · cases hv
  · rw [mkW_len]
    obtain ⟨j,hj⟩:=List.getElem?_of_mem hb
    by_cases e:i=j
    · subst e
      rw [List.getElem?_set_self (List.getElem?_eq_some_iff.1 ha).1] at hj
      cases hj;exact hw
    · rw [List.getElem?_set_ne e] at hj;exact H.wsl b (List.mem_of_getElem? hj)
theorem Spc.store {ws:List Int} {As:List Area} {L:List r26_Object} (H:Spc ws As L) {i:Nat} {o:r26_Object} (ho:L[i]? = some o) {s:Nat} (hs:s < o.Slots.length) {v:Int} (hv:ptB o.Shape s=true→v=0 ∨ ∃ o' ∈ L,o'.At=v) :
    Spc (ws.set (o.At.toNat + 1 + s) v) As (L.set i ⟨o.At,o.Shape,o.Slots.set s v⟩):=by
  obtain ⟨hil,hio⟩:=List.getElem?_eq_some_iff.1 ho
  have hom:o ∈ L:=List.mem_of_getElem? ho
  have hok:=H.ok o hom
  have e1:(L.set i ⟨o.At,o.Shape,o.Slots.set s v⟩).map keyOf=L.map keyOf:=by
    rw [List.map_set]
    apply List.ext_getElem?
    intro j
    rw [List.getElem?_set]
    split
    · rename_i e;subst e
      rw [if_pos (by simpa using hil),List.getElem?_map,ho]
      simp [keyOf]
    · rfl
  have mem:∀ o2 ∈ L.set i ⟨o.At,o.Shape,o.Slots.set s v⟩,o2=⟨o.At,o.Shape,o.Slots.set s v⟩ ∨ ∃ j,j ≠ i∧L[j]? = some o2:=fun o2 h2=>by
    obtain ⟨j,hj⟩:=List.getElem?_of_mem h2
    by_cases e:i=j
    · subst e;rw [List.getElem?_set_self hil] at hj;left;simpa using hj.symm
    · rw [List.getElem?_set_ne e] at hj;exact .inr ⟨j,fun h=>e h.symm,hj⟩
  have sub:∀ o' ∈ L,∃ o2 ∈ L.set i ⟨o.At,o.Shape,o.Slots.set s v⟩,o2.At=o'.At:=fun o' h'=>by
    have:o'.At ∈ (L.set i ⟨o.At,o.Shape,o.Slots.set s v⟩).map r26_Object.At:=by
      have e2:(L.set i ⟨o.At,o.Shape,o.Slots.set s v⟩).map r26_Object.At=L.map r26_Object.At:=by
        have:=congrArg (List.map Prod.fst) e1
        simpa [List.map_map,keyOf,Function.comp_def] using this
      rw [e2];exact List.mem_map.2 ⟨o',h',rfl⟩
    obtain ⟨o2,h2,h3⟩:=List.mem_map.1 this
    exact ⟨o2,h2,h3⟩
  have h0:0 < o.At:=H.lay.pos (k:=keyOf o) (List.mem_map.2 ⟨o,hom,rfl⟩)
  have hin:o.At.toNat + 1 + s < ws.length:=by
    have h1:s < o.Slots.length:=hs
    have:=hok.sl s o.Slots[s] (by simp [hs])
    exact (List.getElem?_eq_some_iff.1 this).1
  refine ⟨by rw [e1];exact H.lay,fun o2 h2=>?_,fun o2 h2=>?_,fun b hb=>by rw [List.length_set];exact H.wsl b hb⟩
  · rcases mem o2 h2 with rfl | ⟨j,hj,h3⟩
    · refine ⟨hok.sh,by simpa using hok.len,?_,fun k u hu=>?_⟩
      · simp only;rw [List.getElem?_set_ne (by omega)];exact hok.hd
      · simp only at hu ⊢
        rw [List.getElem?_set] at hu ⊢
        by_cases e:s=k
        · subst e;rw [if_pos rfl,if_pos hs] at hu;rw [if_pos rfl,if_pos hin];exact hu
        · rw [if_neg e] at hu;rw [if_neg (by omega)];exact hok.sl k u hu
    · have hm2:=List.mem_of_getElem? h3
      have ha:=apart_get H.lay.apart (i:=j) (j:=i) (by rw [List.getElem?_map,h3];rfl) (by rw [List.getElem?_map,ho];rfl) hj
      have h02:0 < o2.At:=H.lay.pos (k:=keyOf o2) (List.mem_map.2 ⟨o2,hm2,rfl⟩)
      simp only [Apart,keyOf] at ha
      refine (H.ok o2 hm2).ext (by omega) fun k h1 h2=>?_
      rw [List.getElem?_set_ne (by omega)]
  · have up:∀ {v:Int},(v=0 ∨ ∃ o' ∈ L,o'.At=v)→(v=0 ∨ ∃ o' ∈ L.set i ⟨o.At,o.Shape,o.Slots.set s _⟩,o'.At=v):=fun {v} h=>by
      rcases h with h | ⟨o',h1,h2⟩
      · exact .inl h
      · obtain ⟨o3,h3,h4⟩:=sub o' h1
        exact .inr ⟨o3,h3,h4.trans h2⟩
    rcases mem o2 h2 with rfl | ⟨j,hj,h3⟩
    · intro k u hu hp
      simp only at hu hp
      rw [List.getElem?_set] at hu
      by_cases e:s=k
      · subst e;rw [if_pos rfl,if_pos hs] at hu;cases hu;exact up (hv hp)
      · rw [if_neg e] at hu;exact up (H.ptr o hom k u hu hp)
    · intro k u hu hp
      exact up (H.ptr o2 (List.mem_of_getElem? h3) k u hu hp)
end Go.Ab
namespace Go.Ab
open Go
set_option linter.unusedVariables false
set_option linter.unusedSimpArgs false
theorem Find_eq (L:List r26_Object) (hL:L.length < 140737488355328) (p:Int):(∃ (i:Nat) (o:r26_Object),r26_Find L p=some (i:Int)∧L[i]? = some o∧o.At=p) ∨ (r26_Find L p=some (-1) ∧ ∀ o ∈ L,o.At ≠ p):=by
  have w0:IntKind.wrap .i64 ((L.length:Int) - 1)=(L.length:Int) - 1:=wr64 (by omega) (by omega)
  have key : ∃ r,r26_Find_l1 L p ((L.length:Int) - 1)=some r∧((∃ (i:Nat) (o:r26_Object),r = .stop (i:Int)∧L[i]? = some o∧o.At=p) ∨ (r = .next () ∧ ∀ o ∈ L,o.At ≠ p)):=by
    refine runL_inv (I:=fun i=>-1 ≤ i∧i < (L.length:Int) ∧ ∀ (j:Nat) (o:r26_Object),i < j→L[j]? = some o→o.At ≠ p) (Q:=fun (r:Stp Unit Int)=>(∃ (i:Nat) (o:r26_Object),r = .stop (i:Int)∧L[i]? = some o∧o.At=p) ∨ (r = .next () ∧ ∀ o ∈ L,o.At ≠ p)) (μ:=fun i=>(i + 1).toNat) ?_ _ ⟨by omega,by omega,?_⟩
    · rintro i ⟨h1,h2,h3⟩
      unfold r26_Find_l1_b
      by_cases hi:0 ≤ i
      · obtain ⟨o,ho,ho'⟩:=ix_of_lt hi h2
        rw [if_pos (by simpa using hi),ho,Option.bind_some]
        by_cases hp:o.At=p
        · left
          refine ⟨.stop i,by rw [if_pos (by simpa using hp)],.inl ⟨i.toNat,o,by rw [Int.toNat_of_nonneg hi],ho',hp⟩⟩
        · right
          rw [if_neg (by simpa using hp),wr64 (by omega) (by omega)]
          refine ⟨i - 1,rfl,⟨by omega,by omega,fun j o2 hj h=>?_⟩,by omega⟩
          by_cases e:(j:Int)=i
          · have:j=i.toNat:=by omega
            subst this;rw [ho'] at h;cases h;exact hp
          · exact h3 j o2 (by omega) h
      · left
        refine ⟨.next (),by rw [if_neg (by simpa using hi)],.inr ⟨rfl,fun o ho=>?_⟩⟩
        obtain ⟨j,hj⟩:=List.getElem?_of_mem ho
        exact h3 j o (by omega) hj
    · intro j o hj h
      have:=(List.getElem?_eq_some_iff.1 h).1
      omega
  obtain ⟨r,h1,h2⟩:=key
  unfold r26_Find
  rw [w0,h1,Option.bind_some]
  rcases h2 with ⟨i,o,rfl,h3,h4⟩ | ⟨rfl,h3⟩
  · exact .inl ⟨i,o,rfl,h3,h4⟩
  · exact .inr ⟨rfl,h3⟩
def objsIn (L:List r26_Object) (a:Area):List r26_Object:=L.filter fun o=>inA a o.At
variable {K:HCalls}
end Go.Ab
namespace Go.Ab
open Go
set_option linter.unusedVariables false
set_option linter.unusedSimpArgs false
def inAny (ars:List Area) (p:Int):Bool:=ars.any fun a=>inA a p
theorem inAny_iff {ars:List Area} {p:Int}:inAny ars p=true ↔ ∃ a ∈ ars,inA a p=true:=by simp [inAny]
theorem Has_eq (l:List Int) (hl:l.length < 140737488355328) (p:Int):r08_Has l p=some (l.contains p):=by
  have key:∃ r,r08_Has_l1 l p 0=some r∧((r = .stop ()∧l.contains p=true) ∨ (r = .next ()∧l.contains p=false)):=by
    refine runL_up (ρ:=Stp Unit Unit) l.length (fun s=>s) (fun s=>(l.take s.toNat).contains p=false) (fun r=>(r = .stop ()∧l.contains p=true) ∨ (r = .next ()∧l.contains p=false)) (fun s hI h0 h1=>?_) 0 (by simp) (Int.le_refl _) (by omega)
    unfold r08_Has_l1_b
    by_cases h:s < l.length
    · obtain ⟨x,hx,hx'⟩:=ix_of_lt h0 h
      rw [if_pos (by simpa using h),hx,Option.bind_some]
      by_cases hb:x=p
      · left;subst hb
        exact ⟨.stop (),by simp,.inl ⟨rfl,by simpa using List.mem_of_getElem? hx'⟩⟩
      · right
        refine ⟨s + 1,by rw [if_neg (by simpa using hb),wr1 h0 (by omega)],?_,rfl,by omega⟩
        rw [show (s + 1).toNat=s.toNat + 1 by omega,List.take_add_one,hx']
        simp only [List.contains_eq_mem,decide_eq_false_iff_not,List.mem_append,Option.toList_some,List.mem_singleton] at hI ⊢
        exact fun hh=>hh.elim hI fun e=>hb e.symm
    · left
      refine ⟨.next (),by rw [if_neg (by simpa using h)],.inr ⟨rfl,?_⟩⟩
      rwa [List.take_of_length_le (by omega)] at hI
  obtain ⟨r,h1,h2⟩:=key
  unfold r08_Has
  rw [h1,Option.bind_some]
  rcases h2 with ⟨rfl,h3⟩ | ⟨rfl,h3⟩ <;> rw [h3]
def ptrsL (x:Shape):Nat→List Int→List Int
  | _,[]=>[]
  | i,v :: r=>if ptB x i then v :: ptrsL x (i + 1) r else ptrsL x (i + 1) r
def ptrs (o:r26_Object):List Int:=ptrsL o.Shape 0 o.Slots
theorem mem_ptrsL {x:Shape} {p:Int}:∀ {l:List Int} {i:Nat},p ∈ ptrsL x i l → ∃ j,l[j]? = some p∧ptB x (i + j:Nat)=true
  | [],i,h=>by cases h
  | v :: r,i,h=>by
    have rec1:p ∈ ptrsL x (i + 1) r → ∃ j,(v :: r)[j]? = some p∧ptB x (i + j:Nat)=true:=fun h=>by
      obtain ⟨j,h1,h2⟩:=mem_ptrsL h
      exact ⟨j + 1,by simpa using h1,by rw [show i + (j + 1)=i + 1 + j by omega];exact h2⟩
    simp only [ptrsL] at h
    split at h
    · rename_i hb
      rcases List.mem_cons.1 h with rfl | h
      · exact ⟨0,rfl,hb⟩
      · exact rec1 h
    · exact rec1 h
def objAt (L:List r26_Object) (p:Int):Option r26_Object:=L.find? fun o=>o.At == p
theorem objAt_some {L:List r26_Object} {p:Int} {o:r26_Object} (h:objAt L p=some o):o ∈ L∧o.At=p:=by
  unfold objAt at h
  exact ⟨List.mem_of_find?_eq_some h,by simpa using List.find?_some h⟩
theorem objAt_of {L:List r26_Object} (hap:(L.map keyOf).Pairwise Apart) {o:r26_Object} (h:o ∈ L):objAt L o.At=some o:=by
  cases e:objAt L o.At with
  | none =>
    unfold objAt at e
    have:=List.find?_eq_none.1 e o h
    simp at this
  | some o2 =>
    obtain ⟨h1,h2⟩:=objAt_some e
    obtain ⟨i,hi⟩:=List.getElem?_of_mem h1
    obtain ⟨j,hj⟩:=List.getElem?_of_mem h
    have:=apart_idx hap (i:=i) (j:=j) (by rw [List.getElem?_map,hi];rfl) (by rw [List.getElem?_map,hj];rfl) h2
    subst this
    rw [hi] at hj;exact hj
theorem objAt_none {L:List r26_Object} {p:Int} (h:∀ o ∈ L,o.At ≠ p):objAt L p=none:=by
  unfold objAt
  exact List.find?_eq_none.2 fun o ho=>by simpa using h o ho
theorem Find_objAt {L:List r26_Object} (hap:(L.map keyOf).Pairwise Apart) (hL:L.length < 140737488355328) (p:Int):(∃ (i:Nat) (o:r26_Object),r26_Find L p=some (i:Int)∧L[i]? = some o∧objAt L p=some o∧o.At=p) ∨ (r26_Find L p=some (-1)∧objAt L p=none):=by
  rcases Find_eq L hL p with ⟨i,o,h1,h2,h3⟩ | ⟨h1,h2⟩
  · subst h3
    exact .inl ⟨i,o,h1,h2,objAt_of hap (List.mem_of_getElem? h2),rfl⟩
  · exact .inr ⟨h1,objAt_none h2⟩
def ptrsAt (L:List r26_Object) (p:Int):List Int:=match objAt L p with
  | some o=>ptrs o
  | none=>[]
def mt (ars:List Area) (out:List Int) (p:Int):List Int:=if inAny ars p && !out.contains p then out ++ [p] else out
def mtL (ars:List Area) (out ps:List Int):List Int:=ps.foldl (mt ars) out
theorem mtL_cons (ars:List Area) (out:List Int) (p:Int) (ps:List Int):mtL ars out (p :: ps)=mtL ars (mt ars out p) ps:=rfl
theorem mtL_app (ars:List Area) (out ps qs:List Int):mtL ars out (ps ++ qs)=mtL ars (mtL ars out ps) qs:=List.foldl_append ..
def bfs (L:List r26_Object) (ars:List Area):Nat→Nat→List Int→List Int
  | 0,_,out=>out
  | k + 1,i,out=>match out[i]? with
    | some p=>bfs L ars k (i + 1) (mtL ars out (ptrsAt L p))
    | none=>out
def live (L:List r26_Object) (ars:List Area) (roots also:List Int):List Int:=bfs L ars (L.length + 1) 0 (mtL ars (mtL ars [] roots) (also.flatMap (ptrsAt L)))
def AddrOk (L:List r26_Object) (p:Int):Prop:=p=0 ∨ ∃ o ∈ L,o.At=p
structure OutOk (L:List r26_Object) (ars:List Area) (out:List Int):Prop where
  nodup:out.Nodup
  mem:∀ p ∈ out,inAny ars p=true ∧ ∃ o ∈ L,o.At=p
theorem OutOk.nil (L:List r26_Object) (ars:List Area):OutOk L ars []:=⟨List.nodup_nil,fun p h=>(by cases h)⟩
theorem OutOk.mt {L:List r26_Object} {ars:List Area} {out:List Int} (h:OutOk L ars out) (h0:inAny ars 0=false) {p:Int} (hp:AddrOk L p):OutOk L ars (mt ars out p):=by
  unfold Ab.mt
  split
  · rename_i hc
    simp only [Bool.and_eq_true,Bool.not_eq_true',List.contains_eq_mem,decide_eq_false_iff_not] at hc
    refine ⟨List.nodup_append.2 ⟨h.nodup,by simp,fun a ha b hb=>by rw [List.mem_singleton] at hb;subst hb;exact fun e=>hc.2 (e ▸ ha)⟩,fun q hq=>?_⟩
    rcases List.mem_append.1 hq with hq | hq
    · exact h.mem q hq
    · rw [List.mem_singleton] at hq;subst hq
      rcases hp with rfl | hp
      · rw [h0] at hc;cases hc.1
      · exact ⟨hc.1,hp⟩
  · exact h
theorem OutOk.mtL {L:List r26_Object} {ars:List Area} (h0:inAny ars 0=false):∀ {ps out:List Int},OutOk L ars out→(∀ p ∈ ps,AddrOk L p)→OutOk L ars (mtL ars out ps)
  | [],out,h,_=>h
  | p :: ps,out,h,hp=>OutOk.mtL h0 (ps:=ps) (h.mt h0 (hp p (by simp))) fun q hq=>hp q (by simp [hq])
theorem nodup_sub:∀ {xs ys:List Int},xs.Nodup→(∀ x ∈ xs,x ∈ ys)→xs.length ≤ ys.length
  | [],ys,_,_=>by simp
  | x :: xs,ys,hn,hs=>by
    have hx:x ∈ ys:=hs x (by simp)
    rw [List.nodup_cons] at hn
    have h1:=nodup_sub (ys:=ys.erase x) hn.2 fun y hy=>(List.mem_erase_of_ne (fun e=>hn.1 (by rw [← e];exact hy))).2 (hs y (by simp [hy]))
    rw [List.length_erase_of_mem hx] at h1
    have:0 < ys.length:=List.length_pos_of_mem hx
    simp;omega
theorem OutOk.le {L:List r26_Object} {ars:List Area} {out:List Int} (h:OutOk L ars out):out.length ≤ L.length:=by
  have:=nodup_sub (ys:=L.map r26_Object.At) h.nodup fun p hp=>by
    obtain ⟨_,o,h1,h2⟩:=h.mem p hp
    exact List.mem_map.2 ⟨o,h1,h2⟩
  simpa using this
theorem ptrsAt_ok {L:List r26_Object} (hp:∀ o ∈ L,PtrOk L o) (a:Int):∀ p ∈ ptrsAt L a,AddrOk L p:=by
  intro p h
  unfold ptrsAt at h
  split at h
  · rename_i o ho
    obtain ⟨j,h1,h2⟩:=mem_ptrsL h
    rw [Nat.zero_add] at h2
    exact hp o (objAt_some ho).1 j p h1 h2
  · cases h
theorem mt_pre (ars:List Area) (out:List Int) (p:Int):∃ r,mt ars out p=out ++ r:=by
  unfold mt;split
  · exact ⟨_,rfl⟩
  · exact ⟨[],by simp⟩
theorem mtL_pre (ars:List Area):∀ (ps out:List Int),∃ r,mtL ars out ps=out ++ r
  | [],out=>⟨[],by simp [mtL]⟩
  | p :: ps,out=>by
    obtain ⟨r1,h1⟩:=mt_pre ars out p
    obtain ⟨r2,h2⟩:=mtL_pre ars ps (mt ars out p)
    exact ⟨r1 ++ r2,by rw [mtL_cons,h2,h1,List.append_assoc]⟩
theorem inAny_zero {ks:List Key} {As ars:List Area} (H:Lay ks As) (h:∀ a ∈ ars,a ∈ As):inAny ars 0=false:=by
  cases e:inAny ars 0 with
  | false=>rfl
  | true =>
    obtain ⟨a,h1,h2⟩:=inAny_iff.1 e
    have:=H.ord a (h a h1)
    rw [inA_iff] at h2
    omega
end Go.Ab
namespace Go.Ab
open Go
set_option linter.unusedVariables false
set_option linter.unusedSimpArgs false
set_option maxRecDepth 10000
set_option maxHeartbeats 4000000
abbrev hW (sp:Nat) (A:List Area) (L:List r26_Object):HV:=.agg [.ptr sp 0,hAs A,hL L]
abbrev hOp (kind area id slot nn mask:Int):HV:=.p (.agg [.int .i64 kind,.int .u8 area,.int .u8 id,.int .u8 slot,.int .u8 nn,.int .u16 mask])
structure Like (st st':HSt):Prop where
  len:st'.length=st.length
  f1:∀ (g:HSt),(st' ++ g)[st.length]? = g[0]?
  f2:∀ (g:HSt) (k:Nat),(st' ++ g)[st.length + k]? = g[k]?
  f3:∀ (g:HSt) (y:HB),(st' ++ g).set st.length y=st' ++ g.set 0 y
  f4:∀ (g:HSt) (k:Nat) (y:HB),(st' ++ g).set (st.length + k) y=st' ++ g.set k y
theorem like_of {st st':HSt} (h:st'.length=st.length):Like st st' :=
  ⟨h,fun g=>by have:=getElem?_len0 st' g;rwa [h] at this,fun g k=>by have:=getElem?_len st' g k;rwa [h] at this,
   fun g y=>by have:=set_len0 st' g y;rwa [h] at this,fun g k y=>by have:=set_len st' g k y;rwa [h] at this⟩
variable {K:HCalls}
theorem doM0 (hk:∀ ws st,K 69 ws st = .none) {st st':HSt} (Y:Like st st') {sp:Nat} (a0 a1 a2:Area) (L:List r26_Object) (area id slot nn mask q:Int) (ha:0 ≤ area∧area < 256) (hs:0 ≤ slot∧slot < 256) (hq:Int.tmod slot 7=q) (x:Shape)
    (G2:HSt→HSt) (hp:¬ a0.Next=0) (L':List r26_Object)
    (e35:∀ n st,evHF C0 K TH (n + 1) 35 [hI q,.p (.int .u16 mask)] st=some (hX x,st))
    (hk0:Int.tmod area 2=0)
    (e65:∀ n g,evHF C0 K TH (n + 1) 65 [.ptr sp 0,hA a0,hX x] (st ++ g)=some (.p (.tup [.agg [.int .i64 a0.Lo,.int .i64 a0.Hi,.int .i64 (a0.Next + 1 + x.Slots)],.int .i64 a0.Next]),st' ++ (g ++ [.box [hI a0.Lo,hI a0.Hi,hI (a0.Next + 1 + x.Slots)],.box [hI x.Slots,hI x.Mask],.box [hI a0.Lo,hI a0.Hi,hI (a0.Next + 1 + x.Slots)]])))
    (e114:∀ n g,evHF C0 K TH (n + 1) 114 [hL L,hA a0,hX x] (st' ++ g)=some (.p (.tup [.sl L'.length (L'.flatMap cr26_Object),.agg [.int .i64 a0.Lo,.int .i64 a0.Hi,.int .i64 (a0.Next + 1 + x.Slots)],.bool true]),st' ++ (g ++ G2 g))) (n:Nat) :
    ∃ g b,evHF C0 K TH (n + 90) 69 [hW sp [a0,a1,a2] L,hOp 0 area id slot nn mask] st=some (.tup [.agg [.ptr sp 0,.row (st.length + b) 0 3 3,hL L'],.p (.bool true)],st' ++ g)∧g[b]? = some (.row 3 3 (([⟨a0.Lo,a0.Hi,a0.Next + 1 + x.Slots⟩,a1,a2].flatMap cArea).map .p)):=by
  have w1:=@wrap64 area (by omega)
  have w2:=@wrap64 slot (by omega)
  have hp':(a0.Next != 0)=true:=by simpa using hp
  obtain ⟨y0,y1,y2,y3,y4⟩:=Y
  apply Exists.intro
  apply Exists.intro
  refine ⟨evHF_in (n:=n + 89) hk (x:=h69) rfl rfl ?_,?_⟩
  · simp (config:={ maxSteps:=4000000 }) [↓hs_pre,↓evP_call0',hs_eq,h69,w1,w2,hk0,hq,hp,hp',e35,e65,e114,cArea,y0,y1,y2,y3,y4]
    all_goals exact ⟨rfl,rfl⟩
  · simp [getElem?_len,cArea]
theorem doN0 (hk:∀ ws st,K 69 ws st = .none) {st st':HSt} (Y:Like st st') {sp:Nat} (a0 a1 a2:Area) (L:List r26_Object) (area id slot nn mask q:Int) (ha:0 ≤ area∧area < 256) (hs:0 ≤ slot∧slot < 256) (hq:Int.tmod slot 7=q) (x:Shape)
    (G2:HSt→HSt) (L':List r26_Object)
    (e35:∀ n st,evHF C0 K TH (n + 1) 35 [hI q,.p (.int .u16 mask)] st=some (hX x,st))
    (hk0:Int.tmod area 2=0)
    (e65:∀ n g,evHF C0 K TH (n + 1) 65 [.ptr sp 0,hA a0,hX x] (st ++ g)=some (.p (.tup [.agg [.int .i64 a0.Lo,.int .i64 a0.Hi,.int .i64 a0.Next],.int .i64 0]),st' ++ (g ++ [.box [hI a0.Lo,hI a0.Hi,hI a0.Next],.box [hI x.Slots,hI x.Mask],.box [hI a0.Lo,hI a0.Hi,hI a0.Next]])))
    (e114:∀ n g,evHF C0 K TH (n + 1) 114 [hL L,hA a0,hX x] (st' ++ g)=some (.p (.tup [.sl L'.length (L'.flatMap cr26_Object),.agg [.int .i64 a0.Lo,.int .i64 a0.Hi,.int .i64 a0.Next],.bool false]),st' ++ (g ++ G2 g))) (n:Nat) :
    ∃ g b,evHF C0 K TH (n + 90) 69 [hW sp [a0,a1,a2] L,hOp 0 area id slot nn mask] st=some (.tup [.agg [.ptr sp 0,.row (st.length + b) 0 3 3,hL L'],.p (.bool true)],st' ++ g)∧g[b]? = some (.row 3 3 (([a0,a1,a2].flatMap cArea).map .p)):=by
  have w1:=@wrap64 area (by omega)
  have w2:=@wrap64 slot (by omega)
  obtain ⟨y0,y1,y2,y3,y4⟩:=Y
  apply Exists.intro
  apply Exists.intro
  refine ⟨evHF_in (n:=n + 89) hk (x:=h69) rfl rfl ?_,?_⟩
  · simp (config:={ maxSteps:=4000000 }) [↓hs_pre,↓evP_call0',hs_eq,h69,w1,w2,hk0,hq,e35,e65,e114,cArea,y0,y1,y2,y3,y4]
    all_goals exact ⟨rfl,rfl⟩
  · simp [getElem?_len,cArea]
theorem doM1 (hk:∀ ws st,K 69 ws st = .none) {st st':HSt} (Y:Like st st') {sp:Nat} (a0 a1 a2:Area) (L:List r26_Object) (area id slot nn mask q:Int) (ha:0 ≤ area∧area < 256) (hs:0 ≤ slot∧slot < 256) (hq:Int.tmod slot 7=q) (x:Shape)
    (G2:HSt→HSt) (hp:¬ a1.Next=0) (L':List r26_Object)
    (e35:∀ n st,evHF C0 K TH (n + 1) 35 [hI q,.p (.int .u16 mask)] st=some (hX x,st))
    (hk0:Int.tmod area 2=1)
    (e65:∀ n g,evHF C0 K TH (n + 1) 65 [.ptr sp 0,hA a1,hX x] (st ++ g)=some (.p (.tup [.agg [.int .i64 a1.Lo,.int .i64 a1.Hi,.int .i64 (a1.Next + 1 + x.Slots)],.int .i64 a1.Next]),st' ++ (g ++ [.box [hI a1.Lo,hI a1.Hi,hI (a1.Next + 1 + x.Slots)],.box [hI x.Slots,hI x.Mask],.box [hI a1.Lo,hI a1.Hi,hI (a1.Next + 1 + x.Slots)]])))
    (e114:∀ n g,evHF C0 K TH (n + 1) 114 [hL L,hA a1,hX x] (st' ++ g)=some (.p (.tup [.sl L'.length (L'.flatMap cr26_Object),.agg [.int .i64 a1.Lo,.int .i64 a1.Hi,.int .i64 (a1.Next + 1 + x.Slots)],.bool true]),st' ++ (g ++ G2 g))) (n:Nat) :
    ∃ g b,evHF C0 K TH (n + 90) 69 [hW sp [a0,a1,a2] L,hOp 0 area id slot nn mask] st=some (.tup [.agg [.ptr sp 0,.row (st.length + b) 0 3 3,hL L'],.p (.bool true)],st' ++ g)∧g[b]? = some (.row 3 3 (([a0,⟨a1.Lo,a1.Hi,a1.Next + 1 + x.Slots⟩,a2].flatMap cArea).map .p)):=by
  have w1:=@wrap64 area (by omega)
  have w2:=@wrap64 slot (by omega)
  have hp':(a1.Next != 0)=true:=by simpa using hp
  obtain ⟨y0,y1,y2,y3,y4⟩:=Y
  apply Exists.intro
  apply Exists.intro
  refine ⟨evHF_in (n:=n + 89) hk (x:=h69) rfl rfl ?_,?_⟩
  · simp (config:={ maxSteps:=4000000 }) [↓hs_pre,↓evP_call0',hs_eq,h69,w1,w2,hk0,hq,hp,hp',e35,e65,e114,cArea,y0,y1,y2,y3,y4]
    all_goals exact ⟨rfl,rfl⟩
  · simp [getElem?_len,cArea]
theorem doN1 (hk:∀ ws st,K 69 ws st = .none) {st st':HSt} (Y:Like st st') {sp:Nat} (a0 a1 a2:Area) (L:List r26_Object) (area id slot nn mask q:Int) (ha:0 ≤ area∧area < 256) (hs:0 ≤ slot∧slot < 256) (hq:Int.tmod slot 7=q) (x:Shape)
    (G2:HSt→HSt) (L':List r26_Object)
    (e35:∀ n st,evHF C0 K TH (n + 1) 35 [hI q,.p (.int .u16 mask)] st=some (hX x,st))
    (hk0:Int.tmod area 2=1)
    (e65:∀ n g,evHF C0 K TH (n + 1) 65 [.ptr sp 0,hA a1,hX x] (st ++ g)=some (.p (.tup [.agg [.int .i64 a1.Lo,.int .i64 a1.Hi,.int .i64 a1.Next],.int .i64 0]),st' ++ (g ++ [.box [hI a1.Lo,hI a1.Hi,hI a1.Next],.box [hI x.Slots,hI x.Mask],.box [hI a1.Lo,hI a1.Hi,hI a1.Next]])))
    (e114:∀ n g,evHF C0 K TH (n + 1) 114 [hL L,hA a1,hX x] (st' ++ g)=some (.p (.tup [.sl L'.length (L'.flatMap cr26_Object),.agg [.int .i64 a1.Lo,.int .i64 a1.Hi,.int .i64 a1.Next],.bool false]),st' ++ (g ++ G2 g))) (n:Nat) :
    ∃ g b,evHF C0 K TH (n + 90) 69 [hW sp [a0,a1,a2] L,hOp 0 area id slot nn mask] st=some (.tup [.agg [.ptr sp 0,.row (st.length + b) 0 3 3,hL L'],.p (.bool true)],st' ++ g)∧g[b]? = some (.row 3 3 (([a0,a1,a2].flatMap cArea).map .p)):=by
  have w1:=@wrap64 area (by omega)
  have w2:=@wrap64 slot (by omega)
  obtain ⟨y0,y1,y2,y3,y4⟩:=Y
  apply Exists.intro
  apply Exists.intro
  refine ⟨evHF_in (n:=n + 89) hk (x:=h69) rfl rfl ?_,?_⟩
  · simp (config:={ maxSteps:=4000000 }) [↓hs_pre,↓evP_call0',hs_eq,h69,w1,w2,hk0,hq,e35,e65,e114,cArea,y0,y1,y2,y3,y4]
    all_goals exact ⟨rfl,rfl⟩
  · simp [getElem?_len,cArea]
end Go.Ab
namespace Go.Ab
open Go
set_option linter.unusedVariables false
set_option linter.unusedSimpArgs false
set_option maxRecDepth 10000
set_option maxHeartbeats 4000000
variable {K:HCalls}
theorem cints_map (l:List Int):l.flatMap (cint .i64)=l.map (PV.int .i64):=by
  induction l with
  | nil=>rfl
  | cons a l ih=>rw [List.flatMap_cons,List.map_cons,ih];rfl
theorem cints_set (l:List Int) (s:Nat) (v:Int):(l.set s v).flatMap (cint .i64)=(l.flatMap (cint .i64)).set s (.int .i64 v):=by
  rw [cints_map,cints_map,List.map_set]
theorem doS0 (hk:∀ ws st,K 69 ws st = .none) {st:HSt} {sp:Nat} (A:List Area) (kind area id slot nn mask:Int) (h0:¬ kind=0) (n:Nat) :
    ∃ g,evHF C0 K TH (n + 90) 69 [hW sp A [],hOp kind area id slot nn mask] st=some (.tup [.agg [.ptr sp 0,hAs A,hL []],.p (.bool true)],st ++ g):=by
  have h0':(kind == 0)=false:=by simpa using h0
  apply Exists.intro
  refine evHF_in (n:=n + 89) hk (x:=h69) rfl rfl ?_
  simp (config:={ maxSteps:=4000000 }) [↓hs_pre,↓evP_call0',hs_eq,h69,h0,h0']
  all_goals exact rfl
theorem doS1 (hk:∀ ws st,K 69 ws st = .none) {st:HSt} {sp:Nat} (A:List Area) (L:List r26_Object) (kind area id slot nn mask:Int) (h0:¬ kind=0) (hid:0 ≤ id∧id < 256) (hl:L.length < 100000) (i:Nat) (hi:Int.tmod id (L.length:Int)=i) (o:r26_Object) (ho:L[i]? = some o) (hs:o.Slots=[]) (n:Nat) :
    ∃ g,evHF C0 K TH (n + 90) 69 [hW sp A L,hOp kind area id slot nn mask] st=some (.tup [.agg [.ptr sp 0,hAs A,hL L],.p (.bool true)],st ++ g):=by
  have h0':(kind == 0)=false:=by simpa using h0
  have hlt:i < L.length:=(List.getElem?_eq_some_iff.1 ho).1
  have hlt':¬ L.length=0:=by omega
  have hlb:((L.length:Int) == 0)=false:=by rw [beq_eq_false_iff_ne];omega
  have c1:((L.flatMap cr26_Object).drop (i * 4)).take 4=[.int .i64 o.At,.int .i64 o.Shape.Slots,.int .i64 o.Shape.Mask,.sl 0 []]:=by
    have:=enl_drop_take szr26_Object L i o ho
    rw [this];simp [cr26_Object,hs]
  have w1:=@wrap64 id (by omega)
  have w2:=@wrap64 L.length (by omega)
  apply Exists.intro
  refine evHF_in (n:=n + 89) hk (x:=h69) rfl rfl ?_
  simp (config:={ maxSteps:=4000000 }) [↓hs_pre,↓evP_call0',hs_eq,h69,h0,h0',hlt,hlt',hlb,c1,w1,w2,hi]
  all_goals exact rfl
theorem doS2 (hk:∀ ws st,K 69 ws st = .none) {st st':HSt} (Y:Like st st') {sp:Nat} (A:List Area) (L:List r26_Object) (kind area id slot nn mask:Int) (h0:¬ kind=0) (hid:0 ≤ id∧id < 256) (hslot:0 ≤ slot∧slot < 256) (hnn:0 ≤ nn∧nn < 256) (hl:L.length < 100000)
    (i:Nat) (hi:Int.tmod id (L.length:Int)=i) (o:r26_Object) (ho:L[i]? = some o) (m:Nat) (hm:o.Slots.length=m) (hm0:0 < m) (hm1:m < 1000) (s:Nat) (hs:Int.tmod slot (m:Int)=s) (hsm:s < m)
    (b:Bool) (e23:∀ n st,evHF C0 K TH (n + 1) 23 [hX o.Shape,hI s] st=some (.p (.bool b),st))
    (v:Int) (hv:(b=false∧v=nn) ∨ (b=true ∧ ∃ k:Nat,Int.tmod nn ((L.length:Int) + 1)=k∧((k=L.length∧v=0) ∨ (∃ o':r26_Object,L[k]? = some o' ∧ v=o'.At))))
    (e66:∀ n g,evHF C0 K TH (n + 1) 66 [.ptr sp 0,hI o.At,hI s,hI v] (st ++ g)=some (.p (.tup []),st' ++ g)) (n:Nat) :
    ∃ g,evHF C0 K TH (n + 90) 69 [hW sp A L,hOp kind area id slot nn mask] st=some (.tup [.agg [.ptr sp 0,hAs A,.row (st.length + 4) 0 L.length 4],.p (.bool true)],st' ++ g) ∧
      g[4]? = some (.row 4 L.length (((L.flatMap cr26_Object).map HV.p).set (i * 4 + 3) (.row (st.length + 6) 0 m 1)))∧g[6]? = some (.row 1 m (((o.Slots.set s v).flatMap (cint .i64)).map HV.p)):=by
  have h0':(kind == 0)=false:=by simpa using h0
  have hlt:i < L.length:=(List.getElem?_eq_some_iff.1 ho).1
  have hlt':¬ L.length=0:=by omega
  have hlb:((L.length:Int) == 0)=false:=by rw [beq_eq_false_iff_ne];omega
  obtain ⟨ss,hss⟩:∃ ss,o.Slots.flatMap (cint .i64)=ss:=⟨_,rfl⟩
  have c0:ss.length=m:=by rw [← hss,← hm,enl_len (sz_int .i64)];omega
  have c00:(m=ss.length)=True:=eq_true c0.symm
  have c1:((L.flatMap cr26_Object).drop (i * 4)).take 4=[.int .i64 o.At,.int .i64 o.Shape.Slots,.int .i64 o.Shape.Mask,.sl m ss]:=by
    have:=enl_drop_take szr26_Object L i o ho
    rw [this,← hm,← hss];rfl
  have w1:=@wrap64 id (by omega)
  have w2:=@wrap64 slot (by omega)
  have w3:=@wrap64 nn (by omega)
  have w4:=@wrap64 ((L.length:Int) + 1) (by omega)
  have m1:¬ m=0:=by omega
  have mb:((m:Int) == 0)=false:=by rw [beq_eq_false_iff_ne];omega
  have c2:(L.flatMap cr26_Object).length=L.length * 4:=cobj_len L
  have c3:L.length * 48 ≤ 1099511627776:=by omega
  have c4:L.length ≤ 1099511627776:=by omega
  have c5:m * 8 ≤ 1099511627776:=by omega
  have c6:m ≤ 1099511627776:=by omega
  have o7:(∀ x ∈ L.flatMap cr26_Object,PV.free x=true)=True:=eq_true (cobj_free L)
  have o8:(∀ x ∈ ss,PV.free x=true)=True:=eq_true fun x hx=>by
    rw [← hss] at hx
    obtain ⟨a,_,hx⟩:=List.mem_flatMap.1 hx
    simp [cint] at hx;subst hx;rfl
  have c7:i * 4 + 3 < L.length * 4:=by omega
  have c8:i * 4 + 3 + 1 ≤ L.length * 4:=by omega
  have c9:s + 1 ≤ m:=by omega
  have z0:¬ ((L.length:Int) + 1)=0:=by omega
  have fin:(o.Slots.set s v).flatMap (cint .i64)=ss.set s (.int .i64 v):=by
    rw [← hss];exact cints_set _ _ _
  rw [fin]
  have c10:(∀ x ∈ L.flatMap cr26_Object,HV.one (.p x)=true)=True:=eq_true fun x hx=>one_ps _ (cobj_free L) _ (List.mem_map.2 ⟨x,hx,rfl⟩)
  obtain ⟨ocs,hoc⟩:∃ ocs,L.flatMap cr26_Object=ocs:=⟨_,rfl⟩
  rw [hoc] at c1 c2 o7 c10
  simp only [hW,hL]
  rw [hoc]
  have c11:(ocs.map HV.p).take (L.length * 4)=ocs.map HV.p:=List.take_of_length_le (by simp;omega)
  have c12:(L.length * 4=ocs.length)=True:=eq_true c2.symm
  obtain ⟨y0,y1,y2,y3,y4⟩:=Y
  rcases hv with ⟨rfl,rfl⟩ | ⟨rfl,k,hk1,⟨rfl,rfl⟩ | ⟨o',ho',rfl⟩⟩
  · apply Exists.intro
    refine ⟨evHF_in (n:=n + 89) hk (x:=h69) rfl rfl ?_,?_,?_⟩
    · simp (config:={ maxSteps:=4000000 }) [↓hs_pre,↓evP_call0',hs_eq,h69,h0,h0',hlt,hlt',hlb,c0,c00,c1,c2,c3,c4,c5,c6,c7,c8,c9,c10,c11,c12,o7,o8,m1,mb,w1,w2,w3,w4,z0,hi,hs,hsm,e23,e66,y0,y1,y2,y3,y4]
      all_goals exact rfl
    · rfl
    · simp
  · have p1:¬ ((L.length:Int) < L.length):=by omega
    apply Exists.intro
    refine ⟨evHF_in (n:=n + 89) hk (x:=h69) rfl rfl ?_,?_,?_⟩
    · simp (config:={ maxSteps:=4000000 }) [↓hs_pre,↓evP_call0',hs_eq,h69,h0,h0',hlt,hlt',hlb,c0,c00,c1,c2,c3,c4,c5,c6,c7,c8,c9,c10,c11,c12,o7,o8,m1,mb,w1,w2,w3,w4,z0,hi,hs,hsm,e23,e66,y0,y1,y2,y3,y4,hk1,p1]
      all_goals exact rfl
    · rfl
    · simp
  · have p1:k < L.length:=(List.getElem?_eq_some_iff.1 ho').1
    have p2:(ocs.drop (k * 4)).take 4=[.int .i64 o'.At,.int .i64 o'.Shape.Slots,.int .i64 o'.Shape.Mask,.sl o'.Slots.length (o'.Slots.flatMap (cint .i64))]:=by
      rw [← hoc,enl_drop_take szr26_Object L k o' ho'];rfl
    apply Exists.intro
    refine ⟨evHF_in (n:=n + 89) hk (x:=h69) rfl rfl ?_,?_,?_⟩
    · simp (config:={ maxSteps:=4000000 }) [↓hs_pre,↓evP_call0',hs_eq,h69,h0,h0',hlt,hlt',hlb,c0,c00,c1,c2,c3,c4,c5,c6,c7,c8,c9,c10,c11,c12,o7,o8,m1,mb,w1,w2,w3,w4,z0,hi,hs,hsm,e23,e66,y0,y1,y2,y3,y4,hk1,p1,p2]
      all_goals exact rfl
    · rfl
    · simp
end Go.Ab
namespace Go.Ab
open Go
set_option linter.unusedVariables false
set_option linter.unusedSimpArgs false
set_option maxRecDepth 10000
set_option maxHeartbeats 4000000
structure KC (K:HCalls):Prop extends KPu K where
  f22:∀ {st:HSt} {sp wb:Nat} {ws:List Int} {x:Shape} (S:SpaceAt st sp wb ws) (i:Nat) (h0:0 < i) (hx:OkSh x) (hv:ws[i]? = some (hdB x)),
    K 22 [.ptr sp 0,hI i] st=some (.p (.tup [.agg [.int .i64 x.Slots,.int .i64 x.Mask],.int .i64 0]),st ++ [.box [hI x.Slots,hI x.Mask]])
  f24:∀ {st:HSt} {sp wb:Nat} {ws:List Int} (S:SpaceAt st sp wb ws) (a s:Int) (i:Nat) (h0:0 ≤ a∧0 ≤ s) (hi:a + 1 + s=(i:Int)) (hb:i < 140737488355328) (v:Int) (hv:ws[i]? = some v),K 24 [.ptr sp 0,hI a,hI s] st=some (hI v,st)
  f65 : ∀ {st:HSt} {sp wb:Nat} {ws:List Int} (S:SpaceAt st sp wb ws) (hb:ws.length < 140737488355328) (a:Area) (x:Shape) (h0:0 < a.Next) (h1:a.Hi ≤ ws.length) (hx:OkSh x) (h:a.Next + 1 + x.Slots ≤ a.Hi),
    K 65 [.ptr sp 0,hA a,hX x] st=some (.p (.tup [.agg [.int .i64 a.Lo,.int .i64 a.Hi,.int .i64 (a.Next + 1 + x.Slots)],.int .i64 a.Next]),st.set wb (wRow (mkW ws a.Next.toNat x)) ++
        [.box [hI a.Lo,hI a.Hi,hI (a.Next + 1 + x.Slots)],.box [hI x.Slots,hI x.Mask],.box [hI a.Lo,hI a.Hi,hI (a.Next + 1 + x.Slots)]])
  f65n:∀ {st:HSt} {sp:Nat} (a:Area) (x:Shape) (h0:0 < a.Next∧a.Next ≤ a.Hi∧a.Hi < 140737488355328) (hx:OkSh x) (h:a.Hi < a.Next + 1 + x.Slots),
    K 65 [.ptr sp 0,hA a,hX x] st=some (.p (.tup [.agg [.int .i64 a.Lo,.int .i64 a.Hi,.int .i64 a.Next],.int .i64 0]),st ++ [.box [hI a.Lo,hI a.Hi,hI a.Next],.box [hI x.Slots,hI x.Mask],.box [hI a.Lo,hI a.Hi,hI a.Next]])
  f66:∀ {st:HSt} {sp wb:Nat} {ws:List Int} (S:SpaceAt st sp wb ws) (a s v:Int) (i:Nat) (h0:0 ≤ a∧0 ≤ s) (hi:a + 1 + s=(i:Int)) (hb:i < 140737488355328) (hl:i < ws.length),
    K 66 [.ptr sp 0,hI a,hI s,hI v] st=some (.p (.tup []),st.set wb (wRow (ws.set i v)))
  f114:∀ (os:List r26_Object) (hl:os.length < 100000) (a:Area) (x:Shape) (h0:0 ≤ a.Next∧a.Next < 1000000000) (hx:OkSh x) (h:¬ a.Hi < a.Next + 1 + x.Slots) (st:HSt),
    ∃ g,K 114 [hL os,hA a,hX x] st=some (.p (.tup [.sl (os ++ [newO a x]).length ((os ++ [newO a x]).flatMap cr26_Object),.agg [.int .i64 a.Lo,.int .i64 a.Hi,.int .i64 (a.Next + 1 + x.Slots)],.bool true]),st ++ g)
  f114n:∀ (os:List r26_Object) (a:Area) (x:Shape) (h0:0 ≤ a.Next∧a.Next < 1000000000) (hx:OkSh x) (h:a.Hi < a.Next + 1 + x.Slots) (st:HSt),
    ∃ g,K 114 [hL os,hA a,hX x] st=some (.p (.tup [.sl os.length (os.flatMap cr26_Object),.agg [.int .i64 a.Lo,.int .i64 a.Hi,.int .i64 a.Next],.bool false]),st ++ g)
theorem KC_of {K:HCalls} (B:KB K) (hk:∀ ws st,K 114 ws st = .none) {l li:List Nat} (h1:l.contains 22=true∧l.contains 24=true∧l.contains 65=true∧l.contains 66=true∧l.contains 114=false∧li.contains 114=true)
    (hp:lp.all (fun f=>!l.contains f && !li.contains f)=true):KC (lev K l li) where
  pu f hf:=by
    have:=List.all_eq_true.1 hp f (by simpa using hf)
    simp only [Bool.and_eq_true,Bool.not_eq_true'] at this
    rw [lev_none this.1 this.2];exact B.pu f hf
  f22 S i h0 hx hv:=lev_a h1.1 30 (e22 B S i h0 hx hv 0)
  f24 S a s i h0 hi hb v hv:=lev_a h1.2.1 20 (e24 B S a s i h0 hi hb v hv 0)
  f65 S hb a x h0 h2 hx h:=by
    have hx0:=hx.1
    obtain ⟨n0,hn⟩:=e65 B S hb a a.Next.toNat (by omega) x (by omega) hx (by omega) (by omega)
    rw [show a.Next + 1 + x.Slots=a.Next + (1 + x.Slots) by omega]
    exact lev_a h1.2.2.1 n0 (hn n0 (Nat.le_refl _))
  f65n a x h0 hx h:=lev_a h1.2.2.1 40 (e65n B a x (by omega) hx (by omega) 0)
  f66 S a s v i h0 hi hb hl:=lev_a h1.2.2.2.1 20 (e66 B S a s v i h0 hi hb hl 0)
  f114 os hl a x h0 hx h st:=i114 h1.2.2.2.2.1 h1.2.2.2.2.2 hk os hl a x h0 hx h st
  f114n os a x h0 hx h st:=i114n h1.2.2.2.2.1 h1.2.2.2.2.2 hk os a x h0 hx h st
def IceTo (st:HSt) (base:Nat) (h:HV) (v:PV):Prop :=
  (∀ a ∈ rowsV st 2 h,base ≤ a)∧(h = .p v∧icyP v=v ∨ ∃ a o n z,h = .row a o n z) ∧ ∀ D,(∀ a ∈ rowsV st 2 h,a ∈ D)→iceV st D 2 h=some (.p v)
theorem iceTo_p {st:HSt} {base:Nat} {v:PV} (h:icyP v=v):IceTo st base (.p v) v :=
  ⟨fun a ha=>(by rw [rowsV_p] at ha;cases ha),.inl ⟨rfl,h⟩,fun D _=>by simp only [iceV,h]⟩
theorem iceTo_row {st:HSt} {base a len sz:Nat} {vs:List PV} (hb:base ≤ a) (h:st[a]? = some (.row sz len (vs.map HV.p))) (hl:vs.length=len * sz) (hf:∀ v ∈ vs,v.free=true):IceTo st base (.row a 0 len sz) (.sl len vs):=by
  have e:rowsV st 2 (.row a 0 len sz)=[a]:=by rw [rowsV_row h,List.drop_zero,← List.map_take,rowsV_ps]
  refine ⟨fun c hc=>by rw [e] at hc;simp at hc;omega,.inr ⟨_,_,_,_,rfl⟩,fun D hD=>?_⟩
  rw [e] at hD
  have:=rdD_row (k:=3) (D:=D) (off:=0) (len:=len) (sz:=sz) (by simpa using hD a (by simp)) h (by simp [hl]) (by
    rw [List.drop_zero,List.take_of_length_le (by simp [hl])]
    exact allO_p hf)
  simp only [iceV,this,Option.map_some]
theorem lev_W {K:HCalls} {l li:List Nat} {f:Nat} (h1:l.contains f=false) (h2:li.contains f=true) {ws:List HV} {st st' g:HSt} {sp:Nat} {h3 h4:HV} {v3 v4 v5:PV} (hv5:icyP v5=v5) (n:Nat)
    (e:evHF C0 K TH n f ws st=some (.tup [.agg [.ptr sp 0,h3,h4],.p v5],st' ++ g)) (i3:IceTo (st' ++ g) st'.length h3 v3) (i4:IceTo (st' ++ g) st'.length h4 v4) :
    ∃ g',lev K l li f ws st=some (.tup [.agg [.ptr sp 0,.p v3,.p v4],.p v5],st' ++ g'):=by
  have sw:∀ {h:HV} {v:PV},IceTo (st' ++ g) st'.length h v→rowsH (st' ++ g) 2 h=rowsV (st' ++ g) 2 h:=fun {h v} i=>by
    rcases i.2.1 with ⟨rfl,_⟩ | ⟨a,o,n,z,rfl⟩
    · rw [rowsH_p,rowsV_p]
    · rfl
  have er:rowsH (st' ++ g) 4 (.tup [.agg [.ptr sp 0,h3,h4],.p v5])=rowsV (st' ++ g) 2 h3 ++ rowsV (st' ++ g) 2 h4:=by
    have e1:rowsH (st' ++ g) 2 (.ptr sp 0)=[]:=rfl
    have e2:rowsV (st' ++ g) (Nat.succ 1) (.ptr sp 0)=[]:=rfl
    simp only [rowsH,List.flatMap_cons,List.flatMap_nil,e1,e2,sw i3,sw i4,rowsV_p,List.nil_append,List.append_nil]
  obtain ⟨g',hg⟩:=killD_app (rowsV (st' ++ g) 2 h3 ++ rowsV (st' ++ g) 2 h4) st' g fun a ha=>by
    rcases List.mem_append.1 ha with ha | ha
    · exact i3.1 a ha
    · exact i4.1 a ha
  have:=lev_i (K:=K) h1 h2 n e (r':=.tup [.agg [.ptr sp 0,.p v3,.p v4],.p v5]) (by
    rw [er]
    have j3:=i3.2.2 (rowsV (st' ++ g) 2 h3 ++ rowsV (st' ++ g) 2 h4) fun a ha=>List.mem_append_left _ ha
    have j4:=i4.2.2 (rowsV (st' ++ g) 2 h3 ++ rowsV (st' ++ g) 2 h4) fun a ha=>List.mem_append_right _ ha
    simp only [iceV] at j3 j4 ⊢
    simp only [allO,iceV,j3,j4,hv5,Option.map_some]
    rfl)
  exact ⟨g',by rw [this,er,hg]⟩
end Go.Ab
namespace Go.Ab
open Go
set_option linter.unusedVariables false
set_option linter.unusedSimpArgs false
set_option maxRecDepth 10000
set_option maxHeartbeats 4000000
theorem areas_icy (A:List Area):icyP (.sl A.length (A.flatMap cArea)) = .sl A.length (A.flatMap cArea):=rfl
theorem objs_icy (L:List r26_Object):icyP (.sl L.length (L.flatMap cr26_Object)) = .sl L.length (L.flatMap cr26_Object):=rfl
theorem areas_free (A:List Area):∀ v ∈ A.flatMap cArea,v.free=true:=by
  intro v hv
  obtain ⟨o,ho,hv⟩:=List.mem_flatMap.1 hv
  simp only [cArea,List.mem_cons,List.not_mem_nil,or_false] at hv
  rcases hv with rfl | rfl | rfl <;> rfl
structure DoneW (K:HCalls) (ws0:List HV) (f:Nat) (st:HSt) (sp wb:Nat) (ws:List Int) (a0 a1 a2:Area) (L:List r26_Object):Prop where
  ex:∃ st' ws' b0 b1 L',K f ws0 st=some (.tup [hW sp [b0,b1,a2] L',.p (.bool true)],st')∧SpaceAt st' sp wb ws' ∧ ws'.length=ws.length∧Keeps wb st st' ∧ Spc ws' [b0,b1,a2] L' ∧ L'.length ≤ L.length + 1∧(b0.Lo=a0.Lo∧b0.Hi=a0.Hi)∧b1.Lo=a1.Lo∧b1.Hi=a1.Hi
variable {K:HCalls}
theorem kDoMake (C:KC K) (hk:∀ ws st,K 69 ws st = .none) {l li:List Nat} (h1:l.contains 69=false) (h2:li.contains 69=true) {st:HSt} {sp wb:Nat} {ws:List Int} {a0 a1 a2:Area} {L:List r26_Object}
    (S:SpaceAt st sp wb ws) (hb:ws.length < 1000000000) (H:Spc ws [a0,a1,a2] L) (hLen:L.length < 100000) (area id slot nn mask:Int) (har:0 ≤ area∧area < 256) (hsl:0 ≤ slot∧slot < 256) (hma:0 ≤ mask∧mask < 65536) :
    DoneW (lev K l li) [hW sp [a0,a1,a2] L,hOp 0 area id slot nn mask] 69 st sp wb ws a0 a1 a2 L:=by
  obtain ⟨q,hq⟩:∃ q,Int.tmod slot 7=q:=⟨_,rfl⟩
  have hq2:0 ≤ q∧q < 7:=by rw [← hq];exact ⟨Int.tmod_nonneg _ hsl.1,Int.tmod_lt_of_pos _ (by decide)⟩
  obtain ⟨x,hx,hxo,hxs⟩:=Shape_eq (a:=q) (m:=mask) (by omega) hma
  have e35:=fun n st=>k35 C.toKPu hx n st
  obtain ⟨_,lw,_⟩:=S.lt
  have pos:∀ a ∈ [a0,a1,a2],0 < a.Next∧a.Next ≤ a.Hi∧a.Hi ≤ ws.length:=fun a ha=>by
    have:=H.lay.ord a ha;have:=H.wsl a ha;omega
  have key:∀ (k:Nat) (a:Area),[a0,a1,a2][k]? = some a →
      ((∃ g,lev K l li 69 [hW sp [a0,a1,a2] L,hOp 0 area id slot nn mask] st=some (.tup [hW sp ([a0,a1,a2].set k ⟨a.Lo,a.Hi,a.Next + 1 + x.Slots⟩) (L ++ [newO a x]),.p (.bool true)],st.set wb (wRow (mkW ws a.Next.toNat x)) ++ g))∧a.Next + 1 + x.Slots ≤ a.Hi) ∨
      (∃ g,lev K l li 69 [hW sp [a0,a1,a2] L,hOp 0 area id slot nn mask] st=some (.tup [hW sp [a0,a1,a2] L,.p (.bool true)],st ++ g)) →
      [a0,a1,a2].set k ⟨a.Lo,a.Hi,a.Next + 1 + x.Slots⟩=[(if k=0 then ⟨a.Lo,a.Hi,a.Next + 1 + x.Slots⟩ else a0),(if k=1 then ⟨a.Lo,a.Hi,a.Next + 1 + x.Slots⟩ else a1),a2] →
      DoneW (lev K l li) [hW sp [a0,a1,a2] L,hOp 0 area id slot nn mask] 69 st sp wb ws a0 a1 a2 L:=by
    intro k a ha hr hset
    rcases hr with ⟨⟨g,e⟩,hroom⟩ | ⟨g,e⟩
    · have hm:=H.make ha hxo hroom
      rw [hset] at hm e
      refine ⟨⟨_,mkW ws a.Next.toNat x,_,_,_,e,(S.set _ (mkW_len _ _ _)).app g,mkW_len _ _ _,(Keeps.set wb st _).trans (Keeps.app wb _ g),hm,by simp,?_⟩⟩
      rcases k with _ | _ | k
      · simp at ha;subst ha;simp
      · simp at ha;subst ha;simp
      · simp
    · exact ⟨⟨_,ws,_,_,_,e,S.app g,rfl,Keeps.app wb _ g,H,by omega,⟨rfl,rfl⟩,rfl,rfl⟩⟩
  have f65:∀ a ∈ [a0,a1,a2],a.Next + 1 + x.Slots ≤ a.Hi → ∀ n g,evHF C0 K TH (n + 1) 65 [.ptr sp 0,hA a,hX x] (st ++ g)=some (.p (.tup [.agg [.int .i64 a.Lo,.int .i64 a.Hi,.int .i64 (a.Next + 1 + x.Slots)],.int .i64 a.Next]),st.set wb (wRow (mkW ws a.Next.toNat x)) ++ (g ++ [.box [hI a.Lo,hI a.Hi,hI (a.Next + 1 + x.Slots)],.box [hI x.Slots,hI x.Mask],.box [hI a.Lo,hI a.Hi,hI (a.Next + 1 + x.Slots)]])):=fun a ha hr n g=>by
    have hp:=pos a ha
    have:=C.f65 (S.app g) (by omega) a x hp.1 hp.2.2 hxo hr
    rw [List.set_append_left _ _ lw,List.append_assoc] at this
    exact known_of this n
  have f65n:∀ a ∈ [a0,a1,a2],a.Hi < a.Next + 1 + x.Slots → ∀ n g,evHF C0 K TH (n + 1) 65 [.ptr sp 0,hA a,hX x] (st ++ g)=some (.p (.tup [.agg [.int .i64 a.Lo,.int .i64 a.Hi,.int .i64 a.Next],.int .i64 0]),st ++ (g ++ [.box [hI a.Lo,hI a.Hi,hI a.Next],.box [hI x.Slots,hI x.Mask],.box [hI a.Lo,hI a.Hi,hI a.Next]])):=fun a ha hr n g=>by
    have hp:=pos a ha
    have:=C.f65n (st:=st ++ g) (sp:=sp) a x (by omega) hxo hr
    rw [List.append_assoc] at this
    exact known_of this n
  have f114:∀ (st':HSt),∀ a ∈ [a0,a1,a2],a.Next + 1 + x.Slots ≤ a.Hi → ∃ G2:HSt→HSt,∀ n g,evHF C0 K TH (n + 1) 114 [hL L,hA a,hX x] (st' ++ g)=some (.p (.tup [.sl (L ++ [newO a x]).length ((L ++ [newO a x]).flatMap cr26_Object),.agg [.int .i64 a.Lo,.int .i64 a.Hi,.int .i64 (a.Next + 1 + x.Slots)],.bool true]),st' ++ (g ++ G2 g)):=fun st' a ha hr=>by
    have hp:=pos a ha
    obtain ⟨G2,hG⟩:=Classical.axiomOfChoice (fun g:HSt=>C.f114 L hLen a x (by omega) hxo (by omega) (st' ++ g))
    exact ⟨G2,fun n g=>by have:=hG g;rw [List.append_assoc] at this;exact known_of this n⟩
  have f114n:∀ (st':HSt),∀ a ∈ [a0,a1,a2],a.Hi < a.Next + 1 + x.Slots → ∃ G2:HSt→HSt,∀ n g,evHF C0 K TH (n + 1) 114 [hL L,hA a,hX x] (st' ++ g)=some (.p (.tup [.sl L.length (L.flatMap cr26_Object),.agg [.int .i64 a.Lo,.int .i64 a.Hi,.int .i64 a.Next],.bool false]),st' ++ (g ++ G2 g)):=fun st' a ha hr=>by
    have hp:=pos a ha
    obtain ⟨G2,hG⟩:=Classical.axiomOfChoice (fun g:HSt=>C.f114n L a x (by omega) hxo (by omega) (st' ++ g))
    exact ⟨G2,fun n g=>by have:=hG g;rw [List.append_assoc] at this;exact known_of this n⟩
  have hk01:Int.tmod area 2=0 ∨ Int.tmod area 2=1:=by
    have h3:0 ≤ Int.tmod area 2:=Int.tmod_nonneg _ har.1
    have h4:Int.tmod area 2 < 2:=Int.tmod_lt_of_pos _ (by decide)
    omega
  have mk:∀ (st' g:HSt) (b:Nat) (A:List Area) (L':List r26_Object),st'.length=st.length→g[b]? = some (.row 3 3 ((A.flatMap cArea).map .p))→A.length=3 →
      evHF C0 K TH (0 + 90) 69 [hW sp [a0,a1,a2] L,hOp 0 area id slot nn mask] st=some (.tup [.agg [.ptr sp 0,.row (st.length + b) 0 3 3,hL L'],.p (.bool true)],st' ++ g) → ∃ g',lev K l li 69 [hW sp [a0,a1,a2] L,hOp 0 area id slot nn mask] st=some (.tup [hW sp A L',.p (.bool true)],st' ++ g'):=fun st' g b A L' hl hg hA e=>by
    have e2:(st' ++ g)[st.length + b]? = some (.row 3 3 ((A.flatMap cArea).map .p)):=by
      rw [← hl,getElem?_len];exact hg
    have hc:(A.flatMap cArea).length=3 * 3:=by rw [enl_len szArea,hA]
    have:=lev_W (v5:=.bool true) h1 h2 rfl 90 e (iceTo_row (by omega) e2 hc (areas_free A)) (iceTo_p (objs_icy L'))
    rw [← hA] at this
    exact this
  rcases hk01 with hk0 | hk0
  · refine key 0 a0 rfl ?_ rfl
    have hm0:a0 ∈ [a0,a1,a2]:=by simp
    by_cases hr:a0.Next + 1 + x.Slots ≤ a0.Hi
    · left
      obtain ⟨G2,hG⟩:=f114 (st.set wb (wRow (mkW ws a0.Next.toNat x))) a0 hm0 hr
      obtain ⟨g,b,e1,e2⟩:=doM0 hk (like_of (st':=st.set wb (wRow (mkW ws a0.Next.toNat x))) (List.length_set ..)) a0 a1 a2 L area id slot nn mask q har hsl hq x G2 (by have:=pos a0 hm0;omega) (L ++ [newO a0 x]) e35 hk0 (f65 a0 hm0 hr) hG 0
      exact ⟨mk _ g b _ _ (List.length_set ..) e2 rfl e1,hr⟩
    · right
      obtain ⟨G2,hG⟩:=f114n st a0 hm0 (by omega)
      obtain ⟨g,b,e1,e2⟩:=doN0 hk (like_of (st':=st) rfl) a0 a1 a2 L area id slot nn mask q har hsl hq x G2 L e35 hk0 (f65n a0 hm0 (by omega)) hG 0
      exact mk _ g b _ _ rfl e2 rfl e1
  · refine key 1 a1 rfl ?_ rfl
    have hm0:a1 ∈ [a0,a1,a2]:=by simp
    by_cases hr:a1.Next + 1 + x.Slots ≤ a1.Hi
    · left
      obtain ⟨G2,hG⟩:=f114 (st.set wb (wRow (mkW ws a1.Next.toNat x))) a1 hm0 hr
      obtain ⟨g,b,e1,e2⟩:=doM1 hk (like_of (st':=st.set wb (wRow (mkW ws a1.Next.toNat x))) (List.length_set ..)) a0 a1 a2 L area id slot nn mask q har hsl hq x G2 (by have:=pos a1 hm0;omega) (L ++ [newO a1 x]) e35 hk0 (f65 a1 hm0 hr) hG 0
      exact ⟨mk _ g b _ _ (List.length_set ..) e2 rfl e1,hr⟩
    · right
      obtain ⟨G2,hG⟩:=f114n st a1 hm0 (by omega)
      obtain ⟨g,b,e1,e2⟩:=doN1 hk (like_of (st':=st) rfl) a0 a1 a2 L area id slot nn mask q har hsl hq x G2 L e35 hk0 (f65n a1 hm0 (by omega)) hG 0
      exact mk _ g b _ _ rfl e2 rfl e1
theorem allO_set {α β:Type} {f:α→Option β}:∀ {xs:List α} {us:List β} (j:Nat) {y:α} {v:β},allO f xs=some us→f y=some v→allO f (xs.set j y)=some (us.set j v)
  | [],us,j,y,v,h,h'=>by simp only [allO,Option.some.injEq] at h;subst h;rfl
  | x :: xs,us,j,y,v,h,h'=>by
    simp only [allO] at h
    split at h
    · rename_i a ars ha has
      obtain rfl:=Option.some.inj h
      cases j with
      | zero=>simp only [List.set_cons_zero,allO,h',has]
      | succ j=>simp only [List.set_cons_succ,allO,ha,allO_set j has h']
    · cases h
theorem rows_set {st:HSt} {k:Nat} {c:HV}:∀ (vs:List PV) (j:Nat),((vs.map HV.p).set j c).flatMap (rowsV st k)=if j < vs.length then rowsV st k c else []
  | [],j=>by simp
  | v :: vs,0=>by simp [rowsV_p,rowsV_ps]
  | v :: vs,j + 1=>by simp [rowsV_p,rows_set vs j]
theorem kDoStore (C:KC K) (hk:∀ ws st,K 69 ws st = .none) {l li:List Nat} (h1:l.contains 69=false) (h2:li.contains 69=true) {st:HSt} {sp wb:Nat} {ws:List Int} {a0 a1 a2:Area} {L:List r26_Object}
    (S:SpaceAt st sp wb ws) (hb:ws.length < 1000000000) (H:Spc ws [a0,a1,a2] L) (hLen:L.length < 100000) (kind area id slot nn mask:Int) (h0:¬ kind=0) (hid:0 ≤ id∧id < 256) (hsl:0 ≤ slot∧slot < 256) (hnn:0 ≤ nn∧nn < 256) :
    DoneW (lev K l li) [hW sp [a0,a1,a2] L,hOp kind area id slot nn mask] 69 st sp wb ws a0 a1 a2 L:=by
  obtain ⟨_,lw,_⟩:=S.lt
  have same:∀ g,evHF C0 K TH (0 + 90) 69 [hW sp [a0,a1,a2] L,hOp kind area id slot nn mask] st=some (.tup [.agg [.ptr sp 0,hAs [a0,a1,a2],hL L],.p (.bool true)],st ++ g)→DoneW (lev K l li) [hW sp [a0,a1,a2] L,hOp kind area id slot nn mask] 69 st sp wb ws a0 a1 a2 L:=fun g e=>by
    obtain ⟨g',e'⟩:=lev_W (v5:=.bool true) h1 h2 rfl 90 e (iceTo_p (areas_icy _)) (iceTo_p (objs_icy L))
    exact ⟨⟨_,ws,_,_,_,e',S.app g',rfl,Keeps.app wb _ g',H,by omega,⟨rfl,rfl⟩,rfl,rfl⟩⟩
  by_cases hz:L.length=0
  · have:L=[]:=List.eq_nil_of_length_eq_zero hz
    subst this
    obtain ⟨g,e⟩:=doS0 (K:=K) hk (st:=st) (sp:=sp) [a0,a1,a2] kind area id slot nn mask h0 0
    exact same g e
  · obtain ⟨i,hi⟩:∃ i:Nat,Int.tmod id (L.length:Int)=i:=⟨(Int.tmod id (L.length:Int)).toNat,by have:=Int.tmod_nonneg (L.length:Int) hid.1;omega⟩
    have hil:i < L.length:=by have:=Int.tmod_lt_of_pos id (show (0:Int) < L.length by omega);omega
    obtain ⟨o,ho⟩:∃ o,L[i]? = some o:=⟨L[i],by simp [hil]⟩
    have hom:=List.mem_of_getElem? ho
    have hok:=H.ok o hom
    have hoa:0 < o.At:=H.lay.pos (k:=keyOf o) (List.mem_map.2 ⟨o,hom,rfl⟩)
    by_cases hs0:o.Slots=[]
    · obtain ⟨g,e⟩:=doS1 (K:=K) hk (st:=st) (sp:=sp) [a0,a1,a2] L kind area id slot nn mask h0 hid hLen i hi o ho hs0 0
      exact same g e
    · obtain ⟨m,hm⟩:∃ m,o.Slots.length=m:=⟨_,rfl⟩
      have hm0:0 < m:=by
        rcases Nat.eq_zero_or_pos m with h | h
        · exact absurd (List.eq_nil_of_length_eq_zero (hm.trans h)) hs0
        · exact h
      have hm16:m ≤ 16:=by have:=hok.len;have:=hok.sh.2.1;omega
      obtain ⟨s,hs⟩:∃ s:Nat,Int.tmod slot (m:Int)=s:=⟨(Int.tmod slot (m:Int)).toNat,by have:=Int.tmod_nonneg (m:Int) hsl.1;omega⟩
      have hsm:s < m:=by have:=Int.tmod_lt_of_pos slot (show (0:Int) < m by omega);omega
      obtain ⟨k,hk1⟩:∃ k:Nat,Int.tmod nn ((L.length:Int) + 1)=k:=⟨(Int.tmod nn ((L.length:Int) + 1)).toNat,by have:=Int.tmod_nonneg ((L.length:Int) + 1) hnn.1;omega⟩
      have hkl:k ≤ L.length:=by have:=Int.tmod_lt_of_pos nn (show (0:Int) < (L.length:Int) + 1 by omega);omega
      obtain ⟨v,hv,hv2⟩:∃ v:Int,((ptB o.Shape s=false∧v=nn) ∨ (ptB o.Shape s=true ∧ ∃ k:Nat,Int.tmod nn ((L.length:Int) + 1)=k∧((k=L.length∧v=0) ∨ (∃ o':r26_Object,L[k]? = some o' ∧ v=o'.At))))∧(ptB o.Shape s=true→v=0 ∨ ∃ o' ∈ L,o'.At=v):=by
        cases hp:ptB o.Shape s with
        | false=>exact ⟨nn,.inl ⟨rfl,rfl⟩,fun h=>by cases h⟩
        | true =>
          by_cases hkk:k=L.length
          · exact ⟨0,.inr ⟨rfl,k,hk1,.inl ⟨hkk,rfl⟩⟩,fun _=>.inl rfl⟩
          · have hkl':k < L.length:=by omega
            exact ⟨L[k].At,.inr ⟨rfl,k,hk1,.inr ⟨L[k],by simp [hkl'],rfl⟩⟩,fun _=>.inr ⟨L[k],List.getElem_mem hkl',rfl⟩⟩
      have hw:o.At.toNat + 1 + s < ws.length:=by
        have hs':s < o.Slots.length:=by omega
        exact (List.getElem?_eq_some_iff.1 (hok.sl s o.Slots[s] (by simp [hs']))).1
      have e23:=fun n st=>k23 C.toKPu hok.sh (s:Int) n st
      have e66:∀ n g,evHF C0 K TH (n + 1) 66 [.ptr sp 0,hI o.At,hI s,hI v] (st ++ g)=some (.p (.tup []),st.set wb (wRow (ws.set (o.At.toNat + 1 + s) v)) ++ g):=fun n g=>by
        have:=C.f66 (S.app g) o.At s v (o.At.toNat + 1 + s) (by omega) (by omega) (by omega) hw
        rw [List.set_append_left _ _ lw] at this
        exact known_of this n
      obtain ⟨g,e,e3,e4⟩:=doS2 (K:=K) hk (like_of (st:=st) (st':=st.set wb (wRow (ws.set (o.At.toNat + 1 + s) v))) (List.length_set ..)) (sp:=sp) [a0,a1,a2] L kind area id slot nn mask h0 hid hsl hnn hLen i hi o ho m hm hm0 (by omega) s hs hsm (ptB o.Shape s) e23 v hv e66 0
      have hsp:=H.store ho (s:=s) (by omega) hv2
      have hlst:(st.set wb (wRow (ws.set (o.At.toNat + 1 + s) v))).length=st.length:=List.length_set ..
      have hc:=cobj_len L
      have e3':(st.set wb (wRow (ws.set (o.At.toNat + 1 + s) v)) ++ g)[st.length + 4]? = some (.row 4 L.length (((L.flatMap cr26_Object).map HV.p).set (i * 4 + 3) (.row (st.length + 6) 0 m 1))):=by rw [← hlst,getElem?_len];rw [hlst];exact e3
      have e4':(st.set wb (wRow (ws.set (o.At.toNat + 1 + s) v)) ++ g)[st.length + 6]? = some (.row 1 m (((o.Slots.set s v).flatMap (cint .i64)).map HV.p)):=by rw [← hlst,getElem?_len];exact e4
      have hcs:((o.Slots.set s v).flatMap (cint .i64)).length=m:=by rw [enl_len (sz_int .i64)];simp [hm]
      have hfree:∀ x ∈ (o.Slots.set s v).flatMap (cint .i64),x.free=true:=fun x hx=>by
        rw [cints_map] at hx;obtain ⟨a,_,rfl⟩:=List.mem_map.1 hx;rfl
      have er:rowsV (st.set wb (wRow (ws.set (o.At.toNat + 1 + s) v)) ++ g) 2 (.row (st.length + 4) 0 L.length 4)=[st.length + 4,st.length + 6]:=by
        rw [rowsV_row e3',List.drop_zero,List.take_of_length_le (by simp [hc]),rows_set,if_pos (by rw [hc];omega),rowsV_row e4',List.drop_zero,← List.map_take,rowsV_ps]
      have ic:IceTo (st.set wb (wRow (ws.set (o.At.toNat + 1 + s) v)) ++ g) (st.set wb (wRow (ws.set (o.At.toNat + 1 + s) v))).length (.row (st.length + 4) 0 L.length 4) (.sl (L.set i ⟨o.At,o.Shape,o.Slots.set s v⟩).length ((L.set i ⟨o.At,o.Shape,o.Slots.set s v⟩).flatMap cr26_Object)):=by
        refine ⟨fun a ha=>by rw [er] at ha;rw [hlst];simp at ha;omega,.inr ⟨_,_,_,_,rfl⟩,fun D hD=>?_⟩
        rw [er] at hD
        have j6:rdD (st.set wb (wRow (ws.set (o.At.toNat + 1 + s) v)) ++ g) D 3 (.row (st.length + 6) 0 m 1)=some (.sl m ((o.Slots.set s v).flatMap (cint .i64))):=by
          refine rdD_row (by simpa using hD (st.length + 6) (by simp)) e4' (by simp [hcs]) ?_
          rw [List.drop_zero,List.take_of_length_le (by simp [hcs])]
          exact allO_p hfree
        have j4:rdD (st.set wb (wRow (ws.set (o.At.toNat + 1 + s) v)) ++ g) D 4 (.row (st.length + 4) 0 L.length 4)=some (.sl L.length ((L.flatMap cr26_Object).set (i * 4 + 3) (.sl m ((o.Slots.set s v).flatMap (cint .i64))))):=by
          refine rdD_row (by simpa using hD (st.length + 4) (by simp)) e3' (by simp [hc]) ?_
          rw [List.drop_zero,List.take_of_length_le (by simp [hc])]
          exact allO_set _ (allO_p (cobj_free L)) j6
        have j5:(L.flatMap cr26_Object).set (i * 4 + 3) (.sl m ((o.Slots.set s v).flatMap (cint .i64)))=(L.set i ⟨o.At,o.Shape,o.Slots.set s v⟩).flatMap cr26_Object:=by
          have:=enl_set szr26_Object L i 3 o ⟨o.At,o.Shape,o.Slots.set s v⟩ [.sl m ((o.Slots.set s v).flatMap (cint .i64))] ho (by simp) (by simp [setCells,cr26_Object,hm])
          simpa [setCells] using this
        simp only [iceV,j4,Option.map_some,j5,List.length_set]
      obtain ⟨g',e'⟩:=lev_W (v5:=.bool true) h1 h2 rfl 90 e (iceTo_p (areas_icy _)) ic
      exact ⟨⟨_,ws.set (o.At.toNat + 1 + s) v,_,_,_,e',(S.set _ (List.length_set ..)).app g',List.length_set ..,(Keeps.set wb st _).trans (Keeps.app wb _ g'),hsp,by simp,⟨rfl,rfl⟩,rfl,rfl⟩⟩
end Go.Ab
namespace Go.Ab
open Go
set_option linter.unusedVariables false
set_option linter.unusedSimpArgs false
set_option maxRecDepth 10000
set_option maxHeartbeats 4000000
structure Same (n:Nat) (st st':HSt):Prop where
  len:st.length ≤ st'.length
  get:∀ i,i < n→st'[i]? = st[i]?
theorem Same.refl (n:Nat) (st:HSt):Same n st st:=⟨Nat.le_refl _,fun _ _=>rfl⟩
theorem Same.trans {n:Nat} {a b c:HSt} (h:Same n a b) (h':Same n b c):Same n a c:=⟨Nat.le_trans h.len h'.len,fun i hi=>(h'.get i hi).trans (h.get i hi)⟩
theorem Same.app {n:Nat} {st:HSt} (h:n ≤ st.length) (g:HSt):Same n st (st ++ g):=⟨by simp,fun i hi=>List.getElem?_append_left (by omega)⟩
theorem Same.setapp {n b:Nat} {st:HSt} (h:n ≤ st.length) (hb:n ≤ b) (x:HB) (g:HSt):Same n st (st.set b x ++ g) :=
  ⟨by simp,fun i hi=>by rw [List.getElem?_append_left (by simp;omega),List.getElem?_set_ne (by omega)]⟩
theorem Same.space {n sp wb:Nat} {ws:List Int} {st st':HSt} (h:Same n st st') (S:SpaceAt st sp wb ws) (h1:sp < n) (h2:wb < n):SpaceAt st' sp wb ws :=
  ⟨by rw [h.get _ h1];exact S.s,by rw [h.get _ h2];exact S.w⟩
theorem Same.some {n i:Nat} {st st':HSt} {x:HB} (h:Same n st st') (hi:i < n) (e:st[i]? = Option.some x):st'[i]? = Option.some x:=by rw [h.get _ hi,e]
def RowI (base:Nat) (st:HSt) (h:HV) (xs:List Int):Prop:=(xs=[]∧h = .p .nils) ∨ ∃ b,xs ≠ []∧base ≤ b∧h = .row b 0 xs.length 1∧st[b]? = some (.row 1 xs.length (xs.map fun n=>.p (.int .i64 n)))
theorem intmap (xs:List Int):(xs.map fun n=>HV.p (.int .i64 n))=(xs.flatMap (cint .i64)).map HV.p:=by rw [cints_map,List.map_map];rfl
theorem int_free (xs:List Int):∀ v ∈ xs.flatMap (cint .i64),v.free=true:=fun v hv=>by
  rw [cints_map] at hv;obtain ⟨a,_,rfl⟩:=List.mem_map.1 hv;rfl
theorem int_len (xs:List Int):(xs.flatMap (cint .i64)).length=xs.length * 1:=enl_len (sz_int .i64) xs
theorem lev_N {K:HCalls} {l li:List Nat} {f:Nat} (h1:l.contains f=false) (h2:li.contains f=true) {ws:List HV} {st g:HSt} {h:HV} {xs:List Int} (n:Nat) (e:evHF C0 K TH n f ws st=some (h,st ++ g)) (R:RowI st.length (st ++ g) h xs) :
    ∃ g',lev K l li f ws st=some (hN xs,st ++ g'):=by
  rcases R with ⟨rfl,rfl⟩ | ⟨b,hne,hb,rfl,hst⟩
  · have:=lev_i (K:=K) h1 h2 n e (r':=hN []) (by rw [rowsH_p];rfl)
    rw [rowsH_p] at this
    exact ⟨g,this⟩
  · rw [intmap] at hst
    have er:rowsH (st ++ g) 4 (.row b 0 xs.length 1)=[b]:=by
      show rowsV (st ++ g) 4 _=_
      rw [rowsV_row hst,List.drop_zero,← List.map_take,rowsV_ps]
    obtain ⟨g',hg⟩:=killD_app [b] st g (by simpa using hb)
    have:=rdD_row (k:=3) (D:=[b]) (off:=0) (len:=xs.length) (sz:=1) (by simp) hst (by rw [List.length_map,int_len];omega) (by
      rw [List.drop_zero,List.take_of_length_le (by rw [List.length_map,int_len];omega)]
      exact allO_p (int_free xs))
    have:=lev_i (K:=K) h1 h2 n e (r':=hN xs) (by
      rw [er]
      simp only [iceV,this,Option.map_some])
    exact ⟨g',by rw [this,er,hg]⟩
variable {K:HCalls}
def env76 (sp p3:Nat) (h:HV) (at':Int):HEnv:=[(0,.ptr sp 0),(3,.ptr p3 0),(5,h),(6,.p (.int .i64 at'))]
theorem step76 (B:KB K) {st:HSt} {sp wb p3 base:Nat} {ws:List Int} (S:SpaceAt st sp wb ws) (hbase:base ≤ st.length) (h1:sp < base∧wb < base∧p3 < base) {lo hi nx:Int} (e3:st[p3]? = some (.box [hI lo,hI hi,hI nx])) {o:r26_Object} (ho:ObjOk ws o) (hpos:0 < o.At) (hlt:o.At < nx) (hnx:nx < 1000000000)
    {h:HV} {xs:List Int} (hxs:xs.length < 100000) (R:RowI base st h xs) :
    ∃ st1 h1,Run C0 K TH h76l0 (env76 sp p3 h o.At,st) .norm (env76 sp p3 h1 (o.At + 1 + o.Slots.length),st1)∧RowI base st1 h1 (xs ++ [o.At])∧Same base st st1:=by
  obtain ⟨a,ha⟩:∃ a:Nat,o.At=a:=⟨o.At.toNat,by omega⟩
  have hhd:=ho.hd
  have hlen:=ho.len
  have h16:=ho.sh.2.1
  rw [ha] at hhd hlt hpos ⊢
  rw [Int.toNat_natCast] at hhd
  have f3:∀ g:HSt,(st ++ g)[p3]? = some (.box [hI lo,hI hi,hI nx]):=fun g=>by rw [List.getElem?_append_left (List.getElem?_eq_some_iff.1 e3).1];exact e3
  have e22:=fun (g:HSt) n=>e22 B (S.app g) a (by omega) ho.sh hhd n
  have e22':=fun n=>Go.Ab.e22 B S a (by omega) ho.sh hhd n
  have w1:IntKind.i64.wrap (1 + o.Shape.Slots)=1 + o.Shape.Slots:=wrap64 (by omega)
  have w2:IntKind.i64.wrap ((a:Int) + (1 + o.Shape.Slots))=(a:Int) + 1 + o.Slots.length:=by rw [wrap64 (by omega)];omega
  rcases R with ⟨rfl,rfl⟩ | ⟨b,hne,hb,rfl,hst⟩
  · apply Exists.intro
    apply Exists.intro
    refine ⟨Run.of 60 ?_,?_,?_⟩
    · simp (config:={ maxSteps:=4000000 }) [↓hs_pre,↓evP_call0',hs_eq,h76l0,env76,e3,f3,hlt,e22,e22',w1,w2]
      all_goals exact ⟨rfl,rfl⟩
    · exact .inr ⟨_,by simp,by omega,rfl,by rw [getElem?_len];rfl⟩
    · exact Same.app hbase _
  · have hbl:b < st.length:=(List.getElem?_eq_some_iff.1 hst).1
    have hx0:0 < xs.length:=List.length_pos_iff.2 hne
    obtain ⟨m,hm⟩:∃ m,xs.length=m:=⟨_,rfl⟩
    have f4:∀ g:HSt,(st ++ g)[b]? = some (.row 1 xs.length (xs.map fun n=>.p (.int .i64 n))):=fun g=>by rw [List.getElem?_append_left hbl];exact hst
    have c1:(m + 1) * 8 ≤ 1099511627776:=by omega
    have c2:m + 1 ≤ 1099511627776:=by omega
    have c3:(xs.map fun n=>HV.p (.int .i64 n)).take m=xs.map fun n=>HV.p (.int .i64 n):=List.take_of_length_le (by simp;omega)
    have f5:∀ (g:HSt) (x:HB),(st ++ g).set b x=st.set b x ++ g:=fun g x=>List.set_append_left _ _ hbl
    rw [hm] at f4
    simp only [hm]
    apply Exists.intro
    apply Exists.intro
    refine ⟨Run.of 60 ?_,?_,?_⟩
    · simp (config:={ maxSteps:=4000000 }) [↓hs_pre,↓evP_call0',hs_eq,h76l0,env76,e3,f3,f4,f5,hlt,e22,e22',w1,w2,hm,c1,c2,c3]
      all_goals exact ⟨rfl,rfl⟩
    · refine .inr ⟨_,by simp,?_,by simp [hm];rfl,?_⟩
      rotate_left
      · simp [hm]
      · omega
    · exact Same.setapp hbase hb _ _
theorem stop76 {st:HSt} {sp p3:Nat} {lo hi nx:Int} (e3:st[p3]? = some (.box [hI lo,hI hi,hI nx])) {h:HV} {base:Nat} {xs:List Int} (R:RowI base st h xs):Run C0 K TH h76l0 (env76 sp p3 h nx,st) (.exit 0) ([(5,h)],st):=by
  rcases R with ⟨rfl,rfl⟩ | ⟨b,hne,hb,rfl,hst⟩
  · refine Run.of 60 ?_
    simp (config:={ maxSteps:=4000000 }) [↓hs_pre,↓evP_call0',hs_eq,h76l0,env76,e3]
  · refine Run.of 60 ?_
    simp (config:={ maxSteps:=4000000 }) [↓hs_pre,↓evP_call0',hs_eq,h76l0,env76,e3]
theorem loop76 (B:KB K) {sp wb p3 base:Nat} {ws:List Int} (h1:sp < base∧wb < base∧p3 < base) {lo hi nx:Int} (hnx:nx < 1000000000):∀ (os:List r26_Object) (at':Int) (xs:List Int) (st:HSt) (h:HV),
    SpaceAt st sp wb ws→base ≤ st.length→st[p3]? = some (.box [hI lo,hI hi,hI nx])→(∀ o ∈ os,ObjOk ws o∧0 < o.At)→Chain at' (os.map keyOf) nx→xs.length + os.length < 100000→RowI base st h xs →
    ∃ st1 h1,Run C0 K TH (.loop h76l0 [0,3,5,6]) (env76 sp p3 h at',st) (.exit 0) ([(5,h1)],st1)∧RowI base st1 h1 (xs ++ os.map r26_Object.At)∧Same base st st1
  | [],at',xs,st,h,S,hb,e3,ho,hc,hl,R=>by
    simp only [List.map_nil,Chain] at hc
    subst hc
    exact ⟨st,h,Run.loopX (stop76 e3 R) (by simp),by simpa using R,Same.refl _ _⟩
  | o :: os,at',xs,st,h,S,hb,e3,ho,hc,hl,R=>by
    simp only [List.map_cons,Chain,keyOf] at hc
    obtain ⟨rfl,hc⟩:=hc
    obtain ⟨o1,o2⟩:=ho o (by simp)
    have hle:=hc.le
    have hl':xs.length < 100000:=by simp only [List.length_cons] at hl;omega
    obtain ⟨st1,h2,r1,R1,S1⟩:=step76 B S hb h1 e3 o1 o2 (by omega) hnx hl' R
    obtain ⟨st2,h3,r2,R2,S2⟩:=loop76 B h1 hnx os _ (xs ++ [o.At]) st1 h2 (S1.space S h1.1 h1.2.1) (Nat.le_trans hb S1.len) (S1.some h1.2.2 e3) (fun o' h'=>ho o' (by simp [h'])) hc (by simp only [List.length_append,List.length_cons,List.length_nil] at hl ⊢;omega) R1
    refine ⟨st2,h3,Run.loopN r1 ?_,by simpa using R2,S1.trans S2⟩
    have:(env76 sp p3 h2 (o.At + 1 + o.Slots.length)).keep [0,3,5,6]=env76 sp p3 h2 (o.At + 1 + o.Slots.length):=by simp [env76,HEnv.keep]
    rw [this]
    exact r2
theorem e76 (B:KB K) {st:HSt} {sp wb:Nat} {ws:List Int} (S:SpaceAt st sp wb ws) {a:Area} (ha:a.Next < 1000000000) {os:List r26_Object} (ho:∀ o ∈ os,ObjOk ws o∧0 < o.At) (hc:Chain a.Lo (os.map keyOf) a.Next) (hl:os.length < 100000) :
    ∃ g h n,evHF C0 K TH n 76 [.ptr sp 0,hA a] st=some (h,st ++ g)∧RowI st.length (st ++ g) h (os.map r26_Object.At):=by
  obtain ⟨l1,l2,l3⟩:=S.lt
  have e3:(st ++ [HB.box [hI a.Lo,hI a.Hi,hI a.Next]])[st.length]? = some (.box [hI a.Lo,hI a.Hi,hI a.Next]):=by rw [getElem?_len0];rfl
  obtain ⟨st1,h1,r1,R1,S1⟩:=loop76 B (base:=st.length + 1) (p3:=st.length) (ws:=ws) ⟨by omega,by omega,by omega⟩ ha os a.Lo [] _ (.p .nils) (S.app [.box [hI a.Lo,hI a.Hi,hI a.Next]]) (by simp) e3 ho hc (by simpa using hl) (.inl ⟨rfl,rfl⟩)
  obtain ⟨n0,hn0⟩:=Run.all r1
  simp only [env76] at hn0
  obtain ⟨g,rfl⟩:∃ g,st1=st ++ g:=⟨st1.drop st.length,by
    apply List.ext_getElem?
    intro i
    by_cases hi:i < st.length
    · rw [List.getElem?_append_left hi,S1.get i (by omega),List.getElem?_append_left hi]
    · rw [List.getElem?_append_right (by omega),List.getElem?_drop];congr 1;omega⟩
  refine ⟨g,h1,n0 + 60,?_,?_⟩
  · refine evHF_in (n:=n0 + 59) (B.no 76 rfl) (x:=h76) rfl rfl ?_
    rcases R1 with ⟨h3,rfl⟩ | ⟨b,hne,hb,rfl,hst⟩
    · simp (config:={ maxSteps:=4000000 }) [↓hs_pre,↓evP_call0',hs_eq,h76,hn0]
    · simp (config:={ maxSteps:=4000000 }) [↓hs_pre,↓evP_call0',hs_eq,h76,hn0]
  · rcases R1 with ⟨h3,rfl⟩ | ⟨b,hne,hb,rfl,hst⟩
    · exact .inl ⟨by simpa using h3,rfl⟩
    · exact .inr ⟨b,by simpa using hne,by omega,rfl,by simpa using hst⟩
end Go.Ab
namespace Go.Ab
open Go
set_option linter.unusedVariables false
set_option linter.unusedSimpArgs false
set_option maxRecDepth 10000
set_option maxHeartbeats 4000000
structure KD (K:HCalls):Prop extends KC K where
  f64:∀ (a b c:Int) (st:HSt) (h:0 ≤ a∧a ≤ 2000000∧0 ≤ b∧b ≤ 2000000∧0 ≤ c∧c ≤ 2000000),
    ∃ g,K 64 [.row st.length 0 3 1] (st ++ [.row 1 3 [hI a,hI b,hI c]])=some (.tup [.ptr (st.length + 8) 0,.row (st.length + 6) 0 3 3],st ++ g)∧g.length=9 ∧
      g[6]? = some (.row 3 3 [hI 1,hI (1 + a),hI 1,hI (1 + a),hI (1 + a + b),hI (1 + a),hI (1 + a + b),hI (1 + a + b + c),hI (1 + a + b)]) ∧
      g[7]? = some (wRow (List.replicate (1 + a + b + c).toNat 0))∧g[8]? = some (.box [.row (st.length + 7) 0 (1 + a + b + c).toNat 1])
  f76:∀ {st:HSt} {sp wb:Nat} {ws:List Int} (S:SpaceAt st sp wb ws) {a:Area} (ha:a.Next < 1000000000) {os:List r26_Object} (ho:∀ o ∈ os,ObjOk ws o∧0 < o.At) (hc:Chain a.Lo (os.map keyOf) a.Next) (hl:os.length < 100000),
    ∃ g,K 76 [.ptr sp 0,hA a] st=some (hN (os.map r26_Object.At),st ++ g)
theorem KD_of {K:HCalls} (B:KB K) (hk:∀ ws st,K 114 ws st = .none) {l li:List Nat} (h1:l.contains 22=true∧l.contains 24=true∧l.contains 65=true∧l.contains 66=true∧l.contains 114=false∧li.contains 114=true)
    (h2:l.contains 64=true∧l.contains 76=false∧li.contains 76=true) (hp:lp.all (fun f=>!l.contains f && !li.contains f)=true):KD (lev K l li) where
  toKC:=KC_of B hk h1 hp
  f64 a b c st h:=by
    obtain ⟨g,e,h3⟩:=e64 B 0 a b c st h
    exact ⟨g,lev_a h2.1 40 e,h3⟩
  f76 S _ ha _ ho hc hl:=by
    obtain ⟨g,h,n,e,R⟩:=e76 B S ha ho hc hl
    exact lev_N h2.2.1 h2.2.2 n e R
variable {K:HCalls}
theorem e68 (C:KD K) (hk:∀ ws st,K 68 ws st = .none) (z:Int) (h:0 ≤ z∧z ≤ 255) (N:Int) (hN:N=z.tmod 60 + 20) (st:HSt) :
    ∃ g,evHF C0 K TH 60 68 [.p (.int .u8 z)] st=some (.agg [.ptr (st.length + 8) 0,.row (st.length + 6) 0 3 3,.p .nils],st ++ g)∧g[6]? = some (.row 3 3 (([⟨1,1 + N,1⟩,⟨1 + N,1 + N + N,1 + N⟩,⟨1 + N + N,1 + N + N + 2 * N,1 + N + N⟩]:List Area).flatMap cArea |>.map .p)) ∧
      g[7]? = some (wRow (List.replicate (1 + N + N + 2 * N).toNat 0))∧g[8]? = some (.box [.row (st.length + 7) 0 (1 + N + N + 2 * N).toNat 1]):=by
  have h2:20 ≤ N∧N < 80:=by
    have h3:0 ≤ z.tmod 60:=Int.tmod_nonneg _ h.1
    have h4:z.tmod 60 < 60:=Int.tmod_lt_of_pos _ (by decide)
    omega
  have w0:IntKind.i64.wrap z=z:=wrap64 (by omega)
  have w1:IntKind.i64.wrap (z.tmod 60 + 20)=N:=by rw [← hN];exact wrap64 (by omega)
  have w2:IntKind.i64.wrap (2 * N)=2 * N:=wrap64 (by omega)
  obtain ⟨g,e,hg,g6,g7,g8⟩:=C.f64 N N (2 * N) st (by omega)
  have e':=fun n=>known_of e n
  refine ⟨g ++ [.box [.ptr (st.length + 8) 0,.row (st.length + 6) 0 3 3,.p .nils]],evHF_in (n:=59) hk (x:=h68) rfl rfl ?_,?_,?_,?_⟩
  · simp (config:={ maxSteps:=4000000 }) [↓hs_pre,↓evP_call0',hs_eq,h68,w0,w1,w2,e',hg]
  · rw [List.getElem?_append_left (by omega),g6];rfl
  · rw [List.getElem?_append_left (by omega),g7]
  · rw [List.getElem?_append_left (by omega),g8]
theorem spc_nil (N:Int) (hN:20 ≤ N):Spc (List.replicate (1 + N + N + 2 * N).toNat 0) [⟨1,1 + N,1⟩,⟨1 + N,1 + N + N,1 + N⟩,⟨1 + N + N,1 + N + N + 2 * N,1 + N + N⟩] []:=by
  refine ⟨⟨?_,?_,fun k hk=>(by cases hk),?_,List.Pairwise.nil⟩,fun o h=>(by cases h),fun o h=>(by cases h),?_⟩
  · simp;omega
  · simp [Chain]
  · simp;omega
  · simp;omega
theorem kBegin (C:KD K) (hk:∀ ws st,K 68 ws st = .none) {l li:List Nat} (h1:l.contains 68=false) (h2:li.contains 68=true) (z:Int) (h:0 ≤ z∧z ≤ 255) (st:HSt) :
    ∃ N sp wb g,(20 ≤ N∧N < 80)∧lev K l li 68 [.p (.int .u8 z)] st=some (hW sp [⟨1,1 + N,1⟩,⟨1 + N,1 + N + N,1 + N⟩,⟨1 + N + N,1 + N + N + 2 * N,1 + N + N⟩] [],st ++ g) ∧
      SpaceAt (st ++ g) sp wb (List.replicate (1 + N + N + 2 * N).toNat 0):=by
  have hN:20 ≤ z.tmod 60 + 20∧z.tmod 60 + 20 < 80:=by
    have h3:0 ≤ z.tmod 60:=Int.tmod_nonneg _ h.1
    have h4:z.tmod 60 < 60:=Int.tmod_lt_of_pos _ (by decide)
    omega
  obtain ⟨N,hN1⟩:∃ N,N=z.tmod 60 + 20:=⟨_,rfl⟩
  obtain ⟨g,e,g6,g7,g8⟩:=e68 C hk z h N hN1 st
  rw [← hN1] at hN
  have e6:(st ++ g)[st.length + 6]? = _:=(getElem?_len st g 6).trans g6
  have e7:(st ++ g)[st.length + 7]? = _:=(getElem?_len st g 7).trans g7
  have e8:(st ++ g)[st.length + 8]? = _:=(getElem?_len st g 8).trans g8
  have er:rowsH (st ++ g) 4 (.agg [.ptr (st.length + 8) 0,.row (st.length + 6) 0 3 3,.p .nils])=[st.length + 6]:=by
    have q1:rowsH (st ++ g) 3 (.ptr (st.length + 8) 0)=[]:=rfl
    have q2:rowsH (st ++ g) 3 (.row (st.length + 6) 0 3 3)=[st.length + 6]:=by
      show rowsV (st ++ g) 3 _=_
      rw [rowsV_row e6,List.drop_zero,← List.map_take,rowsV_ps]
    simp only [rowsH,List.flatMap_cons,List.flatMap_nil]
    have q3:rowsV (st ++ g) (Nat.succ 2) (.ptr (st.length + 8) 0)=[]:=rfl
    have q4:rowsV (st ++ g) (Nat.succ 2) (.row (st.length + 6) 0 3 3)=[st.length + 6]:=q2
    simp only [q3,q4,rowsV_p,List.nil_append,List.append_nil]
  obtain ⟨g',hg⟩:=killD_app [st.length + 6] st g (by simp)
  have hr:=rdD_row (k:=3) (D:=[st.length + 6]) (off:=0) (len:=3) (sz:=3) (by simp) e6 (by simp [cArea]) (by
    rw [List.drop_zero,List.take_of_length_le (by simp [cArea])]
    exact allO_p (areas_free _))
  have:=lev_i (K:=K) h1 h2 60 e (r':=hW (st.length + 8) [⟨1,1 + N,1⟩,⟨1 + N,1 + N + N,1 + N⟩,⟨1 + N + N,1 + N + N + 2 * N,1 + N + N⟩] []) (by
    rw [er]
    simp only [iceV,allO,hr,Option.map_some]
    rfl)
  rw [er,hg] at this
  refine ⟨N,st.length + 8,st.length + 7,g',hN,this,?_⟩
  have kd:=killD_get [st.length + 6] (st ++ g)
  rw [hg] at kd
  refine ⟨?_,?_⟩
  · rw [kd,if_neg (by simp),e8,List.length_replicate]
  · rw [kd,if_neg (by simp),e7]
structure KE (K:HCalls):Prop extends KPu K where
  f22:∀ {st:HSt} {sp wb:Nat} {ws:List Int} {x:Shape} (S:SpaceAt st sp wb ws) (i:Nat) (h0:0 < i) (hx:OkSh x) (hv:ws[i]? = some (hdB x)),
    K 22 [.ptr sp 0,hI i] st=some (.p (.tup [.agg [.int .i64 x.Slots,.int .i64 x.Mask],.int .i64 0]),st ++ [.box [hI x.Slots,hI x.Mask]])
  f24:∀ {st:HSt} {sp wb:Nat} {ws:List Int} (S:SpaceAt st sp wb ws) (a s:Int) (i:Nat) (h0:0 ≤ a∧0 ≤ s) (hi:a + 1 + s=(i:Int)) (hb:i < 140737488355328) (v:Int) (hv:ws[i]? = some v),K 24 [.ptr sp 0,hI a,hI s] st=some (hI v,st)
  f76:∀ {st:HSt} {sp wb:Nat} {ws:List Int} (S:SpaceAt st sp wb ws) {a:Area} (ha:a.Next < 1000000000) {os:List r26_Object} (ho:∀ o ∈ os,ObjOk ws o∧0 < o.At) (hc:Chain a.Lo (os.map keyOf) a.Next) (hl:os.length < 100000),
    ∃ g,K 76 [.ptr sp 0,hA a] st=some (hN (os.map r26_Object.At),st ++ g)
  f68:∀ (z:Int) (h:0 ≤ z∧z ≤ 255) (st:HSt),∃ N sp wb g,(20 ≤ N∧N < 80)∧K 68 [.p (.int .u8 z)] st=some (hW sp [⟨1,1 + N,1⟩,⟨1 + N,1 + N + N,1 + N⟩,⟨1 + N + N,1 + N + N + 2 * N,1 + N + N⟩] [],st ++ g) ∧
      SpaceAt (st ++ g) sp wb (List.replicate (1 + N + N + 2 * N).toNat 0)
  f69:∀ {st:HSt} {sp wb:Nat} {ws:List Int} {a0 a1 a2:Area} {L:List r26_Object} (S:SpaceAt st sp wb ws) (hb:ws.length < 1000000000) (H:Spc ws [a0,a1,a2] L) (hLen:L.length < 100000) (kind area id slot nn mask:Int) (hid:0 ≤ id∧id < 256) (har:0 ≤ area∧area < 256) (hsl:0 ≤ slot∧slot < 256) (hnn:0 ≤ nn∧nn < 256) (hma:0 ≤ mask∧mask < 65536),
    DoneW K [hW sp [a0,a1,a2] L,hOp kind area id slot nn mask] 69 st sp wb ws a0 a1 a2 L
theorem KE_of (C:KD K) (hk:(∀ ws st,K 68 ws st = .none) ∧ ∀ ws st,K 69 ws st = .none) {l li:List Nat} (h1:l.contains 68=false∧li.contains 68=true∧l.contains 69=false∧li.contains 69=true)
    (hp:([22,24,76] ++ lp).all (fun f=>!l.contains f && !li.contains f)=true):KE (lev K l li):=by
  have hn:∀ f,([22,24,76] ++ lp).contains f=true→lev K l li f=K f:=fun f hf=>by
    have:=List.all_eq_true.1 hp f (by simpa using hf)
    simp only [Bool.and_eq_true,Bool.not_eq_true'] at this
    exact lev_none this.1 this.2
  refine { pu:=fun f hf=>?_,f22:=fun S i h0 hx hv=>?_,f24:=fun S a s i h0 hi hb v hv=>?_,f76:=fun S _ ha _ ho hc hl=>?_,f68:=fun z h st=>?_,f69:=fun S hb H hLen kind area id slot nn mask hid har hsl hnn hma=>?_ }
  · rw [hn f (by simp at hf ⊢;simp [hf])];exact C.pu f hf
  · rw [hn 22 (by decide)];exact C.f22 S i h0 hx hv
  · rw [hn 24 (by decide)];exact C.f24 S a s i h0 hi hb v hv
  · rw [hn 76 (by decide)];exact C.f76 S ha ho hc hl
  · exact kBegin C hk.1 h1.1 h1.2.1 z h st
  · by_cases h0:kind=0
    · subst h0
      exact kDoMake C.toKC hk.2 h1.2.2.1 h1.2.2.2 S hb H hLen area id slot nn mask har hsl hma
    · exact kDoStore C.toKC hk.2 h1.2.2.1 h1.2.2.2 S hb H hLen kind area id slot nn mask h0 hid hsl hnn
end Go.Ab
namespace Go.Ab
open Go
set_option linter.unusedVariables false
set_option linter.unusedSimpArgs false
set_option maxRecDepth 10000
set_option maxHeartbeats 4000000
variable {K:HCalls}
abbrev hOps (ops:List l26_Op):HV:=.p (.sl ops.length (ops.flatMap cl26_Op))
def OkOp (o:l26_Op):Prop:=(0 ≤ o.Id∧o.Id < 256)∧(0 ≤ o.Area∧o.Area < 256)∧(0 ≤ o.Slot∧o.Slot < 256)∧(0 ≤ o.N∧o.N < 256)∧(0 ≤ o.Mask∧o.Mask < 65536)
def env16 (ops:List l26_Op) (v4:HV) (p6 i:Nat):HEnv:=[(1,hOps ops),(4,v4),(6,.ptr p6 0),(7,.p (.bool true)),(8,hI i)]
theorem stop16 (ops:List l26_Op) (v4:HV) (p6 i:Nat) (h:¬ i < ops.length) (st:HSt):Run C0 K TH h16l0 (env16 ops v4 p6 i,st) (.exit 0) ([(4,v4),(6,.ptr p6 0),(7,.p (.bool true))],st):=by
  have h':¬ (i:Int) < ops.length:=by omega
  refine Run.of 60 ?_
  simp (config:={ maxSteps:=4000000 }) [↓hs_pre,↓evP_call0',hs_eq,h16l0,env16,h,h']
theorem step16 (ops:List l26_Op) (p4 p6 i:Nat) (o:l26_Op) (ho:ops[i]? = some o) (hl:ops.length < 100000) (st st':HSt) (h3 h4 h5 h3' h4' h5':HV) (hone:HV.one h3' = true∧HV.one h4' = true∧HV.one h5' = true) (hnp:∀ v,h3 ≠ .p v) (hnp':∀ v,h3' ≠ .p v) (e6:st[p6]? = some (.box [h3,h4,h5])) (e6':st'[p6]? = some (.box [h3,h4,h5]))
    (e69:∀ n,evHF C0 K TH (n + 1) 69 [.agg [h3,h4,h5],hOp o.Kind o.Area o.Id o.Slot o.N o.Mask] st=some (.tup [.agg [h3',h4',h5'],.p (.bool true)],st')) :
    Run C0 K TH h16l0 (env16 ops (.ptr p4 0) p6 i,st) .norm (env16 ops (.ptr p4 0) p6 (i + 1),st'.set p6 (.box [h3',h4',h5'])):=by
  have hlt:i < ops.length:=(List.getElem?_eq_some_iff.1 ho).1
  have hlt':(i:Int) < ops.length:=by omega
  have c1:((ops.flatMap cl26_Op).drop (i * 6)).take 6=[.int .i64 o.Kind,.int .u8 o.Area,.int .u8 o.Id,.int .u8 o.Slot,.int .u8 o.N,.int .u16 o.Mask]:=enl_drop_take szl26_Op ops i o ho
  have w:=wrN (i:=i) (by omega)
  have q1:∀ (l:List HV),allP (h3 :: l)=none:=fun l=>by cases h3 <;> first | rfl | exact absurd rfl (hnp _)
  have q2:∀ (l:List HV),allP (h3' :: l)=none:=fun l=>by cases h3' <;> first | rfl | exact absurd rfl (hnp' _)
  obtain ⟨o1,o2,o3⟩:=hone
  refine Run.of 60 ?_
  simp (config:={ maxSteps:=4000000 }) [↓hs_pre,↓evP_call0',hs_eq,h16l0,env16,hlt,hlt',c1,w,e6,e6',e69,q1,q2,o1,o2,o3]
theorem step16a (ops:List l26_Op) (p6 i:Nat) (o:l26_Op) (ho:ops[i]? = some o) (hl:ops.length < 100000) (st st':HSt) (h3 h4 h5 h3' h4' h5':HV) (hone:HV.one h3' = true∧HV.one h4' = true∧HV.one h5' = true) (hnp:∀ v,h3 ≠ .p v) (hnp':∀ v,h3' ≠ .p v) (e6:st[p6]? = some (.box [h3,h4,h5])) (e6':st'[p6]? = some (.box [h3,h4,h5]))
    (e69:∀ n,evHF C0 K TH (n + 1) 69 [.agg [h3,h4,h5],hOp o.Kind o.Area o.Id o.Slot o.N o.Mask] (st ++ [.box [.p .nilp,.p .nils,.p .nils]])=some (.tup [.agg [h3',h4',h5'],.p (.bool true)],st')) :
    Run C0 K TH h16l0 (env16 ops (.p (.box [.nilp,.nils,.nils])) p6 i,st) .norm (env16 ops (.ptr st.length 0) p6 (i + 1),st'.set p6 (.box [h3',h4',h5'])):=by
  have e6a:∀ g:HSt,(st ++ g)[p6]? = some (.box [h3,h4,h5]):=fun g=>by rw [List.getElem?_append_left (List.getElem?_eq_some_iff.1 e6).1];exact e6
  have hlt:i < ops.length:=(List.getElem?_eq_some_iff.1 ho).1
  have hlt':(i:Int) < ops.length:=by omega
  have c1:((ops.flatMap cl26_Op).drop (i * 6)).take 6=[.int .i64 o.Kind,.int .u8 o.Area,.int .u8 o.Id,.int .u8 o.Slot,.int .u8 o.N,.int .u16 o.Mask]:=enl_drop_take szl26_Op ops i o ho
  have w:=wrN (i:=i) (by omega)
  have q1:∀ (l:List HV),allP (h3 :: l)=none:=fun l=>by cases h3 <;> first | rfl | exact absurd rfl (hnp _)
  have q2:∀ (l:List HV),allP (h3' :: l)=none:=fun l=>by cases h3' <;> first | rfl | exact absurd rfl (hnp' _)
  obtain ⟨o1,o2,o3⟩:=hone
  refine Run.of 60 ?_
  simp (config:={ maxSteps:=4000000 }) [↓hs_pre,↓evP_call0',hs_eq,h16l0,env16,hlt,hlt',c1,w,e6,e6a,e6',e69,q1,q2,o1,o2,o3]
structure WorldAt (Ps:List Nat) (st:HSt) (p:Nat) (ops:Nat) (N:Int):Prop where
  ex:∃ sp wb ws b0 b1 L,st[p]? = some (.box [.ptr sp 0,hAs [b0,b1,⟨1 + N + N,1 + N + N + 2 * N,1 + N + N⟩],hL L])∧SpaceAt st sp wb ws∧ws.length=(1 + N + N + 2 * N).toNat∧Spc ws [b0,b1,⟨1 + N + N,1 + N + N + 2 * N,1 + N + N⟩] L∧L.length ≤ ops∧(b0.Lo=1∧b0.Hi=1 + N)∧(b1.Lo=1 + N∧b1.Hi=1 + N + N)∧p ≠ sp∧p ≠ wb ∧ ∀ q ∈ Ps,q ≠ p∧q ≠ wb∧st[q]? = some (.box [.p .nilp,.p .nils,.p .nils])
theorem world_step (C:KE K) {st:HSt} {Ps:List Nat} {p:Nat} {N:Int} {m:Nat} (hN:20 ≤ N∧N < 80) (hm:m < 10000) (W:WorldAt Ps st p m N) (o:l26_Op) (ho:OkOp o) :
    ∃ st' h3 h4 h5 h3' h4' h5',st[p]? = some (.box [h3,h4,h5])∧st'[p]? = some (.box [h3,h4,h5])∧(HV.one h3' = true∧HV.one h4' = true∧HV.one h5' = true)∧(∀ v,h3 ≠ .p v)∧(∀ v,h3' ≠ .p v) ∧
      K 69 [.agg [h3,h4,h5],hOp o.Kind o.Area o.Id o.Slot o.N o.Mask] st=some (.tup [.agg [h3',h4',h5'],.p (.bool true)],st')∧WorldAt Ps (st'.set p (.box [h3',h4',h5'])) p (m + 1) N∧st.length ≤ st'.length:=by
  obtain ⟨sp,wb,ws,b0,b1,L,e,S,hw,H,hl,h0,h1,n1,n2,nq⟩:=W.ex
  obtain ⟨o1,o2,o3,o4,o5⟩:=ho
  obtain ⟨st',ws',c0,c1,L',f1,S',hw',Kp,H',hl',i0,i1,i2⟩:=(C.f69 S (by omega) H (by omega) o.Kind o.Area o.Id o.Slot o.N o.Mask o1 o2 o3 o4 o5).ex
  have ep:=Kp.some e n2
  have hpl:=(List.getElem?_eq_some_iff.1 ep).1
  refine ⟨st',_,_,_,_,_,_,e,ep,⟨rfl,rfl,rfl⟩,fun v h=>(by cases h),fun v h=>(by cases h),f1,⟨sp,wb,ws',c0,c1,L',by rw [List.getElem?_set_self hpl],⟨by rw [List.getElem?_set_ne n1];exact S'.s,by rw [List.getElem?_set_ne n2];exact S'.w⟩,by omega,H',by omega,⟨by omega,by omega⟩,⟨by omega,by omega⟩,n1,n2,fun q hq=>⟨(nq q hq).1,(nq q hq).2.1,by rw [List.getElem?_set_ne (fun h=>(nq q hq).1 h.symm)];exact Kp.some (nq q hq).2.2 (nq q hq).2.1⟩⟩,Kp.len⟩
theorem loop16 (C:KE K) {Ps:List Nat} {N:Int} (hN:20 ≤ N∧N < 80) (ops:List l26_Op) (hops:∀ o ∈ ops,OkOp o) (hl:ops.length < 1000) (p4 p6:Nat):∀ (k i m:Nat) (st:HSt),ops.length - i=k→i ≤ ops.length→m + k < 10000→WorldAt Ps st p6 m N →
    ∃ st' m',Run C0 K TH (.loop h16l0 [1,4,6,7,8]) (env16 ops (.ptr p4 0) p6 i,st) (.exit 0) ([(4,.ptr p4 0),(6,.ptr p6 0),(7,.p (.bool true))],st')∧WorldAt Ps st' p6 m' N∧m' ≤ m + k∧st.length ≤ st'.length
  | 0,i,m,st,hk,hi,hm,W=>⟨st,m,Run.loopX (stop16 ops _ p6 i (by omega) st) (by simp),W,by omega,Nat.le_refl _⟩
  | k + 1,i,m,st,hk,hi,hm,W=>by
    have hil:i < ops.length:=by omega
    obtain ⟨st1,h3,h4,h5,h3',h4',h5',e1,e2,ho,n1,n2,e3,W2,hle⟩:=world_step C hN (by omega) W ops[i] (hops _ (List.getElem_mem hil))
    have r1:=step16 ops p4 p6 i ops[i] (by simp [hil]) (by omega) st st1 h3 h4 h5 h3' h4' h5' ho n1 n2 e1 e2 (fun n=>known_of e3 n)
    obtain ⟨st2,m',r2,W3,h6,h7⟩:=loop16 C hN ops hops hl p4 p6 k (i + 1) (m + 1) _ (by omega) (by omega) (by omega) W2
    refine ⟨st2,m',Run.loopN r1 ?_,W3,by omega,by rw [List.length_set] at h7;omega⟩
    exact r2
theorem e16 (C:KE K) (hk:∀ ws st,K 16 ws st = .none) {z:Int} (hz:0 ≤ z∧z ≤ 255) (ops:List l26_Op) (hops:∀ o ∈ ops,OkOp o) (hl:ops.length < 1000) (st:HSt) :
    ∃ n N st' sp wb ws b0 b1 L,(20 ≤ N∧N < 80)∧evHF C0 K TH n 16 [.p (.int .u8 z),hOps ops] st=some (.tup [hW sp [b0,b1,⟨1 + N + N,1 + N + N + 2 * N,1 + N + N⟩] L,.p (.bool true)],st')∧SpaceAt st' sp wb ws∧ws.length=(1 + N + N + 2 * N).toNat ∧
      Spc ws [b0,b1,⟨1 + N + N,1 + N + N + 2 * N,1 + N + N⟩] L∧L.length ≤ 1000∧(b0.Lo=1∧b0.Hi=1 + N)∧(b1.Lo=1 + N∧b1.Hi=1 + N + N):=by
  obtain ⟨N,sp,wb,g,hN,f1,S⟩:=C.f68 z hz st
  obtain ⟨l1,l2,l3⟩:=S.lt
  have f1':=fun n=>known_of f1 n
  have hlen:(List.replicate (1 + N + N + 2 * N).toNat (0:Int)).length=(1 + N + N + 2 * N).toNat:=List.length_replicate ..
  obtain ⟨bw,hbw⟩:∃ bw,bw=HB.box [.ptr sp 0,hAs [⟨1,1 + N,1⟩,⟨1 + N,1 + N + N,1 + N⟩,⟨1 + N + N,1 + N + N + 2 * N,1 + N + N⟩],hL []]:=⟨_,rfl⟩
  have W:∀ g':HSt,WorldAt [] (st ++ (g ++ bw :: g')) (st.length + g.length) 0 N:=fun g'=>by
    have e:(st ++ (g ++ bw :: g'))[st.length + g.length]? = some bw:=by rw [getElem?_len,getElem?_len0];rfl
    have e2:st ++ (g ++ bw :: g')=st ++ g ++ bw :: g':=(List.append_assoc ..).symm
    refine ⟨sp,wb,_,_,_,_,by rw [e,hbw],by rw [e2];exact S.app _,hlen,spc_nil N hN.1,Nat.le_refl _,⟨rfl,rfl⟩,⟨rfl,rfl⟩,?_,?_,fun q h=>by cases h⟩
    · rw [List.length_append] at l1;omega
    · rw [List.length_append] at l2;omega
  have fin:∀ (v4:HV) (st2:HSt) (m:Nat) (Ps:List Nat),WorldAt Ps st2 (st.length + g.length) m N→m ≤ 1000→(v4 = .p (.box [.nilp,.nils,.nils]) ∨ ∃ p4 ∈ Ps,v4 = .ptr p4 0)→Run C0 K TH (.loop h16l0 [1,4,6,7,8]) (env16 ops (.p (.box [.nilp,.nils,.nils])) (st.length + g.length) 0,st ++ (g ++ [bw])) (.exit 0) ([(4,v4),(6,.ptr (st.length + g.length) 0),(7,.p (.bool true))],st2) →
      ∃ n N st' sp wb ws b0 b1 L,(20 ≤ N∧N < 80)∧evHF C0 K TH n 16 [.p (.int .u8 z),hOps ops] st=some (.tup [hW sp [b0,b1,⟨1 + N + N,1 + N + N + 2 * N,1 + N + N⟩] L,.p (.bool true)],st')∧SpaceAt st' sp wb ws∧ws.length=(1 + N + N + 2 * N).toNat ∧
        Spc ws [b0,b1,⟨1 + N + N,1 + N + N + 2 * N,1 + N + N⟩] L∧L.length ≤ 1000∧(b0.Lo=1∧b0.Hi=1 + N)∧(b1.Lo=1 + N∧b1.Hi=1 + N + N):=fun v4 st2 m Ps W2 hm hv r=>by
    obtain ⟨n0,hn0⟩:=Run.all r
    have z0:((0:Nat):Int)=0:=rfl
    simp only [env16,hbw,hI,z0] at hn0
    obtain ⟨sp2,wb2,ws2,b0,b1,L,e,S2,hw,H,hl2,h0,h1,n1,n2,nq⟩:=W2.ex
    rcases hv with rfl | ⟨p4,hp4,rfl⟩
    · refine ⟨n0 + 60,N,st2 ++ [.box [.ptr sp2 0,hAs [b0,b1,⟨1 + N + N,1 + N + N + 2 * N,1 + N + N⟩],hL L]],sp2,wb2,ws2,b0,b1,L,hN,evHF_in (n:=n0 + 59) hk (x:=h16) rfl rfl ?_,?_,hw,H,by omega,h0,h1⟩
      · simp (config:={ maxSteps:=4000000 }) [↓hs_pre,↓evP_call0',hs_eq,h16,f1',hn0,e]
      · exact S2.app _
    · obtain ⟨q1,q2,q3⟩:=nq p4 hp4
      have q4:p4 < st2.length:=(List.getElem?_eq_some_iff.1 q3).1
      have q6:∀ x:HB,(st2.set p4 x)[p4]? = some x:=fun x=>List.getElem?_set_self q4
      refine ⟨n0 + 60,N,st2.set p4 (.box [.ptr sp2 0,hAs [b0,b1,⟨1 + N + N,1 + N + N + 2 * N,1 + N + N⟩],hL L]),sp2,wb2,ws2,b0,b1,L,hN,evHF_in (n:=n0 + 59) hk (x:=h16) rfl rfl ?_,?_,hw,H,by omega,h0,h1⟩
      · simp (config:={ maxSteps:=4000000 }) [↓hs_pre,↓evP_call0',hs_eq,h16,f1',hn0,e,q3,q6]
      · have q5:p4 ≠ sp2:=fun h=>by have:=S2.s;rw [← h,q3] at this;simp at this
        exact ⟨by rw [List.getElem?_set_ne q5];exact S2.s,by rw [List.getElem?_set_ne q2];exact S2.w⟩
  cases hops0:ops with
  | nil =>
    subst hops0
    exact fin _ _ 0 [] (W []) (by omega) (.inl rfl) (Run.loopX (stop16 [] _ _ 0 (by simp) _) (by simp))
  | cons o os =>
    have W0:WorldAt [(st ++ (g ++ [bw])).length] (st ++ (g ++ [bw]) ++ [.box [.p .nilp,.p .nils,.p .nils]]) (st.length + g.length) 0 N:=by
      have:=(W [.box [.p .nilp,.p .nils,.p .nils]]).ex
      have e2:st ++ (g ++ bw :: [.box [.p .nilp,.p .nils,.p .nils]])=st ++ (g ++ [bw]) ++ [.box [.p .nilp,.p .nils,.p .nils]]:=by simp
      rw [e2] at this
      obtain ⟨sp2,wb2,ws2,b0,b1,L,e,S2,hw,H,hl2,h0,h1,n1,n2,_⟩:=this
      refine ⟨⟨sp2,wb2,ws2,b0,b1,L,e,S2,hw,H,hl2,h0,h1,n1,n2,fun q hq=>?_⟩⟩
      simp only [List.mem_singleton] at hq
      subst hq
      have q3:(st ++ (g ++ [bw]) ++ [HB.box [.p .nilp,.p .nils,.p .nils]])[(st ++ (g ++ [bw])).length]? = some (.box [.p .nilp,.p .nils,.p .nils]):=by rw [getElem?_len0];rfl
      refine ⟨by rw [List.length_append,List.length_append];simp <;> omega,fun h=>?_,q3⟩
      have:=S2.w
      rw [← h,q3] at this
      simp at this
    obtain ⟨st1,h3,h4,h5,h3',h4',h5',e1,e2,ho,n1,n2,e3,W2,hle⟩:=world_step C hN (by omega) W0 o (hops o (by rw [hops0];simp))
    have ebw:(st ++ (g ++ [bw]))[st.length + g.length]? = some (.box [h3,h4,h5]):=by
      have e1':=e1
      rw [List.getElem?_append_left (by rw [List.length_append,List.length_append];simp)] at e1'
      exact e1'
    have r1:=step16a ops (st.length + g.length) 0 o (by rw [hops0];rfl) (by omega) (st ++ (g ++ [bw])) st1 h3 h4 h5 h3' h4' h5' ho n1 n2 ebw e2 (fun n=>known_of e3 n)
    obtain ⟨st2,m',r2,W3,h6,h7⟩:=loop16 C hN ops hops hl (st ++ (g ++ [bw])).length (st.length + g.length) (ops.length - 1) 1 1 _ rfl (by rw [hops0];simp) (by omega) W2
    rw [← hops0]
    refine fin _ st2 m' _ W3 (by omega) (.inr ⟨_,by simp,rfl⟩) (Run.loopN r1 r2)
end Go.Ab
namespace Go.Ab
open Go
set_option linter.unusedVariables false
set_option linter.unusedSimpArgs false
set_option maxRecDepth 10000
set_option maxHeartbeats 4000000
variable {K:HCalls}
def Sh (ah:HV):Prop:=(∃ n cs,ah = .p (.sl n cs)) ∨ ∃ b o n z,ah = .row b o n z
def AreasAt (st:HSt) (ah:HV) (ars:List Area):Prop:=ah=hAs ars ∨ ∃ b,ah = .row b 0 ars.length 3∧st[b]? = some (.row 3 ars.length ((ars.flatMap cArea).map .p))
theorem AreasAt.sh {st:HSt} {ah:HV} {ars:List Area} (h:AreasAt st ah ars):Sh ah:=by
  rcases h with rfl | ⟨b,rfl,_⟩
  · exact .inl ⟨_,_,rfl⟩
  · exact .inr ⟨_,_,_,_,rfl⟩
theorem AreasAt.app {st:HSt} {ah:HV} {ars:List Area} (h:AreasAt st ah ars) (g:HSt):AreasAt (st ++ g) ah ars:=by
  rcases h with h | ⟨b,h1,h2⟩
  · exact .inl h
  · exact .inr ⟨b,h1,by rw [List.getElem?_append_left (List.getElem?_eq_some_iff.1 h2).1];exact h2⟩
theorem ints_at {l:List Int} {k:Nat} {v:Int} (h:l[k]? = some v):((l.flatMap (cint .i64)).drop k).take 1=[.int .i64 v]:=by
  have:=enl_drop_take (sz_int .i64) l k v h
  simpa [cint] using this
theorem eqPVL_ints:∀ l:List Int,eqPVL (l.flatMap (cint .i64)) (l.flatMap (cint .i64))=true
  | []=>rfl
  | a :: l=>by
    have:=eqPVL_ints l
    simp only [List.flatMap_cons,cint,List.cons_append,List.nil_append,eqPVL,eqPV,this,beq_self_eq_true,decide_true,Bool.and_self]
theorem areas_at {ars:List Area} {i:Nat} {a:Area} (h:ars[i]? = some a):((ars.flatMap cArea).drop (i * 3)).take 3=[.int .i64 a.Lo,.int .i64 a.Hi,.int .i64 a.Next]:=enl_drop_take szArea ars i a h
structure LikeA (ws:List Int) (L:List r26_Object) (a:Area):Prop where
  starts:r26_Starts L a=some ((objsIn L a).map r26_Object.At)
  chain:Chain a.Lo ((objsIn L a).map keyOf) a.Next
  ok:∀ o ∈ objsIn L a,ObjOk ws o∧0 < o.At ∧ ∃ x:Nat,L[x]? = some o∧r26_Find L o.At=some (x:Int)
end Go.Ab
namespace Go.Ab
open Go
set_option linter.unusedVariables false
set_option linter.unusedSimpArgs false
set_option maxRecDepth 10000
set_option maxHeartbeats 4000000
variable {K:HCalls}
theorem allO_rd {st:HSt} {k:Nat}:∀ {vs:List PV},(∀ v ∈ vs,v.free=true)→allO (rdV st k) (vs.map HV.p)=some vs
  | [],_=>rfl
  | v :: vs,h=>by
    have e1:rdV st k (.p v)=some v:=by
      have:=h v (by simp)
      cases k <;> simp [rdV,this]
    have e2:=allO_rd (st:=st) (k:=k) (vs:=vs) fun w hw=>h w (List.mem_cons_of_mem _ hw)
    simp only [List.map_cons,allO,e1,e2]
theorem rdH_row {st:HSt} {b n sz m:Nat} {vs:List PV} (h:st[b]? = some (.row sz m (vs.map HV.p))) (hl:vs.length=n * sz) (hf:∀ v ∈ vs,v.free=true):rdH st (.row b 0 n sz)=some (.sl n vs):=by
  have e:((vs.map HV.p).drop 0).take (n * sz)=vs.map HV.p:=by rw [List.drop_zero,List.take_of_length_le (by rw [List.length_map,hl];omega)]
  have e2:0 + n * sz ≤ (vs.map HV.p).length:=by rw [List.length_map,hl];omega
  simp only [rdH,rdV,h,e,e2,and_self,if_true,allO_rd hf,Option.map_some]
theorem KPu.lent (B:KPu K) {f:Nat} (hf:lp.contains f=true) {ws:List HV} {vs:List PV} {v:PV} {outs:List PV} {st:HSt} (hr:rdL st ws=some vs) (hn:allP ws=Option.none) (h:evI T f vs=some (v,outs)) (hx:v.flat=true) (n:Nat) :
    evHF C0 K TH (n + 1) f ws st=some (.p v,st):=by
  have e:K f ws st=some (.p v,st):=by
    rw [B.pu f hf]
    have hc:pureC T lp f vs=some (v,outs):=by unfold pureC;rw [if_pos hf,h]
    unfold KP orK pureK lentC
    simp only [hn,hr,hc,hx,if_true]
  rw [evHF_eq,e,oel_some]
theorem k19 (B:KPu K) {st:HSt} {base:Nat} {h:HV} {xs:List Int} (R:RowI base st h xs) (hl:xs.length < 100000) (p:Int) (n:Nat):evHF C0 K TH (n + 1) 19 [h,hI p] st=some (.p (.bool (xs.contains p)),st):=by
  have e:=r08_Has_ok xs p _ (Has_eq xs (by omega) p)
  rcases R with ⟨rfl,rfl⟩ | ⟨b,hne,hb,rfl,hst⟩
  · exact B.known (f:=19) rfl (ws:=[.nils,.int .i64 p]) rfl e rfl rfl rfl n st
  · rw [intmap] at hst
    refine B.lent (f:=19) rfl (vs:=[.sl xs.length (xs.flatMap (cint .i64)),.int .i64 p]) ?_ rfl e rfl n
    simp only [rdL,rdH_row hst (int_len xs) (int_free xs)]
    rfl
theorem RowI.same {base n:Nat} {st st':HSt} {h:HV} {xs:List Int} (R:RowI base st h xs) (hs:∀ i,i < n→st'[i]? = st[i]?) (hb:∀ b,h = .row b 0 xs.length 1→b < n):RowI base st' h xs:=by
  rcases R with ⟨h1,h2⟩ | ⟨b,hne,hb',rfl,hst⟩
  · exact .inl ⟨h1,h2⟩
  · exact .inr ⟨b,hne,hb',rfl,by rw [hs b (hb b rfl)];exact hst⟩
theorem RowI.app {base:Nat} {st:HSt} {h:HV} {xs:List Int} (R:RowI base st h xs) (g:HSt):RowI base (st ++ g) h xs:=by
  rcases R with h1 | ⟨b,hne,hb',rfl,hst⟩
  · exact .inl h1
  · exact .inr ⟨b,hne,hb',rfl,by rw [List.getElem?_append_left (List.getElem?_eq_some_iff.1 hst).1];exact hst⟩
end Go.Ab
namespace Go.Ab
open Go
set_option linter.unusedVariables false
set_option linter.unusedSimpArgs false
set_option maxRecDepth 10000
set_option maxHeartbeats 4000000
variable {K:HCalls}
theorem AreasAt.same {n:Nat} {st st':HSt} {ah:HV} {ars:List Area} (h:AreasAt st ah ars) (hs:Same n st st') (hb:∀ b,ah = .row b 0 ars.length 3→b < n):AreasAt st' ah ars:=by
  rcases h with h | ⟨b,h1,h2⟩
  · exact .inl h
  · exact .inr ⟨b,h1,hs.some (hb b h1) h2⟩
theorem RowI.sh {base:Nat} {st:HSt} {h:HV} {xs:List Int} (R:RowI base st h xs):h = .p .nils ∨ ∃ b n,h = .row b 0 n 1:=by
  rcases R with ⟨_,h⟩ | ⟨b,_,_,h,_⟩
  · exact .inl h
  · exact .inr ⟨_,_,h⟩
def IntsAt (st:HSt) (h:HV) (l:List Int):Prop:=(h = .p .nils∧l=[]) ∨ h=hN l ∨ ∃ b,h = .row b 0 l.length 1∧st[b]? = some (.row 1 l.length (l.map fun n=>.p (.int .i64 n)))
theorem IntsAt.same {n:Nat} {st st':HSt} {h:HV} {l:List Int} (H:IntsAt st h l) (hs:Same n st st') (hb:∀ b,h = .row b 0 l.length 1→b < n):IntsAt st' h l:=by
  rcases H with h1 | h1 | ⟨b,h1,h2⟩
  · exact .inl h1
  · exact .inr (.inl h1)
  · exact .inr (.inr ⟨b,h1,hs.some (hb b h1) h2⟩)
end Go.Ab
namespace Go.Ab
open Go
set_option linter.unusedVariables false
set_option linter.unusedSimpArgs false
set_option maxRecDepth 10000
set_option maxHeartbeats 4000000
variable {K:HCalls}
theorem get_lt {A g:HSt} {i:Nat} (h:i < A.length):(A ++ g)[i]? = A[i]?:=List.getElem?_append_left h
theorem set_lt {A g:HSt} {i:Nat} {x:HB} (h:i < A.length):(A ++ g).set i x=A.set i x ++ g:=List.set_append_left _ _ h
theorem get_set_ne {A:HSt} {i j:Nat} {x:HB} (h:¬ i=j):(A.set i x)[j]? = A[j]?:=List.getElem?_set_ne h
theorem get_set_self {A:HSt} {i:Nat} {x:HB} (h:i < A.length):(A.set i x)[i]? = some x:=List.getElem?_set_self h
theorem get_off {A g:HSt} {n k:Nat} (h:A.length=n):(A ++ g)[n + k]? = g[k]?:=by subst h;exact getElem?_len ..
theorem get_off0 {A g:HSt} {n:Nat} (h:A.length=n):(A ++ g)[n]? = g[0]?:=by subst h;exact getElem?_len0 ..
theorem set_off {A g:HSt} {n k:Nat} {x:HB} (h:A.length=n):(A ++ g).set (n + k) x=A ++ g.set k x:=by subst h;exact set_len ..
theorem set_off0 {A g:HSt} {n:Nat} {x:HB} (h:A.length=n):(A ++ g).set n x=A ++ g.set 0 x:=by subst h;exact set_len0 ..
theorem len_set {A:HSt} {i:Nat} {x:HB}:(A.set i x).length=A.length:=List.length_set ..
theorem e79 (hk:∀ ws st,K 79 ws st = .none) (B:KPu K) {st:HSt} {p:Nat} {at':Int} (hp:st[p]? = some (.box [hI at'])) (a:Area) (n:Nat) :
    evHF C0 K TH (n + 30) 79 [hA a,.ptr p 0] st=some (.p (.bool (inA a at')),st ++ [.box [hI a.Lo,hI a.Hi,hI a.Next]]):=by
  have hpl:=(List.getElem?_eq_some_iff.1 hp).1
  have e67:=fun n st=>k67 B a at' n st
  refine evHF_in (n:=n + 29) hk (x:=h79) rfl rfl ?_
  simp (config:={ maxSteps:=4000000 }) [↓hs_pre,↓evP_call0',hs_eq,-getElem?_pos,List.getElem?_cons_zero,List.getElem?_cons_succ,get_lt,set_lt,get_set_ne,get_set_self,get_off,get_off0,set_off,set_off0,len_set,h79,e67,hp,hpl,inA]
theorem e115 (hk:∀ ws st,K 115 ws st = .none) (B:KPu K) {st:HSt} {p:Nat} {at':Int} (hp:st[p]? = some (.box [hI at'])) (a:Area) (n:Nat) :
    evHF C0 K TH (n + 30) 115 [hA a,.ptr p 0] st=some (.p (.bool (inA a at')),st ++ [.box [hI a.Lo,hI a.Hi,hI a.Next]]):=by
  have hpl:=(List.getElem?_eq_some_iff.1 hp).1
  have e67:=fun n st=>k67 B a at' n st
  refine evHF_in (n:=n + 29) hk (x:=h115) rfl rfl ?_
  simp (config:={ maxSteps:=4000000 }) [↓hs_pre,↓evP_call0',hs_eq,-getElem?_pos,List.getElem?_cons_zero,List.getElem?_cons_succ,get_lt,set_lt,get_set_ne,get_set_self,get_off,get_off0,set_off,set_off0,len_set,h115,e67,hp,hpl,inA]
def env116 (ah:HV) (f p N i:Nat):HEnv:=[(0,ah),(1,.fn f [.ptr p 0]),(7,hI N),(8,hI i)]
theorem step116 {f p:Nat} {st:HSt} {ah:HV} {ars:List Area} (hA:AreasAt st ah ars) (has:ars.length < 1000) {i:Nat} {a:Area} (ha:ars[i]? = some a) {r:Bool} {g:HSt} {n0:Nat} (hf:∀ n,evHF C0 K TH (n + n0) f [.p (.agg [.int .i64 a.Lo,.int .i64 a.Hi,.int .i64 a.Next]),.ptr p 0] st=some (.p (.bool r),st ++ g)) :
    if r then Run C0 K TH h116l0 (env116 ah f p ars.length i,st) .ret ([(4,hI i)],st ++ g) else Run C0 K TH h116l0 (env116 ah f p ars.length i,st) .norm (env116 ah f p ars.length (i + 1),st ++ g):=by
  have hil:i < ars.length:=(List.getElem?_eq_some_iff.1 ha).1
  have hil':(i:Int) < ars.length:=by omega
  have c1:=areas_at ha
  have w:=wrN (i:=i) (by omega)
  have hf':evHF C0 K TH (n0 + 60) f [.p (.agg [.int .i64 a.Lo,.int .i64 a.Hi,.int .i64 a.Next]),.ptr p 0] st=some (.p (.bool r),st ++ g):=by rw [Nat.add_comm];exact hf 60
  rcases hA with rfl | ⟨b,rfl,hbk⟩
  · cases r
    · refine Run.of (n0 + 60) ?_
      simp (config:={ maxSteps:=4000000 }) [↓hs_pre,↓evP_call0',hs_eq,h116l0,env116,hil,hil',c1,w,hf']
    · refine Run.of (n0 + 60) ?_
      simp (config:={ maxSteps:=4000000 }) [↓hs_pre,↓evP_call0',hs_eq,h116l0,env116,hil,hil',c1,w,hf']
  · have c2:i * 3 + 3 ≤ ars.length * 3:=by omega
    have c3:(ars.flatMap cArea).length=ars.length * 3:=enl_len szArea ars
    have c4:(((ars.flatMap cArea).map HV.p).drop (i * 3)).take 3=[hI a.Lo,hI a.Hi,hI a.Next]:=by rw [← List.map_drop,← List.map_take,c1];rfl
    obtain ⟨acs,hacs⟩:∃ acs,ars.flatMap cArea=acs:=⟨_,rfl⟩
    rw [hacs] at hbk c3 c4
    cases r
    · refine Run.of (n0 + 60) ?_
      simp (config:={ maxSteps:=4000000 }) [↓hs_pre,↓evP_call0',hs_eq,h116l0,env116,hil,hil',w,hf',hbk,c2,c3,c4]
    · refine Run.of (n0 + 60) ?_
      simp (config:={ maxSteps:=4000000 }) [↓hs_pre,↓evP_call0',hs_eq,h116l0,env116,hil,hil',w,hf',hbk,c2,c3,c4]
theorem stop116 {f p N:Nat} {st:HSt} {ah:HV}:Run C0 K TH h116l0 (env116 ah f p N N,st) (.exit 0) ([],st):=by
  refine Run.of 60 ?_
  simp (config:={ maxSteps:=4000000 }) [↓hs_pre,↓evP_call0',hs_eq,h116l0,env116]
def InFn (K:HCalls) (f:Nat):Prop:=∀ (st:HSt) (p:Nat) (at':Int),st[p]? = some (.box [hI at']) → ∀ (a:Area) (n:Nat),evHF C0 K TH (n + 30) f [hA a,.ptr p 0] st=some (.p (.bool (inA a at')),st ++ [.box [hI a.Lo,hI a.Hi,hI a.Next]])
theorem loop116 {f p:Nat} {ah:HV} {ars:List Area} (has:ars.length < 1000) {at':Int} (hf:InFn K f):∀ (m i:Nat) (st:HSt),ars.length - i=m→i ≤ ars.length→AreasAt st ah ars→st[p]? = some (.box [hI at']) →
    ∃ g,(inAny (ars.drop i) at' = true ∧ ∃ j:Nat,Run C0 K TH (.loop h116l0 [0,1,7,8]) (env116 ah f p ars.length i,st) .ret ([(4,hI j)],st ++ g)) ∨ (inAny (ars.drop i) at' = false∧Run C0 K TH (.loop h116l0 [0,1,7,8]) (env116 ah f p ars.length i,st) (.exit 0) ([],st ++ g))
  | 0,i,st,hm,hi,hA,hp=>by
    have:i=ars.length:=by omega
    subst this
    refine ⟨[],.inr ⟨by rw [List.drop_length];rfl,?_⟩⟩
    rw [List.append_nil]
    exact Run.loopX stop116 (by simp)
  | m + 1,i,st,hm,hi,hA,hp=>by
    have hil:i < ars.length:=by omega
    have r1:=step116 (f:=f) (p:=p) hA has (i:=i) (a:=ars[i]) (by simp [hil]) (fun n=>hf st p at' hp ars[i] n)
    have hd:inAny (ars.drop i) at' = (inA ars[i] at' || inAny (ars.drop (i + 1)) at'):=by rw [List.drop_eq_getElem_cons hil];rfl
    rw [hd]
    by_cases hin:inA ars[i] at' = true
    · rw [if_pos hin] at r1
      exact ⟨[.box [hI ars[i].Lo,hI ars[i].Hi,hI ars[i].Next]],.inl ⟨by rw [hin];rfl,i,Run.loopX r1 (by simp)⟩⟩
    · rw [if_neg hin] at r1
      obtain ⟨g2,r2⟩:=loop116 (ah:=ah) (p:=p) has hf m (i + 1) (st ++ [.box [hI ars[i].Lo,hI ars[i].Hi,hI ars[i].Next]]) (by omega) (by omega) (hA.app _) (by rw [List.getElem?_append_left (List.getElem?_eq_some_iff.1 hp).1];exact hp)
      refine ⟨[.box [hI ars[i].Lo,hI ars[i].Hi,hI ars[i].Next]] ++ g2,?_⟩
      have hin':inA ars[i] at' = false:=by simpa using hin
      rw [hin',Bool.false_or,← List.append_assoc]
      rcases r2 with ⟨h1,j,r2⟩ | ⟨h1,r2⟩
      · exact .inl ⟨h1,j,Run.loopN r1 r2⟩
      · exact .inr ⟨h1,Run.loopN r1 r2⟩
theorem e78 (hk:(∀ ws st,K 78 ws st = .none) ∧ ∀ ws st,K 116 ws st = .none) {f p:Nat} {st:HSt} {ah:HV} {ars:List Area} (hA:AreasAt st ah ars) (has:ars.length < 1000) {at':Int} (hf:InFn K f) (hp:st[p]? = some (.box [hI at'])) :
    ∃ g n0,∀ n,n0 ≤ n→evHF C0 K TH n 78 [ah,.fn f [.ptr p 0]] st=some (.p (.bool (inAny ars at')),st ++ g):=by
  obtain ⟨g,h⟩:=loop116 (p:=p) (ah:=ah) (at':=at') has hf ars.length 0 st (by omega) (by omega) hA hp
  rw [List.drop_zero] at h
  have z0:((0:Nat):Int)=0:=rfl
  have hk116:=hk.2
  rcases h with ⟨hin,j,r⟩ | ⟨hin',h⟩
  · obtain ⟨n0,hn0⟩:=Run.all r
    simp only [env116,hI,z0] at hn0
    have e116:∀ n,evHF C0 K TH (n0 + 60 + n) 116 [ah,.fn f [.ptr p 0]] st=some (hI j,st ++ g):=fun n=>by
      refine evHF_mono (by omega) _ _ _ _ (evHF_in (n:=n0 + 59) hk116 (x:=h116) rfl rfl ?_)
      rcases hA.sh with ⟨q,cs,rfl⟩ | ⟨b,o,q,z,rfl⟩
      · have:q=ars.length:=by
          rcases hA with h1 | ⟨b,h1,_⟩
          · simp [hAs] at h1;exact h1.1
          · cases h1
        subst this
        simp (config:={ maxSteps:=4000000 }) [↓hs_pre,↓evP_call0',hs_eq,h116,hn0]
      · have:q=ars.length:=by
          rcases hA with h1 | ⟨b,h1,_⟩
          · cases h1
          · cases h1;rfl
        subst this
        simp (config:={ maxSteps:=4000000 }) [↓hs_pre,↓evP_call0',hs_eq,h116,hn0]
    have hj:(0:Int) ≤ j:=by omega
    refine ⟨g,n0 + 120,fun n hn=>evHF_mono hn _ _ _ _ (evHF_in (n:=n0 + 60 + 59) hk.1 (x:=h78) rfl rfl ?_)⟩
    rw [hin]
    rcases hA.sh with ⟨q,cs,rfl⟩ | ⟨b,o,q,z,rfl⟩
    · simp (config:={ maxSteps:=4000000 }) [↓hs_pre,↓evP_call0',hs_eq,h78,e116,hj]
    · simp (config:={ maxSteps:=4000000 }) [↓hs_pre,↓evP_call0',hs_eq,h78,e116,hj]
  · obtain ⟨n0,hn0⟩:=Run.all h
    simp only [env116,hI,z0] at hn0
    have e116:∀ n,evHF C0 K TH (n0 + 60 + n) 116 [ah,.fn f [.ptr p 0]] st=some (hI (-1),st ++ g):=fun n=>by
      refine evHF_mono (by omega) _ _ _ _ (evHF_in (n:=n0 + 59) hk116 (x:=h116) rfl rfl ?_)
      rcases hA.sh with ⟨q,cs,rfl⟩ | ⟨b,o,q,z,rfl⟩
      · have:q=ars.length:=by
          rcases hA with h1 | ⟨b,h1,_⟩
          · simp [hAs] at h1;exact h1.1
          · cases h1
        subst this
        simp (config:={ maxSteps:=4000000 }) [↓hs_pre,↓evP_call0',hs_eq,h116,hn0]
      · have:q=ars.length:=by
          rcases hA with h1 | ⟨b,h1,_⟩
          · cases h1
          · cases h1;rfl
        subst this
        simp (config:={ maxSteps:=4000000 }) [↓hs_pre,↓evP_call0',hs_eq,h116,hn0]
    refine ⟨g,n0 + 120,fun n hn=>evHF_mono hn _ _ _ _ (evHF_in (n:=n0 + 60 + 59) hk.1 (x:=h78) rfl rfl ?_)⟩
    rw [hin']
    rcases hA.sh with ⟨q,cs,rfl⟩ | ⟨b,o,q,z,rfl⟩
    · simp (config:={ maxSteps:=4000000 }) [↓hs_pre,↓evP_call0',hs_eq,h78,e116]
    · simp (config:={ maxSteps:=4000000 }) [↓hs_pre,↓evP_call0',hs_eq,h78,e116]
end Go.Ab
namespace Go.Ab
open Go
set_option linter.unusedVariables false
set_option linter.unusedSimpArgs false
set_option maxRecDepth 10000
set_option maxHeartbeats 4000000
variable {K:HCalls}
structure LPos where
  sp:Nat
  wb:Nat
  mb:Nat
  p4:Nat
  p5:Nat
  p10:Nat
  p11:Nat
  p12:Nat
structure LPos.Ok (P:LPos) (base:Nat):Prop where
  lo:P.sp < base∧P.wb < base
  hi:base ≤ P.mb∧base ≤ P.p4∧base ≤ P.p5∧base ≤ P.p10∧base ≤ P.p11∧base ≤ P.p12
  ne:P.mb ≠ P.p4∧P.mb ≠ P.p5∧P.mb ≠ P.p10∧P.mb ≠ P.p11∧P.mb ≠ P.p12∧P.p10 ≠ P.p4∧P.p10 ≠ P.p5∧P.p10 ≠ P.p11∧P.p10 ≠ P.p12∧P.p12 ≠ P.p4∧P.p12 ≠ P.p5∧P.p12 ≠ P.p11
def wsum (ws out:List Int):Int:=(out.map fun p=>1 + (ws.getD p.toNat 0) % 32).sum
theorem wsum_app (ws out:List Int) (p:Int):wsum ws (out ++ [p])=wsum ws out + (1 + (ws.getD p.toNat 0) % 32):=by simp [wsum]
theorem wsum_bound (ws:List Int):∀ out:List Int,0 ≤ wsum ws out∧wsum ws out ≤ 40 * out.length
  | []=>by simp [wsum]
  | p :: out=>by
    have:=wsum_bound ws out
    simp only [wsum,List.map_cons,List.sum_cons,List.length_cons] at this ⊢
    omega
structure LV (base:Nat) (P:LPos) (ah:HV) (ars:List Area) (ws:List Int) (st:HSt) (out met:List Int) (oh:HV):Prop where
  S:SpaceAt st P.sp P.wb ws
  A:AreasAt st ah ars
  R:RowI base st oh out
  on:∀ b n,oh = .row b 0 n 1→b ≠ P.mb
  b4:st[P.p4]? = some (.box [.ptr P.sp 0])
  b5:st[P.p5]? = some (.box [ah])
  b10:st[P.p10]? = some (.box [oh])
  b11:st[P.p11]? = some (.box [.row P.mb 0 ws.length 1])
  b12:st[P.p12]? = some (.box [hI (wsum ws out)])
  bm:st[P.mb]? = some (.row 1 ws.length (met.map fun n=>.p (.int .i64 n)))
  ml:met.length=ws.length
  mv:∀ j:Nat,j < ws.length→met[j]? = some (if (j:Int) ∈ out then 1 else 0)
def Boxes (a b:Nat) (st st':HSt):Prop:=∀ q cs,q ≠ a→q ≠ b→st[q]? = some (.box cs)→st'[q]? = some (.box cs)
theorem Boxes.trans {a b:Nat} {x y z:HSt} (h:Boxes a b x y) (h':Boxes a b y z):Boxes a b x z:=fun q cs h1 h2 e=>h' q cs h1 h2 (h q cs h1 h2 e)
theorem Boxes.app {a b:Nat} (st g:HSt):Boxes a b st (st ++ g):=fun q cs _ _ e=>by rw [get_lt (List.getElem?_eq_some_iff.1 e).1];exact e
structure LVNext (K:HCalls) (f:Nat) (args:List HV) (base:Nat) (P:LPos) (ah:HV) (ars:List Area) (ws:List Int) (st:HSt) (out':List Int):Prop where
  ex:∃ st' met' oh' n0,(∀ n,n0 ≤ n→evHF C0 K TH n f args st=some (.p (.tup []),st'))∧LV base P ah ars ws st' out' met' oh' ∧ Same base st st' ∧ Boxes P.p10 P.p12 st st'
theorem LV.app {base:Nat} {P:LPos} {ah:HV} {ars:List Area} {ws:List Int} {st:HSt} {out met:List Int} {oh:HV} (H:LV base P ah ars ws st out met oh) (g:HSt):LV base P ah ars ws (st ++ g) out met oh:=by
  have lt:∀ {i:Nat} {x:HB},st[i]? = some x→(st ++ g)[i]? = some x:=fun {i x} e=>by rw [get_lt (List.getElem?_eq_some_iff.1 e).1];exact e
  exact ⟨H.S.app g,H.A.app g,H.R.app g,H.on,lt H.b4,lt H.b5,lt H.b10,lt H.b11,lt H.b12,lt H.bm,H.ml,H.mv⟩
theorem LV.next {base:Nat} {P:LPos} (hP:P.Ok base) {ah:HV} {ars:List Area} (hab:∀ b,ah = .row b 0 ars.length 3→b < base) {ws:List Int} {st st':HSt} (hbase:base ≤ st.length) {out met:List Int} {oh oh':HV} (H:LV base P ah ars ws st out met oh) {a:Nat} (ha:a < ws.length) {W:Int} (hW:wsum ws (out ++ [(a:Int)])=W)
    (hs:∀ q y,st[q]? = some y→q ≠ P.mb→q ≠ P.p10→q ≠ P.p12→(∀ b n,oh = .row b 0 n 1→q ≠ b)→st'[q]? = some y) (hlen:st.length ≤ st'.length) (h10:st'[P.p10]? = some (.box [oh'])) (h12:st'[P.p12]? = some (.box [hI W])) (hm:st'[P.mb]? = some (.row 1 ws.length ((met.set a 1).map fun n=>.p (.int .i64 n))))
    (hR:RowI base st' oh' (out ++ [(a:Int)])) (hon:∀ b n,oh' = .row b 0 n 1→b ≠ P.mb):LV base P ah ars ws st' (out ++ [(a:Int)]) (met.set a 1) oh' ∧ Same base st st' ∧ Boxes P.p10 P.p12 st st':=by
  obtain ⟨S,A,R,on,b4,b5,b10,b11,b12,bm,ml,mv⟩:=H
  obtain ⟨⟨o1,o2⟩,⟨o3,o4,o5,o6,o7,o8⟩,n1,n2,n3,n4,n5,n6,n7,n8,n9,n10,n11,n12⟩:=hP
  have hb:∀ b n,oh = .row b 0 n 1→base ≤ b ∧ ∃ m cs,st[b]? = some (.row 1 m cs):=fun b n e=>by
    rcases R with ⟨_,rfl⟩ | ⟨b',hne,hb',rfl,hst⟩
    · cases e
    · cases e;exact ⟨hb',_,_,hst⟩
  have hbox:∀ q cs,st[q]? = some (.box cs) → ∀ b n,oh = .row b 0 n 1→q ≠ b:=fun q cs e b n e2 e3=>by
    obtain ⟨_,m,ds,h⟩:=hb b n e2
    rw [← e3,e] at h;simp at h
  have hmb:∀ q cs,st[q]? = some (.box cs)→q ≠ P.mb:=fun q cs e e3=>by rw [e3,bm] at e;simp at e
  have same:Same base st st':=⟨hlen,fun i hi=>by
    have hil:i < st.length:=by omega
    have:=hs i st[i] (by simp [hil]) (by omega) (by omega) (by omega) (fun b n e=>by have:=(hb b n e).1;omega)
    rw [this];simp [hil]⟩
  have boxes:Boxes P.p10 P.p12 st st':=fun q cs h1 h2 e=>hs q _ e (hmb q cs e) h1 h2 (hbox q cs e)
  refine ⟨⟨same.space S o1 o2,A.same same hab,hR,hon,boxes _ _ (by omega) (by omega) b4,boxes _ _ (by omega) (by omega) b5,h10,boxes _ _ (by omega) (by omega) b11,by rw [hW];exact h12,hm,by simpa using ml,fun j hj=>?_⟩,same,boxes⟩
  rw [List.getElem?_set]
  by_cases e:a=j
  · subst e;rw [if_pos rfl,if_pos (by omega),if_pos (by simp)]
  · rw [if_neg e,mv j hj]
    have:((j:Int) ∈ out ++ [(a:Int)]) ↔ (j:Int) ∈ out:=by simp;omega
    simp only [this]
theorem visit (B:KB K) {base:Nat} {P:LPos} (hP:P.Ok base) {ah:HV} {ars:List Area} (hab:∀ b,ah = .row b 0 ars.length 3→b < base) (has:ars.length < 1000) {ws:List Int} (hws:ws.length < 1000000000) {st:HSt} (hbase:base ≤ st.length) {out met:List Int} {oh:HV} (H:LV base P ah ars ws st out met oh) (hol:out.length < 80000)
    (p:Int) (hp:inAny ars p=true → ∃ x,OkSh x∧0 < p∧ws[p.toNat]? = some (hdB x)) :
    LVNext K 77 [hI p,.ptr P.p5 0,.ptr P.p11 0,.ptr P.p10 0,.ptr P.p4 0,.ptr P.p12 0] base P ah ars ws st (mt ars out p):=by
  obtain ⟨S,A,R,on,b4,b5,b10,b11,b12,bm,ml,mv⟩:=H
  have l4:=(List.getElem?_eq_some_iff.1 b4).1
  have l5:=(List.getElem?_eq_some_iff.1 b5).1
  have l10:=(List.getElem?_eq_some_iff.1 b10).1
  have l11:=(List.getElem?_eq_some_iff.1 b11).1
  have l12:=(List.getElem?_eq_some_iff.1 b12).1
  have lm:=(List.getElem?_eq_some_iff.1 bm).1
  obtain ⟨ls,lw,lsw⟩:=S.lt
  have hin:InFn K 79:=fun st p at' hp a n=>e79 (B.no 79 rfl) B.toKPu hp a n
  obtain ⟨g,n0,f78⟩:=e78 (K:=K) ⟨B.no 78 rfl,B.no 116 rfl⟩ (A.app [.box [hI p]]) has (p:=st.length) (at':=p) hin (by rw [getElem?_len0];rfl)
  have e78':∀ k,evHF C0 K TH (n0 + k) 78 [ah,.fn 79 [.ptr st.length 0]] (st ++ [.box [hI p]])=some (.p (.bool (inAny ars p)),st ++ (.box [hI p] :: g)):=fun k=>by
    have:=f78 (n0 + k) (by omega)
    rw [List.append_assoc] at this
    exact this
  cases hany:inAny ars p with
  | false =>
    rw [hany] at e78'
    have hm:mt ars out p=out:=by unfold mt;rw [hany];rfl
    rw [hm]
    refine ⟨⟨st ++ (.box [hI p] :: g),met,oh,n0 + 60,fun n hn=>evHF_mono hn _ _ _ _ (evHF_in (n:=n0 + 59) (B.no 77 rfl) (x:=h77) rfl rfl ?_),LV.app ⟨S,A,R,on,b4,b5,b10,b11,b12,bm,ml,mv⟩ _,Same.app hbase _,Boxes.app _ _⟩⟩
    rcases A.sh with ⟨q,cs,rfl⟩ | ⟨b,o,q,z,rfl⟩
    · simp (config:={ maxSteps:=4000000 }) [↓hs_pre,↓evP_call0',hs_eq,-getElem?_pos,List.getElem?_cons_zero,List.getElem?_cons_succ,get_lt,set_lt,get_set_ne,get_set_self,get_off,get_off0,set_off,set_off0,len_set,h77,e78',b5,l5]
    · simp (config:={ maxSteps:=4000000 }) [↓hs_pre,↓evP_call0',hs_eq,-getElem?_pos,List.getElem?_cons_zero,List.getElem?_cons_succ,get_lt,set_lt,get_set_ne,get_set_self,get_off,get_off0,set_off,set_off0,len_set,h77,e78',b5,l5]
  | true =>
    rw [hany] at e78'
    obtain ⟨x,hx,hp0,hhd⟩:=hp hany
    obtain ⟨a,rfl⟩:∃ a:Nat,p=a:=⟨p.toNat,by omega⟩
    rw [Int.toNat_natCast] at hhd
    have hal:=(List.getElem?_eq_some_iff.1 hhd).1
    have ham:a < met.length:=by omega
    have hmv:=mv a hal
    have i1:a + 1 ≤ met.length:=by omega
    have i2:a + 1 ≤ ws.length:=by omega
    by_cases hmem:(a:Int) ∈ out
    · have hm:mt ars out a=out:=by unfold mt;rw [hany];simp [hmem]
      rw [hm]
      rw [if_pos hmem] at hmv
      refine ⟨⟨st ++ (.box [hI a] :: g),met,oh,n0 + 60,fun n hn=>evHF_mono hn _ _ _ _ (evHF_in (n:=n0 + 59) (B.no 77 rfl) (x:=h77) rfl rfl ?_),LV.app ⟨S,A,R,on,b4,b5,b10,b11,b12,bm,ml,mv⟩ _,Same.app hbase _,Boxes.app _ _⟩⟩
      rcases A.sh with ⟨q,cs,rfl⟩ | ⟨b,o,q,z,rfl⟩
      · simp (config:={ maxSteps:=4000000 }) [↓hs_pre,↓evP_call0',hs_eq,-getElem?_pos,List.getElem?_cons_zero,List.getElem?_cons_succ,get_lt,set_lt,get_set_ne,get_set_self,get_off,get_off0,set_off,set_off0,len_set,h77,e78',b5,b11,bm,l5,l11,lm,hal,i1,i2,ml,hmv]
      · simp (config:={ maxSteps:=4000000 }) [↓hs_pre,↓evP_call0',hs_eq,-getElem?_pos,List.getElem?_cons_zero,List.getElem?_cons_succ,get_lt,set_lt,get_set_ne,get_set_self,get_off,get_off0,set_off,set_off0,len_set,h77,e78',b5,b11,bm,l5,l11,lm,hal,i1,i2,ml,hmv]
    · have hm:mt ars out a=out ++ [(a:Int)]:=by unfold mt;rw [hany];simp [hmem]
      rw [hm]
      rw [if_neg hmem] at hmv
      obtain ⟨⟨o1,o2⟩,⟨o3,o4,o5,o6,o7,o8⟩,n1,n2,n3,n4,n5,n6,n7,n8,n9,n10,n11,n12⟩:=hP
      have m1:¬ P.mb=P.sp:=by omega
      have m2:¬ P.p10=P.sp:=by omega
      have m3:¬ P.p12=P.sp:=by omega
      have m4:¬ P.mb=P.wb:=by omega
      have m5:¬ P.p10=P.wb:=by omega
      have m6:¬ P.p12=P.wb:=by omega
      have hwd:ws.getD a 0=hdB x:=by simp [List.getD,hhd]
      have hmod:(hdB x) % 32=x.Slots:=by have:=hx.1;have:=hx.2.1;unfold hdB;omega
      have hws':wsum ws (out ++ [(a:Int)])=wsum ws out + (1 + x.Slots):=by rw [wsum_app,Int.toNat_natCast,hwd,hmod]
      have hb40:=wsum_bound ws out
      have h16:=hx.2.1
      have h00:=hx.1
      have w1:IntKind.i64.wrap (1 + x.Slots)=1 + x.Slots:=wrap64 (by omega)
      have w2:IntKind.i64.wrap (wsum ws out + (1 + x.Slots))=wsum ws out + (1 + x.Slots):=wrap64 (by omega)
      have s1:=S.s
      have s2:=S.w
      have e22:∀ n (X:HSt),X[P.sp]? = some (.box [.row P.wb 0 ws.length 1])→X[P.wb]? = some (.row 1 ws.length (ws.map fun n=>.p (.int .i64 n)))→evHF C0 K TH (n + 30) 22 [.ptr P.sp 0,hI a] X=some (.p (.tup [.agg [.int .i64 x.Slots,.int .i64 x.Mask],.int .i64 0]),X ++ [.box [hI x.Slots,hI x.Mask]]):=fun n X h1 h2=>e22 B ⟨h1,h2⟩ a (by omega) hx hhd n
      have HL:LV base P ah ars ws st out met oh:=⟨S,A,R,on,b4,b5,b10,b11,b12,bm,ml,mv⟩
      rcases R with ⟨rfl,rfl⟩ | ⟨b,hne,hb,rfl,hst⟩
      · have walk:∃ G,evHF C0 K TH (n0 + 60) 77 [hI a,.ptr P.p5 0,.ptr P.p11 0,.ptr P.p10 0,.ptr P.p4 0,.ptr P.p12 0] st=some (.p (.tup []),((st.set P.mb (.row 1 ws.length ((met.set a 1).map fun n=>.p (.int .i64 n)))).set P.p10 (.box [.row (st.length + (g.length + 1 + 1)) 0 1 1])).set P.p12 (.box [hI (wsum ws [] + (1 + x.Slots))]) ++ (.box [hI a] :: (g ++ .row 1 1 [hI a] :: .row 1 1 [hI a] :: G))):=by
          apply Exists.intro
          refine evHF_in (n:=n0 + 59) (B.no 77 rfl) (x:=h77) rfl rfl ?_
          rcases A.sh with ⟨q,cs,rfl⟩ | ⟨b,o,q,z,rfl⟩
          · simp (config:={ maxSteps:=4000000 }) [↓hs_pre,↓evP_call0',hs_eq,-getElem?_pos,List.getElem?_cons_zero,List.getElem?_cons_succ,get_lt,set_lt,get_set_ne,get_set_self,get_off,get_off0,set_off,set_off0,len_set,h77,e78',b4,b5,b10,b11,b12,bm,l4,l5,l10,l11,l12,lm,ls,lw,s1,s2,hal,ham,i1,i2,ml,hmv,w1,w2,e22,n1,n2,n3,n4,n5,n6,n7,n8,n9,n10,n11,n12,m1,m2,m3,m4,m5,m6,List.map_set]
            all_goals exact rfl
          · simp (config:={ maxSteps:=4000000 }) [↓hs_pre,↓evP_call0',hs_eq,-getElem?_pos,List.getElem?_cons_zero,List.getElem?_cons_succ,get_lt,set_lt,get_set_ne,get_set_self,get_off,get_off0,set_off,set_off0,len_set,h77,e78',b4,b5,b10,b11,b12,bm,l4,l5,l10,l11,l12,lm,ls,lw,s1,s2,hal,ham,i1,i2,ml,hmv,w1,w2,e22,n1,n2,n3,n4,n5,n6,n7,n8,n9,n10,n11,n12,m1,m2,m3,m4,m5,m6,List.map_set]
            all_goals exact rfl
        obtain ⟨G,walk⟩:=walk
        have nx:=LV.next (P:=P) ⟨⟨o1,o2⟩,⟨o3,o4,o5,o6,o7,o8⟩,n1,n2,n3,n4,n5,n6,n7,n8,n9,n10,n11,n12⟩ hab hbase HL hal hws' (st':=((st.set P.mb (.row 1 ws.length ((met.set a 1).map fun n=>.p (.int .i64 n)))).set P.p10 (.box [.row (st.length + (g.length + 1 + 1)) 0 1 1])).set P.p12 (.box [hI (wsum ws [] + (1 + x.Slots))]) ++ (.box [hI a] :: (g ++ .row 1 1 [hI a] :: .row 1 1 [hI a] :: G))) (oh':=.row (st.length + (g.length + 1 + 1)) 0 1 1)
          (fun q y hq a1 a2 a3 _=>by
            have hl:=(List.getElem?_eq_some_iff.1 hq).1
            rw [get_lt (by simpa using hl),get_set_ne (fun e=>a3 e.symm),get_set_ne (fun e=>a2 e.symm),get_set_ne (fun e=>a1 e.symm)];exact hq)
          (by simp)
          (by rw [get_lt (by simpa using l10),get_set_ne (by omega),get_set_self (by simpa using l10)])
          (by rw [get_lt (by simpa using l12),get_set_self (by simpa using l12)])
          (by rw [get_lt (by simpa using lm),get_set_ne (by omega),get_set_ne (by omega),get_set_self lm])
          (.inr ⟨_,by simp,by omega,rfl,by
            rw [get_off (by simp),show g.length + 1 + 1=(g.length + 1) + 1 by omega,List.getElem?_cons_succ,getElem?_len];rfl⟩)
          (fun b n e=>by cases e;omega)
        exact ⟨⟨_,_,_,n0 + 60,fun n hn=>evHF_mono hn _ _ _ _ walk,nx.1,nx.2.1,nx.2.2⟩⟩
      · have hbl:b < st.length:=(List.getElem?_eq_some_iff.1 hst).1
        have hx0:0 < out.length:=List.length_pos_iff.2 hne
        obtain ⟨m,hm'⟩:∃ m,out.length=m:=⟨_,rfl⟩
        have d1:(m + 1) * 8 ≤ 1099511627776:=by omega
        have d2:m + 1 ≤ 1099511627776:=by omega
        have d3:(out.map fun n=>HV.p (.int .i64 n)).take m=out.map fun n=>HV.p (.int .i64 n):=List.take_of_length_le (by simp;omega)
        have k1:¬ P.mb=b:=fun e=>on b _ rfl e.symm
        have k2:¬ P.p10=b:=fun e=>by rw [← e,b10] at hst;simp at hst
        have k3:¬ P.p12=b:=fun e=>by rw [← e,b12] at hst;simp at hst
        have k4:¬ b=P.p4:=fun e=>by rw [e,b4] at hst;simp at hst
        have k5:¬ b=P.p12:=fun e=>k3 e.symm
        have k6:¬ b=P.p10:=fun e=>k2 e.symm
        have k7:¬ b=P.sp:=by omega
        have k8:¬ b=P.wb:=by omega
        rw [hm'] at hst b10
        have walk:∃ G,evHF C0 K TH (n0 + 60) 77 [hI a,.ptr P.p5 0,.ptr P.p11 0,.ptr P.p10 0,.ptr P.p4 0,.ptr P.p12 0] st=some (.p (.tup []),(((st.set P.mb (.row 1 ws.length ((met.set a 1).map fun n=>.p (.int .i64 n)))).set b .dead).set P.p10 (.box [.row (st.length + (g.length + 1 + 1)) 0 (m + 1) 1])).set P.p12 (.box [hI (wsum ws out + (1 + x.Slots))]) ++ (.box [hI a] :: (g ++ .row 1 1 [hI a] :: .row 1 (m + 1) ((out ++ [(a:Int)]).map fun n=>.p (.int .i64 n)) :: G))):=by
          apply Exists.intro
          refine evHF_in (n:=n0 + 59) (B.no 77 rfl) (x:=h77) rfl rfl ?_
          rcases A.sh with ⟨q,cs,rfl⟩ | ⟨b,o,q,z,rfl⟩
          · simp (config:={ maxSteps:=4000000 }) [↓hs_pre,↓evP_call0',hs_eq,-getElem?_pos,List.getElem?_cons_zero,List.getElem?_cons_succ,get_lt,set_lt,get_set_ne,get_set_self,get_off,get_off0,set_off,set_off0,len_set,h77,e78',b4,b5,b10,b11,b12,bm,l4,l5,l10,l11,l12,lm,ls,lw,s1,s2,hal,ham,i1,i2,ml,hmv,w1,w2,e22,n1,n2,n3,n4,n5,n6,n7,n8,n9,n10,n11,n12,m1,m2,m3,m4,m5,m6,List.map_set,hst,hbl,hx0,hm',d1,d2,d3,k1,k2,k3,k4,k5,k6,k7,k8]
            all_goals exact rfl
          · simp (config:={ maxSteps:=4000000 }) [↓hs_pre,↓evP_call0',hs_eq,-getElem?_pos,List.getElem?_cons_zero,List.getElem?_cons_succ,get_lt,set_lt,get_set_ne,get_set_self,get_off,get_off0,set_off,set_off0,len_set,h77,e78',b4,b5,b10,b11,b12,bm,l4,l5,l10,l11,l12,lm,ls,lw,s1,s2,hal,ham,i1,i2,ml,hmv,w1,w2,e22,n1,n2,n3,n4,n5,n6,n7,n8,n9,n10,n11,n12,m1,m2,m3,m4,m5,m6,List.map_set,hst,hbl,hx0,hm',d1,d2,d3,k1,k2,k3,k4,k5,k6,k7,k8]
            all_goals exact rfl
        obtain ⟨G,walk⟩:=walk
        have nx:=LV.next (P:=P) ⟨⟨o1,o2⟩,⟨o3,o4,o5,o6,o7,o8⟩,n1,n2,n3,n4,n5,n6,n7,n8,n9,n10,n11,n12⟩ hab hbase HL hal hws' (st':=(((st.set P.mb (.row 1 ws.length ((met.set a 1).map fun n=>.p (.int .i64 n)))).set b .dead).set P.p10 (.box [.row (st.length + (g.length + 1 + 1)) 0 (m + 1) 1])).set P.p12 (.box [hI (wsum ws out + (1 + x.Slots))]) ++ (.box [hI a] :: (g ++ .row 1 1 [hI a] :: .row 1 (m + 1) ((out ++ [(a:Int)]).map fun n=>.p (.int .i64 n)) :: G))) (oh':=.row (st.length + (g.length + 1 + 1)) 0 (m + 1) 1)
          (fun q y hq a1 a2 a3 a4=>by
            have hl:=(List.getElem?_eq_some_iff.1 hq).1
            rw [get_lt (by simpa using hl),get_set_ne (fun e=>a3 e.symm),get_set_ne (fun e=>a2 e.symm),get_set_ne (fun e=>a4 b _ rfl e.symm),get_set_ne (fun e=>a1 e.symm)];exact hq)
          (by simp)
          (by rw [get_lt (by simpa using l10),get_set_ne (by omega),get_set_self (by simpa using l10)])
          (by rw [get_lt (by simpa using l12),get_set_self (by simpa using l12)])
          (by rw [get_lt (by simpa using lm),get_set_ne (by omega),get_set_ne (by omega),get_set_ne (by omega),get_set_self lm])
          (.inr ⟨st.length + (g.length + 1 + 1),by simp,by omega,by simp [hm'],by
            rw [get_off (by simp),show g.length + 1 + 1=(g.length + 1) + 1 by omega,List.getElem?_cons_succ,getElem?_len];simp [hm']⟩)
          (fun b n e=>by cases e;omega)
        exact ⟨⟨_,_,_,n0 + 60,fun n hn=>evHF_mono hn _ _ _ _ walk,nx.1,nx.2.1,nx.2.2⟩⟩
end Go.Ab
namespace Go.Ab
open Go
set_option linter.unusedVariables false
set_option linter.unusedSimpArgs false
set_option maxRecDepth 10000
set_option maxHeartbeats 4000000
variable {K:HCalls}
def env71 (sp a:Nat) (f:Nat) (caps:List HV) (p6 s i:Nat):HEnv:=[(0,.ptr sp 0),(1,hI a),(2,.fn f caps),(6,.ptr p6 0),(16,hI s),(17,hI i)]
theorem step71n (B:KPu K) {st:HSt} {sp a f:Nat} {caps:List HV} {p6 i s:Nat} {x:Shape} (hx:OkSh x) (hs:x.Slots=s) (hi:i < s) (e6:st[p6]? = some (.box [hI x.Slots,hI x.Mask])) (hb:ptB x i=false) :
    Run C0 K TH h71l0 (env71 sp a f caps p6 s i,st) .norm (env71 sp a f caps p6 s (i + 1),st):=by
  have h16:=hx.2.1
  have w:=wrN (i:=i) (by omega)
  have e98:=fun n st=>k98 B hx (i:Int) n st
  rw [hb] at e98
  refine Run.of 60 ?_
  simp (config:={ maxSteps:=4000000 }) [↓hs_pre,↓evP_call0',hs_eq,h71l0,env71,hi,e6,e98,w]
theorem step71 (B:KPu K) {st st':HSt} {sp wb W a f:Nat} {caps:List HV} {p6 i s:Nat} {x:Shape} (hx:OkSh x) (hs:x.Slots=s) (hi:i < s) (e6:st[p6]? = some (.box [hI x.Slots,hI x.Mask])) (hb:ptB x i=true) (es:st[sp]? = some (.box [.row wb 0 W 1])) {j:Nat} (hj:a + 1 + i=j) (hjW:j < W) (hW:W < 140737488355328) {n0:Nat}
    (hf:∀ n,n0 ≤ n→evHF C0 K TH n f (.ptr wb j :: caps) st=some (.p (.tup []),st')) :
    Run C0 K TH h71l0 (env71 sp a f caps p6 s i,st) .norm (env71 sp a f caps p6 s (i + 1),st'):=by
  have h16:=hx.2.1
  have w:=wrN (i:=i) (by omega)
  have w1:=wrN (i:=a) (by omega)
  have w2:IntKind.i64.wrap (((a + 1:Nat):Int) + (i:Int))=(j:Int):=by rw [wrap64 (by omega)];omega
  have w1':IntKind.i64.wrap ((a:Int) + 1)=(a:Int) + 1:=wrap64 (by omega)
  have w2':IntKind.i64.wrap ((a:Int) + 1 + (i:Int))=(j:Int):=by rw [wrap64 (by omega)];omega
  have e98:=fun n st=>k98 B hx (i:Int) n st
  rw [hb] at e98
  have hf':evHF C0 K TH (n0 + 60) f (.ptr wb j :: caps) st=some (.p (.tup []),st'):=hf _ (by omega)
  have j1:j + 1 ≤ W:=by omega
  refine Run.of (n0 + 60) ?_
  simp (config:={ maxSteps:=4000000 }) [↓hs_pre,↓evP_call0',hs_eq,h71l0,env71,hi,e6,e98,w,w1',w2',es,hjW,j1,hf']
theorem stop71 {st:HSt} {sp a f:Nat} {caps:List HV} {p6 s:Nat}:Run C0 K TH h71l0 (env71 sp a f caps p6 s s,st) (.exit 0) ([],st):=by
  refine Run.of 60 ?_
  simp (config:={ maxSteps:=4000000 }) [↓hs_pre,↓evP_call0',hs_eq,h71l0,env71]
def Kept (N:Nat) (st st':HSt):Prop:=∀ q cs,N ≤ q→st[q]? = some (.box cs)→st'[q]? = some (.box cs)
theorem loop71 (B:KPu K) {sp wb W a f:Nat} {caps:List HV} {p6 s N:Nat} (hN:N ≤ p6) {x:Shape} (hx:OkSh x) (hs:x.Slots=s) (haW:a + 1 + s ≤ W) (hW:W < 140737488355328) (I:Nat→HSt→Prop) (hI0:∀ i st,I i st→st[sp]? = some (.box [.row wb 0 W 1]))
    (hstep:∀ i st,I i st→i < s→st[p6]? = some (.box [hI x.Slots,hI x.Mask])→(ptB x i=false→I (i + 1) st)∧(ptB x i=true → ∃ st' n0,(∀ n,n0 ≤ n→evHF C0 K TH n f (.ptr wb (a + 1 + i) :: caps) st=some (.p (.tup []),st'))∧I (i + 1) st' ∧ Kept N st st')):∀ (m i:Nat) (st:HSt),s - i=m→i ≤ s→I i st→st[p6]? = some (.box [hI x.Slots,hI x.Mask]) →
    ∃ st',Run C0 K TH (.loop h71l0 [0,1,2,6,16,17]) (env71 sp a f caps p6 s i,st) (.exit 0) ([],st')∧I s st'
  | 0,i,st,hm,hi,h,e6=>by
    have:i=s:=by omega
    subst this
    exact ⟨st,Run.loopX stop71 (by simp),h⟩
  | m + 1,i,st,hm,hi,h,e6=>by
    obtain ⟨h1,h2⟩:=hstep i st h (by omega) e6
    cases hb:ptB x i with
    | false =>
      obtain ⟨st',r,h3⟩:=loop71 B hN hx hs haW hW I hI0 hstep m (i + 1) st (by omega) (by omega) (h1 hb) e6
      exact ⟨st',Run.loopN (step71n B hx hs (by omega) e6 hb) r,h3⟩
    | true =>
      obtain ⟨st1,n0,h4,h5,h6⟩:=h2 hb
      obtain ⟨st',r,h3⟩:=loop71 B hN hx hs haW hW I hI0 hstep m (i + 1) st1 (by omega) (by omega) h5 (h6 _ _ hN e6)
      exact ⟨st',Run.loopN (step71 B hx hs (by omega) e6 hb (hI0 i st h) rfl (by omega) hW h4) r,h3⟩
theorem e71 (B:KB K) {st:HSt} {sp wb:Nat} {ws:List Int} (S:SpaceAt st sp wb ws) (hws:ws.length < 140737488355328) {a:Nat} (ha:0 < a) {x:Shape} (hx:OkSh x) (hhd:ws[a]? = some (hdB x)) (hw:a + 1 + x.Slots.toNat ≤ ws.length) (f:Nat) (caps:List HV) (I:Nat→HSt→Prop) (happ:∀ g,I 0 st→I 0 (st ++ g)) (hI0:∀ i st,I i st→st[sp]? = some (.box [.row wb 0 ws.length 1])) (h0:I 0 st)
    (hstep:∀ i st1,I i st1→i < x.Slots.toNat→(ptB x i=false→I (i + 1) st1)∧(ptB x i=true → ∃ st' n0,(∀ n,n0 ≤ n→evHF C0 K TH n f (.ptr wb (a + 1 + i) :: caps) st1=some (.p (.tup []),st'))∧I (i + 1) st' ∧ Kept st.length st1 st')) :
    ∃ st' n0,(∀ n,n0 ≤ n→evHF C0 K TH n 71 [.ptr sp 0,hI a,.fn f caps] st=some (.p (.tup []),st'))∧I x.Slots.toNat st':=by
  obtain ⟨s,hs⟩:∃ s:Nat,x.Slots=s:=⟨x.Slots.toNat,by have:=hx.1;omega⟩
  have hst:x.Slots.toNat=s:=by omega
  rw [hst] at hstep hw ⊢
  have e22:=fun n=>e22 B S a ha hx hhd n
  let g:HSt:=[.box [hI x.Slots,hI x.Mask],.box [hI x.Slots,hI x.Mask]]
  obtain ⟨st',r,h3⟩:=loop71 B.toKPu (sp:=sp) (wb:=wb) (W:=ws.length) (a:=a) (f:=f) (caps:=caps) (p6:=st.length + 1) (N:=st.length) (by omega) hx hs hw hws I hI0 (fun i st1 h1 h2 _=>hstep i st1 h1 h2) s 0 (st ++ g) (by omega) (by omega) (happ g h0) (by rw [getElem?_len];rfl)
  obtain ⟨n0,hn0⟩:=Run.all r
  have z0:((0:Nat):Int)=0:=rfl
  simp only [env71,hI,z0,g] at hn0
  rw [← hs] at hn0
  refine ⟨st',n0 + 60,fun n hn=>evHF_mono hn _ _ _ _ (evHF_in (n:=n0 + 59) (B.no 71 rfl) (x:=h71) rfl rfl ?_),h3⟩
  simp (config:={ maxSteps:=4000000 }) [↓hs_pre,↓evP_call0',hs_eq,h71,e22,hn0]
end Go.Ab
namespace Go.Ab
open Go
set_option linter.unusedVariables false
set_option linter.unusedSimpArgs false
set_option maxRecDepth 10000
set_option maxHeartbeats 4000000
variable {K:HCalls}
abbrev fn77 (P:LPos):HV:=.fn 77 [.ptr P.p5 0,.ptr P.p11 0,.ptr P.p10 0,.ptr P.p4 0,.ptr P.p12 0]
structure LW (base:Nat) (P:LPos) (p13:Nat) (ah:HV) (ars:List Area) (ws:List Int) (L:List r26_Object) (st:HSt) (out:List Int):Prop where
  lv:∃ met oh,LV base P ah ars ws st out met oh
  b13:st[p13]? = some (.box [fn77 P])
  n13:p13 ≠ P.p10∧p13 ≠ P.p12∧base ≤ p13
  ok:OutOk L ars out
  ge:base ≤ st.length
structure Lk (ars:List Area) (ws:List Int) (L:List r26_Object):Prop where
  ok:∀ o ∈ L,ObjOk ws o∧0 < o.At
  ptr:∀ o ∈ L,PtrOk L o
  ap:(L.map keyOf).Pairwise Apart
  z:inAny ars 0=false
  len:L.length < 70000
  wl:ws.length < 100000000
  al:ars.length < 1000
theorem Lk.addr {ars:List Area} {ws:List Int} {L:List r26_Object} (H:Lk ars ws L) {p:Int} (hp:AddrOk L p):inAny ars p=true → ∃ x,OkSh x∧0 < p∧ws[p.toNat]? = some (hdB x):=fun h=>by
  rcases hp with rfl | ⟨o,ho,rfl⟩
  · rw [H.z] at h;cases h
  · exact ⟨o.Shape,(H.ok o ho).1.sh,(H.ok o ho).2,(H.ok o ho).1.hd⟩
variable {base:Nat} {P:LPos} {p13:Nat} {ah:HV} {ars:List Area} {ws:List Int} {L:List r26_Object}
theorem LW.visit (B:KB K) (hP:P.Ok base) (hab:∀ b,ah = .row b 0 ars.length 3→b < base) (hk:Lk ars ws L) {st:HSt} {out:List Int} (H:LW base P p13 ah ars ws L st out) {p:Int} (hp:AddrOk L p) :
    ∃ st' n0,(∀ n,n0 ≤ n→evHF C0 K TH n 77 [hI p,.ptr P.p5 0,.ptr P.p11 0,.ptr P.p10 0,.ptr P.p4 0,.ptr P.p12 0] st=some (.p (.tup []),st'))∧LW base P p13 ah ars ws L st' (mt ars out p)∧Same base st st' ∧ Boxes P.p10 P.p12 st st':=by
  obtain ⟨met,oh,lv⟩:=H.lv
  have hl:=H.ok.le
  obtain ⟨st',met',oh',n0,h1,h2,h3,h4⟩:=(Go.Ab.visit B hP hab hk.al (by have:=hk.wl;omega) H.ge lv (by have:=hk.len;omega) p (hk.addr hp)).ex
  exact ⟨st',n0,h1,⟨⟨met',oh',h2⟩,h4 _ _ H.n13.1 H.n13.2.1 H.b13,H.n13,H.ok.mt hk.z hp,Nat.le_trans H.ge h3.len⟩,h3,h4⟩
theorem e80 (hk:∀ ws st,K 80 ws st = .none) {st st':HSt} {j:Nat} {v:Int} (S:SpaceAt st P.sp P.wb ws) (hj:ws[j]? = some v) (b13:st[p13]? = some (.box [fn77 P])) {n0:Nat} (hv:∀ n,n0 ≤ n→evHF C0 K TH n 77 [hI v,.ptr P.p5 0,.ptr P.p11 0,.ptr P.p10 0,.ptr P.p4 0,.ptr P.p12 0] st=some (.p (.tup []),st')) :
    ∀ n,n0 + 60 ≤ n→evHF C0 K TH n 80 [.ptr P.wb j,.ptr p13 0] st=some (.p (.tup []),st'):=fun n hn=>by
  have hjl:j < ws.length:=(List.getElem?_eq_some_iff.1 hj).1
  have j1:j + 1 ≤ ws.length:=by omega
  have e1:=S.w
  have hv':evHF C0 K TH (n0 + 59) 77 [.p (.int .i64 v),.ptr P.p5 0,.ptr P.p11 0,.ptr P.p10 0,.ptr P.p4 0,.ptr P.p12 0] st=some (.p (.tup []),st'):=hv _ (by omega)
  have e3:ws[j]=v:=(List.getElem?_eq_some_iff.1 hj).2
  refine evHF_mono hn _ _ _ _ (evHF_in (n:=n0 + 59) hk (x:=h80) rfl rfl ?_)
  simp (config:={ maxSteps:=4000000 }) [↓hs_pre,↓evP_call0',hs_eq,h80,e1,hj,e3,j1,hjl,b13,hv']
theorem e81 (hk:∀ ws st,K 81 ws st = .none) {st st':HSt} {j:Nat} {v:Int} (S:SpaceAt st P.sp P.wb ws) (hj:ws[j]? = some v) (b13:st[p13]? = some (.box [fn77 P])) {n0:Nat} (hv:∀ n,n0 ≤ n→evHF C0 K TH n 77 [hI v,.ptr P.p5 0,.ptr P.p11 0,.ptr P.p10 0,.ptr P.p4 0,.ptr P.p12 0] st=some (.p (.tup []),st')) :
    ∀ n,n0 + 60 ≤ n→evHF C0 K TH n 81 [.ptr P.wb j,.ptr p13 0] st=some (.p (.tup []),st'):=fun n hn=>by
  have hjl:j < ws.length:=(List.getElem?_eq_some_iff.1 hj).1
  have j1:j + 1 ≤ ws.length:=by omega
  have e1:=S.w
  have hv':evHF C0 K TH (n0 + 59) 77 [.p (.int .i64 v),.ptr P.p5 0,.ptr P.p11 0,.ptr P.p10 0,.ptr P.p4 0,.ptr P.p12 0] st=some (.p (.tup []),st'):=hv _ (by omega)
  have e3:ws[j]=v:=(List.getElem?_eq_some_iff.1 hj).2
  refine evHF_mono hn _ _ _ _ (evHF_in (n:=n0 + 59) hk (x:=h81) rfl rfl ?_)
  simp (config:={ maxSteps:=4000000 }) [↓hs_pre,↓evP_call0',hs_eq,h81,e1,hj,e3,j1,hjl,b13,hv']
theorem LW.app {st:HSt} {out:List Int} (H:LW base P p13 ah ars ws L st out) (g:HSt):LW base P p13 ah ars ws L (st ++ g) out:=by
  obtain ⟨met,oh,lv⟩:=H.lv
  exact ⟨⟨met,oh,lv.app g⟩,by rw [get_lt (List.getElem?_eq_some_iff.1 H.b13).1];exact H.b13,H.n13,H.ok,by have:=H.ge;simp;omega⟩
theorem LW.ptrs (B:KB K) (hP:P.Ok base) (hab:∀ b,ah = .row b 0 ars.length 3→b < base) (hk:Lk ars ws L) {f:Nat} (hf:f=80 ∨ f=81) {st:HSt} {out:List Int} (H:LW base P p13 ah ars ws L st out) {o:r26_Object} (ho:o ∈ L) :
    ∃ st' n0,(∀ n,n0 ≤ n→evHF C0 K TH n 71 [.ptr P.sp 0,hI o.At,.fn f [.ptr p13 0]] st=some (.p (.tup []),st'))∧LW base P p13 ah ars ws L st' (mtL ars out (ptrs o))∧Same base st st':=by
  obtain ⟨o1,o2⟩:=hk.ok o ho
  obtain ⟨met,oh,lv⟩:=H.lv
  obtain ⟨a,ha⟩:∃ a:Nat,o.At=a:=⟨o.At.toNat,by omega⟩
  have hhd:=o1.hd
  have hsl:=o1.sl
  have hlen:=o1.len
  have hwl:=hk.wl
  rw [ha,Int.toNat_natCast] at hhd hsl
  have hn:o.Shape.Slots.toNat=o.Slots.length:=by omega
  have hext:a + 1 + o.Shape.Slots.toNat ≤ ws.length:=by
    rw [hn]
    have h1:=(List.getElem?_eq_some_iff.1 hhd).1
    rcases Nat.eq_zero_or_pos o.Slots.length with h0 | h0
    · omega
    · have:=hsl (o.Slots.length - 1) o.Slots[o.Slots.length - 1] (by simp [h0])
      have:=(List.getElem?_eq_some_iff.1 this).1
      omega
  obtain ⟨hlo,hhi,_⟩:=id hP
  have h10:P.p10 < st.length:=(List.getElem?_eq_some_iff.1 lv.b10).1
  have h12:P.p12 < st.length:=(List.getElem?_eq_some_iff.1 lv.b12).1
  let I:Nat→HSt→Prop:=fun i s1=>∃ o',LW base P p13 ah ars ws L s1 o' ∧ Same base st s1∧st.length ≤ s1.length∧mtL ars o' (ptrsL o.Shape i (o.Slots.drop i))=mtL ars out (Go.Ab.ptrs o)
  obtain ⟨st',n0,h1,o',h2,h3,_,h4⟩:=e71 B lv.S (by omega) (a:=a) (by omega) o1.sh hhd hext f [.ptr p13 0] I
    (fun g ⟨o',h1,h2,h3,h4⟩=>⟨o',h1.app g,h2.trans (Same.app (by have:=h1.ge;omega) g),by rw [List.length_append];omega,h4⟩)
    (fun i s1 ⟨o',h1,_⟩=>by obtain ⟨_,_,l⟩:=h1.lv;exact l.S.s)
    ⟨out,H,Same.refl _ _,Nat.le_refl _,rfl⟩
    (fun i s1 ⟨o',h1,h2,h3,h4⟩ hi=>by
      have hil:i < o.Slots.length:=by omega
      rw [List.drop_eq_getElem_cons hil] at h4
      simp only [ptrsL] at h4
      refine ⟨fun hb=>⟨o',h1,h2,h3,by rw [hb] at h4;simpa using h4⟩,fun hb=>?_⟩
      rw [if_pos hb,mtL_cons] at h4
      have hv:o.Slots[i]? = some o.Slots[i]:=by simp [hil]
      have hp:AddrOk L o.Slots[i]:=hk.ptr o ho i _ hv hb
      obtain ⟨st',n0,h5,h6,h7,h8⟩:=h1.visit B hP hab hk hp
      obtain ⟨_,_,l⟩:=h1.lv
      have hw:=hsl i _ hv
      refine ⟨st',n0 + 60,?_,⟨_,h6,h2.trans h7,Nat.le_trans h3 h7.len,h4⟩,fun q cs hq e=>h8 q cs (by omega) (by omega) e⟩
      rcases hf with rfl | rfl
      · exact e80 (B.no 80 rfl) l.S hw h1.b13 h5
      · exact e81 (B.no 81 rfl) l.S hw h1.b13 h5)
  rw [hn,List.drop_length] at h4
  simp only [ptrsL,mtL,List.foldl_nil] at h4
  subst h4
  rw [← ha] at h1
  exact ⟨st',n0,h1,h2,h3⟩
end Go.Ab
namespace Go.Ab
open Go
set_option linter.unusedVariables false
set_option linter.unusedSimpArgs false
set_option maxRecDepth 10000
set_option maxHeartbeats 4000000
variable {K:HCalls}
end Go.Ab
namespace Go.Ab
open Go
set_option linter.unusedVariables false
set_option linter.unusedSimpArgs false
set_option maxRecDepth 10000
set_option maxHeartbeats 4000000
variable {K:HCalls} {base:Nat} {ah:HV} {ars:List Area} {ws:List Int} {L:List r26_Object}
structure RW (base:Nat) (ah:HV) (ars:List Area) (L:List r26_Object) (st:HSt) (h:HV) (out:List Int):Prop where
  A:AreasAt st ah ars
  R:RowI base st h out
  ok:OutOk L ars out
  ge:base ≤ st.length
end Go.Ab
namespace Go.Ab
open Go
set_option linter.unusedVariables false
set_option linter.unusedSimpArgs false
def slN (L:List r26_Object) (p:Int):Nat:=match objAt L p with
  | some o=>o.Slots.length
  | none=>0
def tos (L:List r26_Object):Int→List Int→List Int
  | _,[]=>[]
  | t,p :: r=>t :: tos L (t + 1 + slN L p) r
def endT (L:List r26_Object):Int→List Int→Int
  | t,[]=>t
  | t,p :: r=>endT L (t + 1 + slN L p) r
def mvd:List Int→List Int→Int→Int
  | p :: ps,t :: ts,q=>if p=q then t else mvd ps ts q
  | _,_,q=>q
def cpy (L:List r26_Object) (t p:Int):r26_Object:=match objAt L p with
  | some o=>⟨t,o.Shape,o.Slots⟩
  | none=>⟨t,⟨0,0⟩,[]⟩
def cps (L:List r26_Object):Int→List Int→List r26_Object
  | _,[]=>[]
  | t,p :: r=>cpy L t p :: cps L (t + 1 + slN L p) r
variable {L:List r26_Object}
theorem tos_len:∀ (d:List Int) (t:Int),(tos L t d).length=d.length
  | [],_=>rfl
  | p :: r,t=>by simp [tos,tos_len r]
theorem cps_len:∀ (d:List Int) (t:Int),(cps L t d).length=d.length
  | [],_=>rfl
  | p :: r,t=>by simp [cps,cps_len r]
theorem tos_app:∀ (d e:List Int) (t:Int),tos L t (d ++ e)=tos L t d ++ tos L (endT L t d) e
  | [],e,t=>rfl
  | p :: r,e,t=>by simp [tos,endT,tos_app r]
theorem cps_app:∀ (d e:List Int) (t:Int),cps L t (d ++ e)=cps L t d ++ cps L (endT L t d) e
  | [],e,t=>rfl
  | p :: r,e,t=>by simp [cps,endT,cps_app r]
theorem endT_app:∀ (d e:List Int) (t:Int),endT L t (d ++ e)=endT L (endT L t d) e
  | [],e,t=>rfl
  | p :: r,e,t=>by simp [endT,endT_app r]
theorem endT_le:∀ (d:List Int) (t:Int),t ≤ endT L t d
  | [],t=>Int.le_refl _
  | p :: r,t=>by have:=endT_le r (t + 1 + slN L p);simp only [endT];omega
theorem mvd_not:∀ {d ts:List Int} {q:Int},q ∉ d→mvd d ts q=q
  | [],ts,q,h=>by cases ts <;> rfl
  | p :: r,[],q,h=>rfl
  | p :: r,t :: ts,q,h=>by
    simp only [List.mem_cons,not_or] at h
    simp only [mvd]
    rw [if_neg (fun e=>h.1 e.symm)]
    exact mvd_not h.2
theorem mvd_app:∀ {d:List Int} (e ts:List Int) {us:List Int} {q:Int},d.length=us.length→q ∈ d→mvd (d ++ e) (us ++ ts) q=mvd d us q
  | p :: r,e,ts,u :: us,q,hl,h=>by
    simp only [List.cons_append,mvd]
    by_cases hp:p=q
    · rw [if_pos hp,if_pos hp]
    · rw [if_neg hp,if_neg hp]
      exact mvd_app e ts (by simpa using hl) ((List.mem_cons.1 h).resolve_left fun e=>hp e.symm)
theorem mvd_new:∀ {d us:List Int} {q t:Int},d.length=us.length→q ∉ d→mvd (d ++ [q]) (us ++ [t]) q=t
  | [],[],q,t,_,_=>by simp [mvd]
  | p :: r,u :: us,q,t,hl,h=>by
    simp only [List.mem_cons,not_or] at h
    simp only [List.cons_append,mvd]
    rw [if_neg (fun e=>h.1 e.symm)]
    exact mvd_new (by simpa using hl) h.2
theorem mvd_pos:∀ {d:List Int} {t q:Int},0 < t→q ∈ d→0 < mvd d (tos L t d) q
  | p :: r,t,q,ht,h=>by
    simp only [tos,mvd]
    by_cases hp:p=q
    · rw [if_pos hp];exact ht
    · rw [if_neg hp]
      exact mvd_pos (by omega) ((List.mem_cons.1 h).resolve_left fun e=>hp e.symm)
theorem mvd_lt:∀ {d:List Int} {t q:Int},q ∈ d→mvd d (tos L t d) q < endT L t d
  | p :: r,t,q,h=>by
    simp only [tos,mvd,endT]
    by_cases hp:p=q
    · rw [if_pos hp];have:=endT_le (L:=L) r (t + 1 + slN L p);omega
    · rw [if_neg hp]
      exact mvd_lt ((List.mem_cons.1 h).resolve_left fun e=>hp e.symm)
abbrev mv (L:List r26_Object) (t:Int) (d:List Int) (q:Int):Int:=mvd d (tos L t d) q
theorem mv_pre {t:Int} {d e:List Int} {q:Int} (h:q ∈ d):mv L t (d ++ e) q=mv L t d q:=by
  unfold mv
  rw [tos_app]
  exact mvd_app e _ (tos_len d t).symm h
theorem mv_new {t:Int} {d:List Int} {q:Int} (h:q ∉ d):mv L t (d ++ [q]) q=endT L t d:=by
  unfold mv
  rw [tos_app]
  exact mvd_new (tos_len d t).symm h
theorem cpy_key (t p:Int):keyOf (cpy L t p)=(t,slN L p):=by
  unfold cpy slN keyOf
  cases objAt L p <;> rfl
theorem cpy_of {t p:Int} {o:r26_Object} (h:objAt L p=some o):cpy L t p=⟨t,o.Shape,o.Slots⟩:=by unfold cpy;rw [h]
theorem slN_of {p:Int} {o:r26_Object} (h:objAt L p=some o):slN L p=o.Slots.length:=by unfold slN;rw [h]
structure MVI (L:List r26_Object) (ars:List Area) (t0 hi:Int) (ws done:List Int) (NL:List r26_Object):Prop where
  ok:∀ o ∈ NL,ObjOk ws o
  un:∀ o ∈ L,inAny ars o.At=true→o.At ∉ done→ObjOk ws o
  fw:∀ p ∈ done,ws[p.toNat]? = some (-(mv L t0 done p))
  ap:(NL.map keyOf ++ (L.filter fun o=>inAny ars o.At).map keyOf).Pairwise Apart
  out:∀ k ∈ NL.map keyOf ++ (L.filter fun o=>inAny ars o.At).map keyOf,0 < k.1∧(k.1 + 1 + k.2 ≤ endT L t0 done ∨ hi ≤ k.1)
  dn:OutOk L ars done
  t0:0 < t0
  hw:hi ≤ ws.length
theorem mem_from {ars:List Area} {o:r26_Object} (h:o ∈ L) (hi:inAny ars o.At=true):keyOf o ∈ (L.filter fun o=>inAny ars o.At).map keyOf :=
  List.mem_map.2 ⟨o,List.mem_filter.2 ⟨h,hi⟩,rfl⟩
structure Blit (ws ws':List Int) (p t n:Nat):Prop where
  len:ws'.length=ws.length
  get:∀ j:Nat,ws'[j]? = if j=p then some (-(t:Int)) else if t ≤ j∧j < t + n then ws[p + (j - t)]? else ws[j]?
theorem MVI.copy {ars:List Area} {t0 hi:Int} {ws ws' done:List Int} {NL:List r26_Object} (H:MVI L ars t0 hi ws done NL) (hapL:(L.map keyOf).Pairwise Apart) {o:r26_Object} (ho:o ∈ L) (hin:inAny ars o.At=true) (hnd:o.At ∉ done) (hroom:endT L t0 done + 1 + o.Slots.length ≤ hi)
    (hB:Blit ws ws' o.At.toNat (endT L t0 done).toNat (1 + o.Slots.length)):MVI L ars t0 hi ws' (done ++ [o.At]) (NL ++ [cpy L (endT L t0 done) o.At]):=by
  have hoa:=objAt_of hapL ho
  have hc:=cpy_of (t:=endT L t0 done) hoa
  have hsl:=slN_of hoa
  have hok:=H.un o ho hin hnd
  have hkf:=mem_from ho hin
  have hko:=H.out _ (List.mem_append_right _ hkf)
  simp only [keyOf] at hko
  have ht0:=endT_le (L:=L) done t0
  have h00:=H.t0
  have hend:endT L t0 (done ++ [o.At])=endT L t0 done + 1 + o.Slots.length:=by rw [endT_app];simp only [endT];rw [hsl]
  have hw:=H.hw
  have hnew:∀ k ∈ NL.map keyOf ++ (L.filter fun o=>inAny ars o.At).map keyOf,Apart k (endT L t0 done,o.Slots.length):=fun k hk=>by
    have:=H.out k hk
    simp only [Apart];omega
  have other:∀ o2:r26_Object,0 < o2.At→Apart (keyOf o2) (keyOf o)→Apart (keyOf o2) (endT L t0 done,o.Slots.length)→ObjOk ws o2→ObjOk ws' o2:=fun o2 h0 h1 h2 h3=>by
    simp only [Apart,keyOf] at h1 h2
    refine h3.ext (by omega) fun j hj1 hj2=>?_
    rw [hB.get,if_neg (by omega),if_neg (by omega)]
  refine ⟨fun o2 h2=>?_,fun o2 h2 hi2 hn2=>?_,fun p hp=>?_,?_,fun k hk=>?_,?_,H.t0,by rw [hB.len];exact hw⟩
  · rcases List.mem_append.1 h2 with h2 | h2
    · have hk2:keyOf o2 ∈ NL.map keyOf:=List.mem_map.2 ⟨o2,h2,rfl⟩
      have hk2':=List.mem_append_left ((L.filter fun o=>inAny ars o.At).map keyOf) hk2
      exact other o2 (H.out _ hk2').1 ((List.pairwise_append.1 H.ap).2.2 _ hk2 _ hkf) (hnew _ hk2') (H.ok o2 h2)
    · rw [List.mem_singleton] at h2
      rw [h2,hc]
      have hlen:=hok.len
      refine ⟨hok.sh,hok.len,?_,fun i v hv=>?_⟩
      · rw [hB.get,if_neg (by simp only;omega),if_pos (by simp only;omega)]
        simp only [Nat.sub_self,Nat.add_zero]
        exact hok.hd
      · have hil:i < o.Slots.length:=(List.getElem?_eq_some_iff.1 hv).1
        simp only at hv ⊢
        rw [hB.get,if_neg (by omega),if_pos (by omega)]
        rw [show o.At.toNat + ((endT L t0 done).toNat + 1 + i - (endT L t0 done).toNat)=o.At.toNat + 1 + i by omega]
        exact hok.sl i v hv
  · simp only [List.mem_append,List.mem_singleton,not_or] at hn2
    have hk2:=mem_from h2 hi2
    have hk2':=List.mem_append_right (NL.map keyOf) hk2
    obtain ⟨i,hi'⟩:=List.getElem?_of_mem h2
    obtain ⟨j,hj'⟩:=List.getElem?_of_mem ho
    have hne:i ≠ j:=fun e=>by subst e;rw [hi'] at hj';cases hj';exact hn2.2 rfl
    have h1:=apart_get hapL (i:=i) (j:=j) (by rw [List.getElem?_map,hi'];rfl) (by rw [List.getElem?_map,hj'];rfl) hne
    exact other o2 (H.out _ hk2').1 h1 (hnew _ hk2') (H.un o2 h2 hi2 hn2.1)
  · rcases List.mem_append.1 hp with hp | hp
    · rw [mv_pre hp,hB.get]
      obtain ⟨hpi,o2,ho2,hat⟩:=H.dn.mem p hp
      subst hat
      have hk2:=mem_from ho2 hpi
      have hk2':=List.mem_append_right (NL.map keyOf) hk2
      have h3:=hnew _ hk2'
      have h4:=(H.out _ hk2').1
      simp only [Apart,keyOf] at h3 h4
      have hne:o2.At ≠ o.At:=fun e=>hnd (e ▸ hp)
      rw [if_neg (by omega),if_neg (by omega)]
      exact H.fw _ hp
    · rw [List.mem_singleton] at hp;subst hp
      rw [mv_new hnd,hB.get,if_pos rfl,Int.toNat_of_nonneg (by omega)]
  · rw [List.map_append,List.append_assoc]
    have e:List.map keyOf [cpy L (endT L t0 done) o.At]=[(endT L t0 done,o.Slots.length)]:=by simp [cpy_key,hsl]
    rw [e]
    obtain ⟨a1,a2,a3⟩:=List.pairwise_append.1 H.ap
    refine List.pairwise_append.2 ⟨a1,List.pairwise_append.2 ⟨by simp,a2,fun a ha b hb=>?_⟩,fun a ha b hb=>?_⟩
    · rw [List.mem_singleton] at ha;subst ha
      exact (hnew b (List.mem_append_right _ hb)).symm
    · rcases List.mem_append.1 hb with hb | hb
      · rw [List.mem_singleton] at hb;subst hb
        exact hnew a (List.mem_append_left _ ha)
      · exact a3 a ha b hb
  · rw [hend]
    rw [List.map_append,List.append_assoc] at hk
    have e:List.map keyOf [cpy L (endT L t0 done) o.At]=[(endT L t0 done,o.Slots.length)]:=by simp [cpy_key,hsl]
    rw [e] at hk
    have old:∀ k ∈ NL.map keyOf ++ (L.filter fun o=>inAny ars o.At).map keyOf,0 < k.1∧(k.1 + 1 + k.2 ≤ endT L t0 done + 1 + o.Slots.length ∨ hi ≤ k.1):=fun k hk=>by
      have:=H.out k hk;omega
    rcases List.mem_append.1 hk with hk | hk
    · exact old k (List.mem_append_left _ hk)
    · rcases List.mem_append.1 hk with hk | hk
      · rw [List.mem_singleton] at hk;subst hk
        simp only;omega
      · exact old k (List.mem_append_right _ hk)
  · exact ⟨List.nodup_append.2 ⟨H.dn.nodup,by simp,fun a ha b hb=>by rw [List.mem_singleton] at hb;subst hb;exact fun e=>hnd (e ▸ ha)⟩,fun q hq=>by
      rcases List.mem_append.1 hq with hq | hq
      · exact H.dn.mem q hq
      · rw [List.mem_singleton] at hq;subst hq;exact ⟨hin,o,ho,rfl⟩⟩
theorem MVI.turn {ars:List Area} {t0 hi:Int} {ws done:List Int} {NL:List r26_Object} (H:MVI L ars t0 hi ws done NL) {q:Nat} {o:r26_Object} (ho:NL[q]? = some o) {i:Nat} (hi':i < o.Slots.length) (v:Int) :
    MVI L ars t0 hi (ws.set (o.At.toNat + 1 + i) v) done (NL.set q ⟨o.At,o.Shape,o.Slots.set i v⟩):=by
  obtain ⟨hql,hqo⟩:=List.getElem?_eq_some_iff.1 ho
  have hom:o ∈ NL:=List.mem_of_getElem? ho
  have hok:=H.ok o hom
  have ek:(NL.set q ⟨o.At,o.Shape,o.Slots.set i v⟩).map keyOf=NL.map keyOf:=by
    rw [List.map_set]
    apply List.ext_getElem?
    intro j
    rw [List.getElem?_set]
    split
    · rename_i e;subst e
      rw [if_pos (by simpa using hql),List.getElem?_map,ho]
      simp [keyOf]
    · rfl
  have hko:keyOf o ∈ NL.map keyOf:=List.mem_map.2 ⟨o,hom,rfl⟩
  have hko':=List.mem_append_left ((L.filter fun o=>inAny ars o.At).map keyOf) hko
  have h0:=(H.out _ hko').1
  simp only [keyOf] at h0
  have other:∀ o2:r26_Object,0 < o2.At→Apart (keyOf o2) (keyOf o)→ObjOk ws o2→ObjOk (ws.set (o.At.toNat + 1 + i) v) o2:=fun o2 h1 h2 h3=>by
    simp only [Apart,keyOf] at h2
    exact h3.ext (by omega) fun j hj1 hj2=>List.getElem?_set_ne (by omega)
  obtain ⟨a1,a2,a3⟩:=List.pairwise_append.1 H.ap
  refine ⟨fun o2 h2=>?_,fun o2 h2 hi2 hn2=>?_,fun p hp=>?_,by rw [ek];exact H.ap,by rw [ek];exact H.out,H.dn,H.t0,by rw [List.length_set];exact H.hw⟩
  · obtain ⟨j,hj⟩:=List.getElem?_of_mem h2
    by_cases e:q=j
    · subst e
      rw [List.getElem?_set_self hql] at hj
      cases hj
      refine ⟨hok.sh,by simpa using hok.len,by simp only;rw [List.getElem?_set_ne (by omega)];exact hok.hd,fun k u hu=>?_⟩
      simp only at hu ⊢
      have hin:o.At.toNat + 1 + i < ws.length:=(List.getElem?_eq_some_iff.1 (hok.sl i o.Slots[i] (by simp [hi']))).1
      rw [List.getElem?_set] at hu ⊢
      by_cases e:i=k
      · subst e;rw [if_pos rfl,if_pos hi'] at hu;rw [if_pos rfl,if_pos hin];exact hu
      · rw [if_neg e] at hu;rw [if_neg (by omega)];exact hok.sl k u hu
    · rw [List.getElem?_set_ne e] at hj
      have hm2:=List.mem_of_getElem? hj
      have hkm:keyOf o2 ∈ NL.map keyOf:=List.mem_map.2 ⟨o2,hm2,rfl⟩
      have hk2:=List.mem_append_left ((L.filter fun o=>inAny ars o.At).map keyOf) hkm
      exact other o2 (H.out _ hk2).1 (apart_get a1 (i:=j) (j:=q) (by rw [List.getElem?_map,hj];rfl) (by rw [List.getElem?_map,ho];rfl) (fun h=>e h.symm)) (H.ok o2 hm2)
  · have hk2:=mem_from h2 hi2
    exact other o2 (H.out _ (List.mem_append_right _ hk2)).1 (a3 _ hko _ hk2).symm (H.un o2 h2 hi2 hn2)
  · obtain ⟨hpi,o2,ho2,hat⟩:=H.dn.mem p hp
    subst hat
    have hk2:=mem_from ho2 hpi
    have h3:=a3 _ hko _ hk2
    have h4:=(H.out _ (List.mem_append_right _ hk2)).1
    simp only [Apart,keyOf] at h3 h4
    rw [List.getElem?_set_ne (by omega)]
    exact H.fw _ hp
theorem cps_drop {t:Int} {d r:List Int} {m:Nat} (h:m ≤ d.length):(cps L t (d ++ r)).drop m=(cps L t d).drop m ++ (cps L t (d ++ r)).drop d.length:=by
  rw [cps_app,List.drop_append_of_le_length (by rw [cps_len];exact h)]
  congr 1
  rw [List.drop_append_of_le_length (by rw [cps_len];exact Nat.le_refl _),← cps_len (L:=L) d t,List.drop_length,List.nil_append]
theorem endT_pre {t:Int} (d r:List Int):endT L t d ≤ endT L t (d ++ r):=by rw [endT_app];exact endT_le _ _
def trn (L:List r26_Object) (t:Int) (F:List Int) (x:Shape):Nat→Nat→List Int→List Int
  | _,_,[]=>[]
  | i,n,v :: r=>(if i < n∧ptB x i=true then mv L t F v else v) :: trn L t F x (i + 1) n r
theorem trn_len {t:Int} {F:List Int} {x:Shape} {n:Nat}:∀ (os:List Int) (i:Nat),(trn L t F x i n os).length=os.length
  | [],_=>rfl
  | v :: r,i=>by simp [trn,trn_len r]
theorem trn_get {t:Int} {F:List Int} {x:Shape} {n:Nat}:∀ (os:List Int) (i j:Nat),(trn L t F x i n os)[j]? = (os[j]?).map fun v=>if i + j < n∧ptB x (i + j:Nat)=true then mv L t F v else v
  | [],i,j=>by simp [trn]
  | v :: r,i,0=>by simp [trn]
  | v :: r,i,j + 1=>by
    simp only [trn,List.getElem?_cons_succ]
    rw [trn_get r (i + 1) j,show i + 1 + j=i + (j + 1) by omega]
theorem trn_zero {t:Int} {F:List Int} {x:Shape} (os:List Int):trn L t F x 0 0 os=os:=by
  apply List.ext_getElem?
  intro j
  rw [trn_get]
  simp
theorem trn_succ {t:Int} {F:List Int} {x:Shape} {os:List Int} {n:Nat} {v:Int} (hv:os[n]? = some v):trn L t F x 0 (n + 1) os=if ptB x n=true then (trn L t F x 0 n os).set n (mv L t F v) else trn L t F x 0 n os:=by
  apply List.ext_getElem?
  intro j
  have hl:n < os.length:=(List.getElem?_eq_some_iff.1 hv).1
  split
  · rename_i hb
    rw [List.getElem?_set,trn_get,trn_get,trn_len]
    by_cases e:n=j
    · subst e;rw [if_pos rfl,if_pos hl,hv];simp [hb]
    · rw [if_neg e]
      cases os[j]? with
      | none=>rfl
      | some u =>
        simp only [Option.map_some,Nat.zero_add]
        by_cases h:j < n
        · simp [h,show j < n + 1 by omega]
        · simp [h,show ¬ j < n + 1 by omega]
  · rename_i hb
    rw [trn_get,trn_get]
    cases os[j]? with
    | none=>rfl
    | some u =>
      simp only [Option.map_some,Nat.zero_add]
      by_cases e:n=j
      · subst e;simp [hb]
      · by_cases h:j < n
        · simp [h,show j < n + 1 by omega]
        · simp [h,show ¬ j < n + 1 by omega]
end Go.Ab
namespace Go.Ab
open Go
set_option linter.unusedVariables false
set_option linter.unusedSimpArgs false
set_option maxRecDepth 10000
set_option maxHeartbeats 4000000
variable {K:HCalls}
def setI:List Int→Nat→List Int→List Int
  | ws,_,[]=>ws
  | ws,i,y :: ys=>setI (ws.set i y) (i + 1) ys
theorem setI_len:∀ (ys ws:List Int) (i:Nat),(setI ws i ys).length=ws.length
  | [],_,_=>rfl
  | y :: ys,ws,i=>by simp [setI,setI_len ys]
theorem setI_map:∀ (ys ws:List Int) (i:Nat),setCellsH (ws.map fun n=>.p (.int .i64 n)) i (ys.map fun n=>.p (.int .i64 n))=(setI ws i ys).map fun n=>.p (.int .i64 n)
  | [],_,_=>rfl
  | y :: ys,ws,i=>by
    have:=setI_map ys (ws.set i y) (i + 1)
    rw [List.map_set] at this
    simpa [setI,setCellsH] using this
theorem setI_get:∀ (ys ws:List Int) (i j:Nat),i + ys.length ≤ ws.length→(setI ws i ys)[j]? = if i ≤ j∧j < i + ys.length then ys[j - i]? else ws[j]?
  | [],ws,i,j,h=>by rw [setI,if_neg (by simp only [List.length_nil];omega)]
  | y :: ys,ws,i,j,h=>by
    simp only [List.length_cons] at h ⊢
    rw [setI,setI_get ys (ws.set i y) (i + 1) j (by simp;omega)]
    by_cases h1:i + 1 ≤ j∧j < i + 1 + ys.length
    · rw [if_pos h1,if_pos (by omega),show j - i=(j - (i + 1)) + 1 by omega,List.getElem?_cons_succ]
    · rw [if_neg h1,List.getElem?_set]
      by_cases h2:i=j
      · subst h2;rw [if_pos rfl,if_pos (by omega),if_pos (by omega)];simp
      · rw [if_neg h2,if_neg (by omega)]
theorem mv70a (B:KB K) {st:HSt} {sp wb pm:Nat} {ws:List Int} (S:SpaceAt st sp wb ws) (hws:ws.length < 1000000000) {ah:HV} {ars:List Area} (A:AreasAt st ah ars) (has:ars.length < 1000) {tlo thi tnx:Int} (bm:st[pm]? = some (.box [.ptr sp 0,ah,hI tlo,hI thi,hI tnx])) (p:Int) (hin:inAny ars p=false) :
    ∃ g n0,∀ n,n0 ≤ n→evHF C0 K TH n 70 [.ptr pm 0,hI p] st=some (hI p,st ++ g):=by
  have lm:=(List.getElem?_eq_some_iff.1 bm).1
  have hinf:InFn K 115:=fun st p at' hp a n=>e115 (B.no 115 rfl) B.toKPu hp a n
  obtain ⟨g,n0,f78⟩:=e78 (K:=K) ⟨B.no 78 rfl,B.no 116 rfl⟩ (A.app [.box [hI p]]) has (p:=st.length) (at':=p) hinf (by rw [getElem?_len0];rfl)
  have e78':∀ k,evHF C0 K TH (n0 + k) 78 [ah,.fn 115 [.ptr st.length 0]] (st ++ [.box [hI p]])=some (.p (.bool (inAny ars p)),st ++ (.box [hI p] :: g)):=fun k=>by
    have:=f78 (n0 + k) (by omega)
    rw [List.append_assoc] at this
    exact this
  rw [hin] at e78'
  refine ⟨.box [hI p] :: g,n0 + 60,fun n hn=>evHF_mono hn _ _ _ _ (evHF_in (n:=n0 + 59) (B.no 70 rfl) (x:=h70) rfl rfl ?_)⟩
  rcases A.sh with ⟨q,cs,rfl⟩ | ⟨b,o,q,z,rfl⟩
  · simp (config:={ maxSteps:=4000000 }) [↓hs_pre,↓evP_call0',hs_eq,-getElem?_pos,List.getElem?_cons_zero,List.getElem?_cons_succ,get_lt,set_lt,get_set_ne,get_set_self,get_off,get_off0,set_off,set_off0,len_set,h70,e78',bm,lm]
  · simp (config:={ maxSteps:=4000000 }) [↓hs_pre,↓evP_call0',hs_eq,-getElem?_pos,List.getElem?_cons_zero,List.getElem?_cons_succ,get_lt,set_lt,get_set_ne,get_set_self,get_off,get_off0,set_off,set_off0,len_set,h70,e78',bm,lm]
theorem mv70b (B:KB K) {st:HSt} {sp wb pm:Nat} {ws:List Int} (S:SpaceAt st sp wb ws) (hws:ws.length < 1000000000) {ah:HV} {ars:List Area} (A:AreasAt st ah ars) (has:ars.length < 1000) {tlo thi tnx:Int} (bm:st[pm]? = some (.box [.ptr sp 0,ah,hI tlo,hI thi,hI tnx])) (a:Nat) (hin:inAny ars a=true) {t:Int} (ht:0 < t∧t < 1000000000) (hw:ws[a]? = some (-t)) :
    ∃ g n0,∀ n,n0 ≤ n→evHF C0 K TH n 70 [.ptr pm 0,hI a] st=some (hI t,st ++ g):=by
  have lm:=(List.getElem?_eq_some_iff.1 bm).1
  obtain ⟨ls,lw,_⟩:=S.lt
  have s1:=S.s
  have s2:=S.w
  have hal:=(List.getElem?_eq_some_iff.1 hw).1
  have hal':(a:Int) < ws.length:=by omega
  have i1:a + 1 ≤ ws.length:=by omega
  have hneg:-t < 0:=by omega
  have w1:IntKind.i64.wrap (- -t)=t:=by rw [wrap64 (by omega)];omega
  have w2:IntKind.i64.wrap t=t:=wrap64 (by omega)
  have hinf:InFn K 115:=fun st p at' hp a n=>e115 (B.no 115 rfl) B.toKPu hp a n
  obtain ⟨g,n0,f78⟩:=e78 (K:=K) ⟨B.no 78 rfl,B.no 116 rfl⟩ (A.app [.box [hI a]]) has (p:=st.length) (at':=a) hinf (by rw [getElem?_len0];rfl)
  have e78':∀ k,evHF C0 K TH (n0 + k) 78 [ah,.fn 115 [.ptr st.length 0]] (st ++ [.box [hI a]])=some (.p (.bool (inAny ars a)),st ++ (.box [hI a] :: g)):=fun k=>by
    have:=f78 (n0 + k) (by omega)
    rw [List.append_assoc] at this
    exact this
  rw [hin] at e78'
  refine ⟨.box [hI a] :: g,n0 + 60,fun n hn=>evHF_mono hn _ _ _ _ (evHF_in (n:=n0 + 59) (B.no 70 rfl) (x:=h70) rfl rfl ?_)⟩
  rcases A.sh with ⟨q,cs,rfl⟩ | ⟨b,o,q,z,rfl⟩
  · simp (config:={ maxSteps:=4000000 }) [↓hs_pre,↓evP_call0',hs_eq,-getElem?_pos,List.getElem?_cons_zero,List.getElem?_cons_succ,get_lt,set_lt,get_set_ne,get_set_self,get_off,get_off0,set_off,set_off0,len_set,h70,e78',bm,lm,ls,lw,s1,s2,hal,hal',i1,hw,ht.1,hneg,w1,w2]
  · simp (config:={ maxSteps:=4000000 }) [↓hs_pre,↓evP_call0',hs_eq,-getElem?_pos,List.getElem?_cons_zero,List.getElem?_cons_succ,get_lt,set_lt,get_set_ne,get_set_self,get_off,get_off0,set_off,set_off0,len_set,h70,e78',bm,lm,ls,lw,s1,s2,hal,hal',i1,hw,ht.1,hneg,w1,w2]
theorem mv70c (B:KB K) {st:HSt} {sp wb pm:Nat} {ws:List Int} (S:SpaceAt st sp wb ws) (hpm:¬ wb=pm ∧ ¬ pm=sp ∧ ¬ pm=wb ∧ ¬ sp=pm ∧ ¬ wb=sp) (hws:ws.length < 1000000000) {ah:HV} {ars:List Area} (A:AreasAt st ah ars) (has:ars.length < 1000) {tlo thi:Int} {t:Nat} (bm:st[pm]? = some (.box [.ptr sp 0,ah,hI tlo,hI thi,hI t])) (a:Nat) (hin:inAny ars a=true) {x:Shape} (hx:OkSh x) (hhd:ws[a]? = some (hdB x)) {s:Nat} (hs:x.Slots=s) (ha0:0 < a) (ha1:a + 1 + s ≤ ws.length) (ht0:0 < t) (ht1:t + 1 + s ≤ ws.length) :
    ∃ G R1 n0,∀ n,n0 ≤ n→evHF C0 K TH n 70 [.ptr pm 0,hI a] st=some (hI t,((st.set wb R1).set pm (.box [.ptr sp 0,ah,hI tlo,hI thi,hI (t + (1 + s))])).set wb (.row 1 ws.length (((setI ws t ((ws.drop a).take (1 + s))).set a (-(t:Int))).map fun n=>.p (.int .i64 n))) ++ G):=by
  have lm:=(List.getElem?_eq_some_iff.1 bm).1
  obtain ⟨ls,lw,_⟩:=S.lt
  have s1:=S.s
  have s2:=S.w
  obtain ⟨p1,p2,p3,p4,p5⟩:=hpm
  have hal:=(List.getElem?_eq_some_iff.1 hhd).1
  have hal':(a:Int) < ws.length:=by omega
  have i1:a + 1 ≤ ws.length:=by omega
  have h16:=hx.2.1
  have hhp:=(hd_pos hx).1
  have hneg:¬ hdB x < 0:=by omega
  have w1:IntKind.i64.wrap ((a:Int) + 1)=(a:Int) + 1:=wrap64 (by omega)
  obtain ⟨e,he⟩:∃ e,a + 1 + s=e:=⟨_,rfl⟩
  have w2:IntKind.i64.wrap ((a:Int) + 1 + s)=(e:Int):=by rw [wrap64 (by omega)];omega
  have w3:IntKind.i64.wrap (1 + (s:Int))=1 + (s:Int):=wrap64 (by omega)
  have w4:IntKind.i64.wrap ((t:Int) + (1 + s))=(t:Int) + (1 + s):=wrap64 (by omega)
  have w5:IntKind.i64.wrap (-(t:Int)) = -(t:Int):=wrap64 (by omega)
  have e22:∀ n (X:HSt),X[sp]? = some (.box [.row wb 0 ws.length 1])→X[wb]? = some (.row 1 ws.length (ws.map fun n=>.p (.int .i64 n)))→evHF C0 K TH (n + 30) 22 [.ptr sp 0,hI a] X=some (.p (.tup [.agg [.int .i64 s,.int .i64 x.Mask],.int .i64 0]),X ++ [.box [hI s,hI x.Mask]]):=fun n X h1 h2=>by
    have:=e22 B ⟨h1,h2⟩ a (by omega) hx hhd n
    rw [← hs];exact this
  have hinf:InFn K 115:=fun st p at' hp a n=>e115 (B.no 115 rfl) B.toKPu hp a n
  obtain ⟨g,n0,f78⟩:=e78 (K:=K) ⟨B.no 78 rfl,B.no 116 rfl⟩ (A.app [.box [hI a]]) has (p:=st.length) (at':=a) hinf (by rw [getElem?_len0];rfl)
  have e78':∀ k,evHF C0 K TH (n0 + k) 78 [ah,.fn 115 [.ptr st.length 0]] (st ++ [.box [hI a]])=some (.p (.bool (inAny ars a)),st ++ (.box [hI a] :: g)):=fun k=>by
    have:=f78 (n0 + k) (by omega)
    rw [List.append_assoc] at this
    exact this
  rw [hin] at e78'
  have c1:t < ws.length:=by omega
  have c2:t ≤ ws.length:=by omega
  have c3:¬ t=0:=by omega
  have c4:¬ a=0:=by omega
  have c5:a < e:=by omega
  have c6:a ≤ e:=by omega
  have c7:e ≤ ws.length:=by omega
  have d1:min (e - a) (ws.length - a)=e - a:=by omega
  have d2:min (ws.length - t) (e - a)=e - a:=by omega
  obtain ⟨ys,hys⟩:∃ ys,(ws.drop a).take (e - a)=ys:=⟨_,rfl⟩
  have d4:((ws.map fun n=>HV.p (.int .i64 n)).drop a).take (e - a)=ys.map fun n=>.p (.int .i64 n):=by rw [← List.map_drop,← List.map_take,hys]
  have d5:=setI_map ys ws t
  have d6:ys.length=e - a:=by rw [← hys];simp;omega
  obtain ⟨w1s,hw1s⟩:∃ w1s,setI ws t ys=w1s:=⟨_,rfl⟩
  have d7:w1s.length=ws.length:=by rw [← hw1s,setI_len]
  rw [hw1s] at d5
  have d8:(ys.map fun n=>HV.p (.int .i64 n)).take (e - a)=ys.map fun n=>.p (.int .i64 n):=List.take_of_length_le (by simp;omega)
  rw [show 1 + s=e - a by omega,hys,hw1s]
  apply Exists.intro
  apply Exists.intro
  refine ⟨n0 + 60,fun n hn=>evHF_mono hn _ _ _ _ (evHF_in (n:=n0 + 59) (B.no 70 rfl) (x:=h70) rfl rfl ?_)⟩
  rcases A.sh with ⟨q,cs,rfl⟩ | ⟨b,o,q,z,rfl⟩
  · simp (config:={ maxSteps:=4000000 }) [↓hs_pre,↓evP_call0',hs_eq,-getElem?_pos,List.getElem?_cons_zero,List.getElem?_cons_succ,get_lt,set_lt,get_set_ne,get_set_self,get_off,get_off0,set_off,set_off0,len_set,h70,e78',bm,lm,ls,lw,s1,s2,hal,hal',i1,hhd,hneg,d1,d2,d4,d5,d6,d7,d8,w1,w2,w3,w4,w5,e22,p1,p2,p3,p4,p5,c1,c2,c3,c4,c5,c6,c7,List.map_set]
    all_goals exact rfl
  · simp (config:={ maxSteps:=4000000 }) [↓hs_pre,↓evP_call0',hs_eq,-getElem?_pos,List.getElem?_cons_zero,List.getElem?_cons_succ,get_lt,set_lt,get_set_ne,get_set_self,get_off,get_off0,set_off,set_off0,len_set,h70,e78',bm,lm,ls,lw,s1,s2,hal,hal',i1,hhd,hneg,d1,d2,d4,d5,d6,d7,d8,w1,w2,w3,w4,w5,e22,p1,p2,p3,p4,p5,c1,c2,c3,c4,c5,c6,c7,List.map_set]
    all_goals exact rfl
theorem blit_of {ws:List Int} {a t n:Nat} (h1:a + n ≤ ws.length) (h2:t + n ≤ ws.length) (h3:a < ws.length):Blit ws ((setI ws t ((ws.drop a).take n)).set a (-(t:Int))) a t n:=by
  have hl:((ws.drop a).take n).length=n:=by simp;omega
  refine ⟨by rw [List.length_set,setI_len],fun j=>?_⟩
  rw [List.getElem?_set,setI_len,setI_get _ _ _ _ (by rw [hl];exact h2),hl]
  by_cases e:a=j
  · subst e;rw [if_pos rfl,if_pos h3,if_pos rfl]
  · rw [if_neg e,if_neg (show ¬ j=a from fun h=>e h.symm)]
    by_cases h:t ≤ j∧j < t + n
    · rw [if_pos h,if_pos h,List.getElem?_take,if_pos (by omega),List.getElem?_drop]
    · rw [if_neg h,if_neg h]
structure MS (base pm sp wb:Nat) (ah:HV) (ars:List Area) (L:List r26_Object) (tlo thi t0 hi:Int) (st:HSt) (ws done:List Int) (NL:List r26_Object):Prop where
  S:SpaceAt st sp wb ws
  A:AreasAt st ah ars
  bm:st[pm]? = some (.box [.ptr sp 0,ah,hI tlo,hI thi,hI (endT L t0 done)])
  I:MVI L ars t0 hi ws done NL
  ge:base ≤ st.length
  lo:sp < base∧wb < base∧base ≤ pm ∧ ∀ b,ah = .row b 0 ars.length 3→b < base
  wl:ws.length < 1000000000
structure Stay (base wb pm:Nat) (st st':HSt):Prop where
  len:st.length ≤ st'.length
  low:∀ i,i < base→i ≠ wb→st'[i]? = st[i]?
  box:∀ q cs,q ≠ pm→st[q]? = some (.box cs)→st'[q]? = some (.box cs)
  row:∀ q y,q ≠ wb→q ≠ pm→st[q]? = some y→st'[q]? = some y
theorem Stay.refl (base wb pm:Nat) (st:HSt):Stay base wb pm st st:=⟨Nat.le_refl _,fun _ _ _=>rfl,fun _ _ _ h=>h,fun _ _ _ _ h=>h⟩
theorem Stay.trans {base wb pm:Nat} {a b c:HSt} (h:Stay base wb pm a b) (h':Stay base wb pm b c):Stay base wb pm a c :=
  ⟨Nat.le_trans h.len h'.len,fun i h1 h2=>(h'.low i h1 h2).trans (h.low i h1 h2),fun q cs h1 e=>h'.box q cs h1 (h.box q cs h1 e),fun q y h1 h2 e=>h'.row q y h1 h2 (h.row q y h1 h2 e)⟩
theorem Stay.app {base wb pm:Nat} {st:HSt} (h:base ≤ st.length) (g:HSt):Stay base wb pm st (st ++ g) :=
  ⟨by simp,fun i hi _=>get_lt (by omega),fun q cs _ e=>by rw [get_lt (List.getElem?_eq_some_iff.1 e).1];exact e,fun q y _ _ e=>by rw [get_lt (List.getElem?_eq_some_iff.1 e).1];exact e⟩
variable {base pm sp wb:Nat} {ah:HV} {ars:List Area} {L:List r26_Object} {tlo thi t0 hi:Int}
theorem MS.app {st:HSt} {ws done:List Int} {NL:List r26_Object} (H:MS base pm sp wb ah ars L tlo thi t0 hi st ws done NL) (g:HSt):MS base pm sp wb ah ars L tlo thi t0 hi (st ++ g) ws done NL :=
  ⟨H.S.app g,H.A.app g,by rw [get_lt (List.getElem?_eq_some_iff.1 H.bm).1];exact H.bm,H.I,by have:=H.ge;simp;omega,H.lo,H.wl⟩
theorem MS.move (B:KB K) (hz:inAny ars 0=false) (hap:(L.map keyOf).Pairwise Apart) (hhi:hi < 1000000000) (has:ars.length < 1000) {st:HSt} {ws done:List Int} {NL:List r26_Object} (H:MS base pm sp wb ah ars L tlo thi t0 hi st ws done NL) {p:Int} (hp:AddrOk L p) (hroom:endT L t0 (mt ars done p) ≤ hi) :
    ∃ st' ws' n0,(∀ n,n0 ≤ n→evHF C0 K TH n 70 [.ptr pm 0,hI p] st=some (hI (mv L t0 (mt ars done p) p),st'))∧MS base pm sp wb ah ars L tlo thi t0 hi st' ws' (mt ars done p) (NL ++ (cps L t0 (mt ars done p)).drop done.length)∧ws'.length=ws.length∧Stay base wb pm st st':=by
  obtain ⟨S,A,bm,I,ge,⟨lo1,lo2,lo3,lo4⟩,wl⟩:=id H
  have hlen:(cps L t0 done).drop done.length=[]:=by rw [← cps_len (L:=L) done t0,List.drop_length]
  cases hin:inAny ars p with
  | false =>
    have hm:mt ars done p=done:=by unfold mt;rw [hin];rfl
    rw [hm,hlen,List.append_nil]
    obtain ⟨g,n0,e⟩:=mv70a B S wl A has bm p hin
    have hnd:p ∉ done:=fun h=>by have:=(I.dn.mem p h).1;rw [hin] at this;cases this
    have hmv:mv L t0 done p=p:=mvd_not hnd
    rw [hmv]
    exact ⟨st ++ g,ws,n0,e,H.app g,rfl,Stay.app ge g⟩
  | true =>
    rcases hp with rfl | ⟨o,ho,hat⟩
    · rw [hz] at hin;cases hin
    · subst hat
      have hk:=I.out _ (List.mem_append_right _ (mem_from ho hin))
      simp only [keyOf] at hk
      obtain ⟨a,ha⟩:∃ a:Nat,o.At=a:=⟨o.At.toNat,by omega⟩
      by_cases hmem:o.At ∈ done
      · have hm:mt ars done o.At=done:=by unfold mt;rw [hin];simp [hmem]
        rw [hm,hlen,List.append_nil]
        have hfw:=I.fw _ hmem
        have hpos:=mvd_pos (L:=L) I.t0 hmem
        have hbd:mvd done (tos L t0 done) o.At < 1000000000:=by
          have:=mvd_lt (L:=L) (d:=done) (t:=t0) hmem
          rw [hm] at hroom
          omega
        rw [ha,Int.toNat_natCast] at hfw
        rw [ha] at hin hpos hbd ⊢
        obtain ⟨g,n0,e⟩:=mv70b B S wl A has bm a hin ⟨hpos,hbd⟩ hfw
        exact ⟨st ++ g,ws,n0,e,H.app g,rfl,Stay.app ge g⟩
      · have hm:mt ars done o.At=done ++ [o.At]:=by unfold mt;rw [hin];simp [hmem]
        rw [hm] at hroom ⊢
        have hoa:=objAt_of hap ho
        have hsl:=slN_of hoa
        have hend:endT L t0 (done ++ [o.At])=endT L t0 done + 1 + o.Slots.length:=by rw [endT_app];simp only [endT];rw [hsl]
        rw [hend] at hroom
        have hok:=I.un o ho hin hmem
        have ht0:=endT_le (L:=L) done t0
        have h00:=I.t0
        have hw:=I.hw
        obtain ⟨t,ht⟩:∃ t:Nat,endT L t0 done=t:=⟨(endT L t0 done).toNat,by omega⟩
        have hhd:=hok.hd
        have hl2:=hok.len
        have hext:a + 1 + o.Slots.length ≤ ws.length:=by
          have h1:=(List.getElem?_eq_some_iff.1 hhd).1
          rcases Nat.eq_zero_or_pos o.Slots.length with h0 | h0
          · omega
          · have:=hok.sl (o.Slots.length - 1) o.Slots[o.Slots.length - 1] (by simp [h0])
            have:=(List.getElem?_eq_some_iff.1 this).1
            omega
        rw [ha,Int.toNat_natCast] at hhd
        have hlw:=S.lt
        have hpmw:pm ≠ wb:=by omega
        have bm':=bm
        rw [ht] at bm'
        obtain ⟨G,R1,n0,e⟩:=mv70c B S ⟨by omega,by omega,by omega,by omega,by omega⟩ wl A has bm' a (by rw [← ha];exact hin) hok.sh hhd (s:=o.Slots.length) hl2.symm (by omega) hext (by omega) (by omega)
        have hbl:=blit_of (ws:=ws) (a:=a) (t:=t) (n:=1 + o.Slots.length) (by omega) (by omega) (by omega)
        have hJ:=I.copy (ws':=(setI ws t ((ws.drop a).take (1 + o.Slots.length))).set a (-(t:Int))) hap ho hin hmem (by omega) (by rw [ha,ht,Int.toNat_natCast,Int.toNat_natCast];exact hbl)
        have hcp:(cps L t0 (done ++ [o.At])).drop done.length=[cpy L (endT L t0 done) o.At]:=by
          rw [cps_app,List.drop_append_of_le_length (by rw [cps_len];exact Nat.le_refl _),hlen];rfl
        rw [hcp]
        have hmv:mv L t0 (done ++ [o.At]) o.At=t:=by rw [mv_new hmem,ht]
        have lm:=(List.getElem?_eq_some_iff.1 bm).1
        have st_len:(((st.set wb R1).set pm (.box [.ptr sp 0,ah,hI tlo,hI thi,hI (t + (1 + (o.Slots.length:Int)))])).set wb (.row 1 ws.length (((setI ws t ((ws.drop a).take (1 + o.Slots.length))).set a (-(t:Int))).map fun n=>.p (.int .i64 n)))).length=st.length:=by simp
        have low:∀ i y,i ≠ wb→i ≠ pm→st[i]? = some y→(((st.set wb R1).set pm (.box [.ptr sp 0,ah,hI tlo,hI thi,hI (t + (1 + (o.Slots.length:Int)))])).set wb (.row 1 ws.length (((setI ws t ((ws.drop a).take (1 + o.Slots.length))).set a (-(t:Int))).map fun n=>.p (.int .i64 n))) ++ G)[i]? = some y:=fun i y h1 h2 e=>by
          rw [get_lt (by rw [st_len];exact (List.getElem?_eq_some_iff.1 e).1),get_set_ne (fun e=>h1 e.symm),get_set_ne (fun e=>h2 e.symm),get_set_ne (fun e=>h1 e.symm)];exact e
        have stay:Stay base wb pm st (((st.set wb R1).set pm (.box [.ptr sp 0,ah,hI tlo,hI thi,hI (t + (1 + (o.Slots.length:Int)))])).set wb (.row 1 ws.length (((setI ws t ((ws.drop a).take (1 + o.Slots.length))).set a (-(t:Int))).map fun n=>.p (.int .i64 n))) ++ G):=by
          refine ⟨by simp,fun i hi hn=>?_,fun q cs h1 e=>low q _ (fun h=>?_) h1 e,fun q y h1 h2 e=>low q y h1 h2 e⟩
          · have hil:i < st.length:=by omega
            rw [low i st[i] hn (by omega) (by simp [hil])];simp [hil]
          · rw [h,S.w] at e;simp at e
        refine ⟨_,_,n0,by rw [hmv,ha];exact e,⟨⟨stay.box _ _ (by omega) S.s |>.trans (by rw [hbl.len]),?_⟩,?_,?_,hJ,Nat.le_trans ge stay.len,⟨lo1,lo2,lo3,lo4⟩,by rw [hbl.len];exact wl⟩,hbl.len,stay⟩
        · rw [get_lt (by rw [st_len];exact hlw.2.1),get_set_self (by simpa using hlw.2.1),hbl.len]
        · rcases A with h | ⟨b,h1,h2⟩
          · exact .inl h
          · refine .inr ⟨b,h1,low b _ (fun e=>?_) (fun e=>?_) h2⟩
            · rw [e,S.w] at h2;simp at h2
            · rw [e,bm] at h2;simp at h2
        · rw [get_lt (by rw [st_len];exact lm),get_set_ne (by omega),get_set_self (by simpa using lm),hend,ht]
          simp;omega
end Go.Ab
namespace Go.Ab
open Go
set_option linter.unusedVariables false
set_option linter.unusedSimpArgs false
set_option maxRecDepth 10000
set_option maxHeartbeats 4000000
variable {K:HCalls} {base pm sp wb:Nat} {ah:HV} {ars:List Area} {L:List r26_Object} {tlo thi t0 hi:Int}
structure Mk (ars:List Area) (L:List r26_Object) (t0 hi:Int) (F:List Int):Prop where
  z:inAny ars 0=false
  ap:(L.map keyOf).Pairwise Apart
  hb:hi < 1000000000
  al:ars.length < 1000
  FO:OutOk L ars F
  room:endT L t0 F ≤ hi
  len:L.length < 70000
theorem settled {F d r:List Int} {v:Int} (hF:F=mt ars d v ++ r) (hO:OutOk L ars F):mv L t0 F v=mv L t0 (mt ars d v) v:=by
  by_cases h:v ∈ mt ars d v
  · rw [hF];exact mv_pre h
  · have hin:inAny ars v=false:=by
      cases e:inAny ars v with
      | false=>rfl
      | true =>
        exfalso;apply h
        unfold mt
        by_cases hc:v ∈ d
        · simp [e,hc]
        · simp [e,hc]
    have hF2:v ∉ F:=fun hh=>by have:=(hO.mem v hh).1;rw [hin] at this;cases this
    show mvd _ _ _=mvd _ _ _
    rw [mvd_not hF2,mvd_not h]
theorem turn72 (B:KB K) {f:Nat} (hf:f=72 ∨ f=73) {F:List Int} (M:Mk ars L t0 hi F) {p12:Nat} (h12:p12 ≠ wb∧p12 ≠ pm) {st:HSt} {ws done:List Int} {NL:List r26_Object} (H:MS base pm sp wb ah ars L tlo thi t0 hi st ws done NL) (b12:st[p12]? = some (.box [.ptr pm 0])) {q i:Nat} {o:r26_Object} (ho:NL[q]? = some o) {v:Int} (hv:o.Slots[i]? = some v) (hp:AddrOk L v) (hroom:endT L t0 (mt ars done v) ≤ hi) :
    ∃ st' ws' n0,(∀ n,n0 ≤ n→evHF C0 K TH n f [.ptr wb (o.At.toNat + 1 + i),.ptr p12 0] st=some (.p (.tup []),st'))∧MS base pm sp wb ah ars L tlo thi t0 hi st' ws' (mt ars done v) ((NL ++ (cps L t0 (mt ars done v)).drop done.length).set q ⟨o.At,o.Shape,o.Slots.set i (mv L t0 (mt ars done v) v)⟩)∧ws'.length=ws.length∧Stay base wb pm st st':=by
  have hom:=List.mem_of_getElem? ho
  have hok:=H.I.ok o hom
  have hw:=hok.sl i v hv
  have hil:i < o.Slots.length:=(List.getElem?_eq_some_iff.1 hv).1
  obtain ⟨st1,ws1,n0,e1,H1,hl1,S1⟩:=H.move B M.z M.ap M.hb M.al hp hroom
  obtain ⟨j,hj⟩:∃ j,o.At.toNat + 1 + i=j:=⟨_,rfl⟩
  have hql:q < NL.length:=(List.getElem?_eq_some_iff.1 ho).1
  have hH2:=H1.I.turn (q:=q) (o:=o) (by rw [List.getElem?_append_left hql];exact ho) hil (mv L t0 (mt ars done v) v)
  rw [hj] at hw hH2 ⊢
  have hjl:j < ws.length:=(List.getElem?_eq_some_iff.1 hw).1
  have j1:j + 1 ≤ ws.length:=by omega
  have s2:=H.S.w
  have s3:=H1.S.w
  have hlw:=H.S.lt
  have hlw1:=H1.S.lt
  have j2:j + 1 ≤ ws1.length:=by omega
  have e1':evHF C0 K TH (n0 + 59) 70 [.ptr pm 0,.p (.int .i64 v)] st=some (hI (mv L t0 (mt ars done v) v),st1):=e1 _ (by omega)
  obtain ⟨u,hu⟩:∃ u,mv L t0 (mt ars done v) v=u:=⟨_,rfl⟩
  rw [hu] at e1' hH2 ⊢
  have e3:ws[j]=v:=(List.getElem?_eq_some_iff.1 hw).2
  refine ⟨st1.set wb (.row 1 ws1.length ((ws1.set j u).map fun n=>.p (.int .i64 n))),ws1.set j u,n0 + 60,fun n hn=>evHF_mono hn _ _ _ _ ?_,?_,by rw [List.length_set,hl1],?_⟩
  · rcases hf with rfl | rfl
    · refine evHF_in (n:=n0 + 59) (B.no 72 rfl) (x:=h72) rfl rfl ?_
      simp (config:={ maxSteps:=4000000 }) [↓hs_pre,↓evP_call0',hs_eq,h72,b12,s2,s3,hw,e3,hjl,j1,j2,e1',List.map_set]
    · refine evHF_in (n:=n0 + 59) (B.no 73 rfl) (x:=h73) rfl rfl ?_
      simp (config:={ maxSteps:=4000000 }) [↓hs_pre,↓evP_call0',hs_eq,h73,b12,s2,s3,hw,e3,hjl,j1,j2,e1',List.map_set]
  · have hpw:pm ≠ wb:=by have:=H1.lo;omega
    have:=H1.S.set (ws1.set j u) (by simp)
    rw [show wRow (ws1.set j u)=HB.row 1 ws1.length ((ws1.set j u).map fun n=>.p (.int .i64 n)) by simp [wRow]] at this
    refine ⟨this,?_,by rw [get_set_ne (fun e=>hpw e.symm)];exact H1.bm,hH2,by simpa using H1.ge,H1.lo,by simpa using H1.wl⟩
    rcases H1.A with h | ⟨b,h1,h2⟩
    · exact .inl h
    · refine .inr ⟨b,h1,?_⟩
      rw [get_set_ne (fun e=>by rw [← e,s3] at h2;simp at h2)];exact h2
  · refine S1.trans ⟨by simp,fun i _ hn=>get_set_ne (fun e=>hn e.symm),fun q cs _ e=>?_,fun q y h1 _ e=>by rw [get_set_ne (fun e=>h1 e.symm)];exact e⟩
    rw [get_set_ne (fun e2=>by rw [← e2,s3] at e;simp at e)];exact e
theorem MS.ptrs (B:KB K) {f:Nat} (hf:f=72 ∨ f=73) {F:List Int} (M:Mk ars L t0 hi F) {p12:Nat} (h12:p12 ≠ wb∧p12 ≠ pm∧base ≤ p12) {st:HSt} {ws done:List Int} {front mid:List r26_Object} {at':Int} {sh:Shape} {os:List Int} {m:Nat} (hm:m ≤ done.length)
    (H:MS base pm sp wb ah ars L tlo thi t0 hi st ws done (front ++ ⟨at',sh,os⟩ :: (mid ++ (cps L t0 done).drop m))) (b12:st[p12]? = some (.box [.ptr pm 0])) (hpo:∀ (i:Nat) (v:Int),os[i]? = some v→ptB sh i=true→AddrOk L v) (hF:∃ r,F=mtL ars done (ptrsL sh 0 os) ++ r) :
    ∃ st' ws' n0,(∀ n,n0 ≤ n→evHF C0 K TH n 71 [.ptr sp 0,hI at',.fn f [.ptr p12 0]] st=some (.p (.tup []),st'))∧MS base pm sp wb ah ars L tlo thi t0 hi st' ws' (mtL ars done (ptrsL sh 0 os)) (front ++ ⟨at',sh,trn L t0 F sh 0 os.length os⟩ :: (mid ++ (cps L t0 (mtL ars done (ptrsL sh 0 os))).drop m))∧ws'.length=ws.length∧Stay base wb pm st st':=by
  have hom:(⟨at',sh,os⟩:r26_Object) ∈ front ++ ⟨at',sh,os⟩ :: (mid ++ (cps L t0 done).drop m):=by simp
  have o1:=H.I.ok _ hom
  have h0:=(H.I.out _ (List.mem_append_left _ (List.mem_map.2 ⟨_,hom,rfl⟩))).1
  simp only [keyOf] at h0
  obtain ⟨a,rfl⟩:∃ a:Nat,at' = a:=⟨at'.toNat,by omega⟩
  have hhd:=o1.hd
  have hsl:=o1.sl
  have hlen:=o1.len
  have hwl:=H.wl
  simp only [Int.toNat_natCast] at hhd hsl hlen
  have hn:sh.Slots.toNat=os.length:=by omega
  have hext:a + 1 + sh.Slots.toNat ≤ ws.length:=by
    rw [hn]
    have h1:=(List.getElem?_eq_some_iff.1 hhd).1
    rcases Nat.eq_zero_or_pos os.length with h0 | h0
    · omega
    · have:=hsl (os.length - 1) os[os.length - 1] (by simp [h0])
      have:=(List.getElem?_eq_some_iff.1 this).1
      omega
  let D:=mtL ars done (ptrsL sh 0 os)
  let I:Nat→HSt→Prop:=fun i s1=>∃ ws1 d,MS base pm sp wb ah ars L tlo thi t0 hi s1 ws1 d (front ++ ⟨(a:Int),sh,trn L t0 F sh 0 i os⟩ :: (mid ++ (cps L t0 d).drop m))∧ws1.length=ws.length∧Stay base wb pm st s1∧m ≤ d.length∧mtL ars d (ptrsL sh i (os.drop i))=D
  have hwlen:∀ i s1,I i s1→s1[sp]? = some (.box [.row wb 0 ws.length 1]):=fun i s1 ⟨ws1,d,h1,h2,_⟩=>by rw [← h2];exact h1.S.s
  obtain ⟨st',n0,h1,ws',d,h2,h3,h4,h5,h6⟩:=e71 B H.S (by omega) (a:=a) (by omega) o1.sh hhd hext f [.ptr p12 0] I
    (fun g ⟨ws1,d,h1,h2,h3,h4,h5⟩=>⟨ws1,d,h1.app g,h2,h3.trans (Stay.app h1.ge g),h4,h5⟩)
    hwlen
    ⟨ws,done,by rw [trn_zero];exact H,rfl,Stay.refl _ _ _ _,hm,rfl⟩
    (fun i s1 ⟨ws1,d,h1,h2,h3,h4,h5⟩ hi'=>by
      have hil:i < os.length:=by have h9:i < sh.Slots.toNat:=hi';omega
      have hv:os[i]? = some os[i]:=by simp [hil]
      rw [List.drop_eq_getElem_cons hil] at h5
      simp only [ptrsL] at h5
      refine ⟨fun hb=>⟨ws1,d,?_,h2,h3,h4,by rw [hb] at h5;simpa using h5⟩,fun hb=>?_⟩
      · rw [trn_succ hv,hb];exact h1
      · rw [if_pos hb,mtL_cons] at h5
        obtain ⟨r0,hF0⟩:=hF
        obtain ⟨r1,hr1⟩:=mtL_pre ars (ptrsL sh (i + 1) (os.drop (i + 1))) (mt ars d os[i])
        have hFd:F=mt ars d os[i] ++ (r1 ++ r0):=by rw [hF0];show D ++ r0=_;rw [← h5,hr1,List.append_assoc]
        have hroom:endT L t0 (mt ars d os[i]) ≤ hi:=by
          have:=M.room
          have h7:endT L t0 (mt ars d os[i]) ≤ endT L t0 F:=by rw [hFd];exact endT_pre _ _
          exact Int.le_trans h7 M.room
        have hq:(front ++ (⟨(a:Int),sh,trn L t0 F sh 0 i os⟩:r26_Object) :: (mid ++ (cps L t0 d).drop m))[front.length]? = some ⟨(a:Int),sh,trn L t0 F sh 0 i os⟩:=by
          rw [List.getElem?_append_right (Nat.le_refl _),Nat.sub_self];rfl
        have hvt:(trn L t0 F sh 0 i os)[i]? = some os[i]:=by rw [trn_get,hv];simp
        have b12':=h3.box _ _ h12.2.1 b12
        obtain ⟨st',ws',n0,h7,h8,h9,h10⟩:=turn72 B hf M ⟨h12.1,h12.2.1⟩ h1 b12' hq hvt (hpo i _ hv hb) hroom
        simp only [Int.toNat_natCast] at h7 h8
        refine ⟨st',n0,h7,⟨ws',mt ars d os[i],?_,by omega,h3.trans h10,?_,h5⟩,fun q cs hq2 e=>h10.box q cs (fun e2=>?_) e⟩
        · have e1:mv L t0 (mt ars d os[i]) os[i]=mv L t0 F os[i]:=(settled hFd M.FO).symm
          rw [e1] at h8
          rw [trn_succ hv,if_pos hb]
          obtain ⟨r2,hr2⟩:=mt_pre ars d os[i]
          have e2:(cps L t0 (mt ars d os[i])).drop m=(cps L t0 d).drop m ++ (cps L t0 (mt ars d os[i])).drop d.length:=by rw [hr2];exact cps_drop h4
          rw [e2]
          have e3:(front ++ (⟨(a:Int),sh,trn L t0 F sh 0 i os⟩:r26_Object) :: (mid ++ (cps L t0 d).drop m) ++ (cps L t0 (mt ars d os[i])).drop d.length).set front.length ⟨(a:Int),sh,(trn L t0 F sh 0 i os).set i (mv L t0 F os[i])⟩=front ++ ⟨(a:Int),sh,(trn L t0 F sh 0 i os).set i (mv L t0 F os[i])⟩ :: (mid ++ ((cps L t0 d).drop m ++ (cps L t0 (mt ars d os[i])).drop d.length)):=by
            rw [List.append_assoc,List.set_append_right _ _ (Nat.le_refl _),Nat.sub_self]
            simp
          rw [← e3];exact h8
        · obtain ⟨r2,hr2⟩:=mt_pre ars d os[i]
          rw [hr2,List.length_append];omega
        · have:=(List.getElem?_eq_some_iff.1 H.bm).1;omega)
  rw [hn,List.drop_length] at h6
  simp only [ptrsL,mtL,List.foldl_nil] at h6
  subst h6
  rw [hn] at h2
  exact ⟨st',ws',n0,h1,h2,h3,h4⟩
end Go.Ab
namespace Go.Ab
open Go
set_option linter.unusedVariables false
set_option linter.unusedSimpArgs false
set_option maxRecDepth 10000
set_option maxHeartbeats 4000000
variable {K:HCalls} {base pm sp wb:Nat} {ah:HV} {ars:List Area} {L:List r26_Object} {tlo thi t0 hi:Int}
def OutR (base pm:Nat) (st:HSt) (oh:HV) (vals:List Int):Prop:=(vals=[]∧oh = .p .nils) ∨ ∃ ob,vals ≠ []∧base ≤ ob∧ob ≠ pm∧oh = .row ob 0 vals.length 1∧st[ob]? = some (.row 1 vals.length (vals.map fun n=>.p (.int .i64 n)))
theorem OutR.stay {st st':HSt} {oh:HV} {vals:List Int} (H:OutR base pm st oh vals) (hw:wb < base) (S:Stay base wb pm st st'):OutR base pm st' oh vals:=by
  rcases H with h | ⟨ob,h1,h2,h3,h4,h5⟩
  · exact .inl h
  · exact .inr ⟨ob,h1,h2,h3,h4,S.row ob _ (by omega) h3 h5⟩
theorem MS.setr {st:HSt} {ws done:List Int} {NL:List r26_Object} (H:MS base pm sp wb ah ars L tlo thi t0 hi st ws done NL) {ob:Nat} (h1:base ≤ ob) (h2:ob ≠ pm) (x:HB):MS base pm sp wb ah ars L tlo thi t0 hi (st.set ob x) ws done NL:=by
  obtain ⟨l1,l2,l3,l4⟩:=H.lo
  refine ⟨⟨by rw [get_set_ne (by omega)];exact H.S.s,by rw [get_set_ne (by omega)];exact H.S.w⟩,?_,by rw [get_set_ne h2];exact H.bm,H.I,by simpa using H.ge,H.lo,H.wl⟩
  rcases H.A with h | ⟨b,h3,h4⟩
  · exact .inl h
  · exact .inr ⟨b,h3,by rw [get_set_ne (by have:=l4 b h3;omega)];exact h4⟩
def env18a (sp p7 p12:Nat) (al oh v10:HV) (rs:List Int) (i:Nat):HEnv:=[(0,.ptr sp 0),(4,al),(7,.ptr p7 0),(10,v10),(12,.ptr p12 0),(13,oh),(29,hN rs),(30,hI rs.length),(31,hI i)]
def env18b (sp p7 p12:Nat) (al oh v10:HV) (n i:Nat):HEnv:=[(0,.ptr sp 0),(7,.ptr p7 0),(10,v10),(12,.ptr p12 0),(13,oh),(43,al),(44,hI n),(45,hI i)]
def env18c (sp p12:Nat) (oh v10:HV) (a:Int):HEnv:=[(0,.ptr sp 0),(10,v10),(12,.ptr p12 0),(13,oh),(18,hI a)]
theorem step18a {st st1:HSt} {p7 p12:Nat} {al v10:HV} {rs:List Int} {i:Nat} {v u:Int} (hv:rs[i]? = some v) (hrs:rs.length < 100000) (b12:st[p12]? = some (.box [.ptr pm 0])) {ob:Nat} {vals:List Int} (hvl:vals.length=rs.length) (hob:st1[ob]? = some (.row 1 vals.length (vals.map fun n=>.p (.int .i64 n)))) {n0:Nat} (e70:∀ n,n0 ≤ n→evHF C0 K TH n 70 [.ptr pm 0,hI v] st=some (hI u,st1)) :
    Run C0 K TH h18l0 (env18a sp p7 p12 al (.row ob 0 vals.length 1) v10 rs i,st) .norm (env18a sp p7 p12 al (.row ob 0 vals.length 1) v10 rs (i + 1),st1.set ob (.row 1 (vals.set i u).length ((vals.set i u).map fun n=>.p (.int .i64 n)))):=by
  have hil:i < rs.length:=(List.getElem?_eq_some_iff.1 hv).1
  have hil':(i:Int) < rs.length:=by omega
  have c2:=ints_at hv
  have w:=wrN (i:=i) (by omega)
  have e70':evHF C0 K TH (n0 + 60) 70 [.ptr pm 0,.p (.int .i64 v)] st=some (hI u,st1):=e70 _ (by omega)
  obtain ⟨m,hm⟩:∃ m,vals.length=m:=⟨_,rfl⟩
  have i1:i + 1 ≤ m:=by omega
  have i2:i < m:=by omega
  have i3:(i:Int) < m:=by omega
  rw [hm] at hob hvl ⊢
  refine Run.of (n0 + 60) ?_
  simp (config:={ maxSteps:=4000000 }) [↓hs_pre,↓evP_call0',hs_eq,h18l0,env18a,hil,hil',c2,w,b12,e70',hob,i1,i2,i3,hm,List.map_set,List.length_set]
theorem stop18a {st:HSt} {p7 p12:Nat} {al v10 oh:HV} {rs:List Int}:Run C0 K TH h18l0 (env18a sp p7 p12 al oh v10 rs rs.length,st) (.exit 0) ([(0,.ptr sp 0),(4,al),(7,.ptr p7 0),(10,v10),(12,.ptr p12 0),(13,oh)],st):=by
  refine Run.of 60 ?_
  simp (config:={ maxSteps:=4000000 }) [↓hs_pre,↓evP_call0',hs_eq,h18l0,env18a]
def nf (L:List r26_Object) (ars:List Area):List r26_Object:=L.filter fun o=>!inAny ars o.At
theorem loop18a (B:KB K) {F:List Int} (M:Mk ars L t0 hi F) {p7 p12:Nat} (h12:p12 ≠ wb∧p12 ≠ pm∧base ≤ p12) {al v10:HV} {rs:List Int} (hrs:rs.length < 100000) (hro:∀ p ∈ rs,AddrOk L p):∀ (m i:Nat) (st:HSt) (ws done:List Int) (oh:HV) (vals:List Int),rs.length - i=m→i ≤ rs.length→MS base pm sp wb ah ars L tlo thi t0 hi st ws done (nf L ars ++ cps L t0 done)→st[p12]? = some (.box [.ptr pm 0])→OutR base pm st oh vals→vals.length=rs.length→(∀ j v,j < i→rs[j]? = some v→vals[j]? = some (mv L t0 F v))→(∃ r,F=mtL ars done (rs.drop i) ++ r) →
    ∃ st' ws' vals',Run C0 K TH (.loop h18l0 [0,4,7,10,12,13,29,30,31]) (env18a sp p7 p12 al oh v10 rs i,st) (.exit 0) ([(0,.ptr sp 0),(4,al),(7,.ptr p7 0),(10,v10),(12,.ptr p12 0),(13,oh)],st')∧MS base pm sp wb ah ars L tlo thi t0 hi st' ws' (mtL ars done (rs.drop i)) (nf L ars ++ cps L t0 (mtL ars done (rs.drop i)))∧ws'.length=ws.length∧st'[p12]? = some (.box [.ptr pm 0])∧OutR base pm st' oh vals' ∧ vals' = rs.map (mv L t0 F)∧(∀ q,q < base→q ≠ wb→st'[q]? = st[q]?)∧(∀ q cs,q ≠ pm→st[q]? = some (.box cs)→st'[q]? = some (.box cs))∧st.length ≤ st'.length
  | 0,i,st,ws,done,oh,vals,hm,hq,H,b12,hO,hvl,hvv,hF=>by
    have:i=rs.length:=by omega
    subst this
    rw [List.drop_length]
    refine ⟨st,ws,vals,Run.loopX stop18a (by simp),H,rfl,b12,hO,?_,fun _ _ _=>rfl,fun _ _ _ h=>h,Nat.le_refl _⟩
    apply List.ext_getElem?
    intro j
    by_cases hj:j < rs.length
    · rw [hvv j rs[j] hj (by simp [hj]),List.getElem?_map];simp [hj]
    · rw [List.getElem?_eq_none (by omega),List.getElem?_eq_none (by simp;omega)]
  | m + 1, i,st,ws,done,oh,vals,hm,hq,H,b12,hO,hvl,hvv,hF=>by
    have hil:i < rs.length:=by omega
    have hv:rs[i]? = some rs[i]:=by simp [hil]
    obtain ⟨r0,hF0⟩:=hF
    rw [List.drop_eq_getElem_cons hil,mtL_cons] at hF0
    obtain ⟨r1,hr1⟩:=mtL_pre ars (rs.drop (i + 1)) (mt ars done rs[i])
    have hFd:F=mt ars done rs[i] ++ (r1 ++ r0):=by rw [hF0,hr1,List.append_assoc]
    have hroom:endT L t0 (mt ars done rs[i]) ≤ hi:=by
      have h7:endT L t0 (mt ars done rs[i]) ≤ endT L t0 F:=by rw [hFd];exact endT_pre _ _
      exact Int.le_trans h7 M.room
    obtain ⟨st1,ws1,n0,e1,H1,hl1,S1⟩:=H.move B M.z M.ap M.hb M.al (hro rs[i] (List.getElem_mem hil)) hroom
    have hcd:nf L ars ++ cps L t0 done ++ (cps L t0 (mt ars done rs[i])).drop done.length=nf L ars ++ cps L t0 (mt ars done rs[i]):=by
      obtain ⟨r2,hr2⟩:=mt_pre ars done rs[i]
      have:=cps_drop (L:=L) (t:=t0) (d:=done) (r:=r2) (m:=0) (by omega)
      rw [List.drop_zero,List.drop_zero,← hr2] at this
      rw [List.append_assoc,← this]
    rw [hcd] at H1
    rcases hO with ⟨h1,h2⟩ | ⟨ob,h1,h2,h3,rfl,h5⟩
    · exfalso;rw [h1] at hvl;simp at hvl;omega
    · have hlo:=H.lo
      have h5':=S1.row ob _ (by omega) h3 h5
      have r1':=step18a (K:=K) (sp:=sp) (p7:=p7) (p12:=p12) (al:=al) (v10:=v10) hv hrs b12 hvl h5' e1
      have hset:=H1.setr h2 h3 (.row 1 (vals.set i (mv L t0 (mt ars done rs[i]) rs[i])).length ((vals.set i (mv L t0 (mt ars done rs[i]) rs[i])).map fun n=>.p (.int .i64 n)))
      have b12':=S1.box _ _ h12.2.1 b12
      have hobl:ob < st1.length:=(List.getElem?_eq_some_iff.1 h5').1
      have hne12:ob ≠ p12:=fun e=>by rw [e,b12'] at h5';simp at h5'
      have hvne:vals.set i (mv L t0 (mt ars done rs[i]) rs[i]) ≠ []:=fun e=>by
        have:=congrArg List.length e
        rw [List.length_set] at this;simp at this;exact h1 this
      have hsl:(vals.set i (mv L t0 (mt ars done rs[i]) rs[i])).length=vals.length:=List.length_set ..
      obtain ⟨st2,ws2,vals2,r2,H2,hl2,hb2,hO2,hv2,k1,k2,k3⟩:=loop18a B M h12 (p7:=p7) (al:=al) (v10:=v10) hrs hro m (i + 1) _ ws1 _ (.row ob 0 vals.length 1) (vals.set i (mv L t0 (mt ars done rs[i]) rs[i])) (by omega) (by omega) hset (by rw [get_set_ne hne12];exact b12') (.inr ⟨ob,hvne,h2,h3,by rw [hsl],get_set_self hobl⟩) (by rw [hsl];exact hvl) (fun j v hj hjv=>by
        by_cases e:i=j
        · subst e
          rw [hv] at hjv;cases hjv
          rw [List.getElem?_set_self (by omega)]
          rw [settled hFd M.FO]
        · rw [List.getElem?_set_ne e];exact hvv j v (by omega) hjv) ⟨r0,hF0⟩
      rw [List.drop_eq_getElem_cons hil,mtL_cons]
      refine ⟨st2,ws2,vals2,Run.loopN r1' ?_,H2,by omega,hb2,hO2,hv2,fun q h6 h7=>by rw [k1 q h6 h7,get_set_ne (by omega)];exact S1.low q h6 h7,fun q cs h6 h7=>k2 q cs h6 ?_,by rw [List.length_set] at k3;exact Nat.le_trans S1.len k3⟩
      · exact r2
      · have h8:=S1.box q cs h6 h7
        rw [get_set_ne (fun e=>by rw [e,h8] at h5';simp at h5')];exact h8
end Go.Ab
namespace Go.Ab
open Go
set_option linter.unusedVariables false
set_option linter.unusedSimpArgs false
set_option maxRecDepth 10000
set_option maxHeartbeats 4000000
variable {K:HCalls} {base pm sp wb:Nat} {ah:HV} {ars:List Area} {L:List r26_Object} {tlo thi t0 hi:Int}
def trnO (L:List r26_Object) (t:Int) (F:List Int) (o:r26_Object):r26_Object:=⟨o.At,o.Shape,trn L t F o.Shape 0 o.Slots.length o.Slots⟩
def trnIf (L:List r26_Object) (t:Int) (F l:List Int) (o:r26_Object):r26_Object:=if o.At ∈ l then trnO L t F o else o
theorem step18b {st st':HSt} {p7 p12:Nat} {al oh v10:HV} {l:List Int} (hal:IntsAt st al l) {i:Nat} {v:Int} (hv:l[i]? = some v) (hrs:l.length < 100000) {n0:Nat} (h71':∀ n,n0 ≤ n→evHF C0 K TH n 71 [.ptr sp 0,hI v,.fn 72 [.ptr p12 0]] st=some (.p (.tup []),st')) :
    Run C0 K TH h18l1 (env18b sp p7 p12 al oh v10 l.length i,st) .norm (env18b sp p7 p12 al oh v10 l.length (i + 1),st'):=by
  have hil:i < l.length:=(List.getElem?_eq_some_iff.1 hv).1
  have hil':(i:Int) < l.length:=by omega
  have c2:=ints_at hv
  have w:=wrN (i:=i) (by omega)
  have hv':evHF C0 K TH (n0 + 60) 71 [.ptr sp 0,.p (.int .i64 v),.fn 72 [.ptr p12 0]] st=some (.p (.tup []),st'):=h71' _ (by omega)
  rcases hal with ⟨_,rfl⟩ | rfl | ⟨b,rfl,hb⟩
  · simp at hil
  · refine Run.of (n0 + 60) ?_
    simp (config:={ maxSteps:=4000000 }) [↓hs_pre,↓evP_call0',hs_eq,h18l1,env18b,hil,hil',c2,w,hv']
  · have i1:i + 1 ≤ l.length:=by omega
    have c3:(l.map fun n=>HV.p (.int .i64 n))[i]? = some (hI v):=by simp [hv]
    refine Run.of (n0 + 60) ?_
    obtain ⟨cs,hcs⟩:∃ cs,(l.map fun n=>HV.p (.int .i64 n))=cs:=⟨_,rfl⟩
    have c4:cs.length=l.length:=by rw [← hcs];simp
    rw [hcs] at hb c3
    simp (config:={ maxSteps:=4000000 }) [↓hs_pre,↓evP_call0',hs_eq,-getElem?_pos,List.getElem?_cons_zero,List.getElem?_cons_succ,get_lt,set_lt,get_set_ne,get_set_self,get_off,get_off0,set_off,set_off0,len_set,h18l1,env18b,hil,hil',c3,c4,i1,w,hb,hv']
theorem stop18b {st:HSt} {p7 p12:Nat} {al v10 oh:HV} {n:Nat}:Run C0 K TH h18l1 (env18b sp p7 p12 al oh v10 n n,st) (.exit 2) ([(0,.ptr sp 0),(7,.ptr p7 0),(10,v10),(12,.ptr p12 0),(13,oh)],st):=by
  refine Run.of 60 ?_
  simp (config:={ maxSteps:=4000000 }) [↓hs_pre,↓evP_call0',hs_eq,h18l1,env18b]
theorem obj_eta (o:r26_Object):(⟨o.At,o.Shape,o.Slots⟩:r26_Object)=o:=by cases o;rfl
theorem loop18b (B:KB K) {F:List Int} (M:Mk ars L t0 hi F) (hptr:∀ o ∈ L,PtrOk L o) {p7 p12:Nat} (h12:p12 ≠ wb∧p12 ≠ pm∧base ≤ p12) {al oh v10:HV} {l:List Int} (hl:l.length < 100000) (hbl:∀ b,al = .row b 0 l.length 1→b ≠ wb∧b ≠ pm) (hnd:l.Nodup) (hob:∀ p ∈ l,∃ o ∈ L,o.At=p∧inAny ars p=false):∀ (m i:Nat) (st:HSt) (ws done:List Int),l.length - i=m→i ≤ l.length→IntsAt st al l→MS base pm sp wb ah ars L tlo thi t0 hi st ws done ((nf L ars).map (trnIf L t0 F (l.take i)) ++ cps L t0 done)→st[p12]? = some (.box [.ptr pm 0])→(∃ r,F=mtL ars done ((l.drop i).flatMap (ptrsAt L)) ++ r) →
    ∃ st' ws',Run C0 K TH (.loop h18l1 [0,7,10,12,13,43,44,45]) (env18b sp p7 p12 al oh v10 l.length i,st) (.exit 2) ([(0,.ptr sp 0),(7,.ptr p7 0),(10,v10),(12,.ptr p12 0),(13,oh)],st')∧MS base pm sp wb ah ars L tlo thi t0 hi st' ws' (mtL ars done ((l.drop i).flatMap (ptrsAt L))) ((nf L ars).map (trnIf L t0 F l) ++ cps L t0 (mtL ars done ((l.drop i).flatMap (ptrsAt L))))∧ws'.length=ws.length∧Stay base wb pm st st'
  | 0,i,st,ws,done,hm,hq,hA,H,b12,hF=>by
    have:i=l.length:=by omega
    subst this
    rw [List.take_length] at H
    rw [List.drop_length]
    exact ⟨st,ws,Run.loopX stop18b (by simp),H,rfl,Stay.refl _ _ _ _⟩
  | m + 1,i,st,ws,done,hm,hq,hA,H,b12,hF=>by
    have hil:i < l.length:=by omega
    have hv:l[i]? = some l[i]:=by simp [hil]
    obtain ⟨o,ho,hat,hno⟩:=hob l[i] (List.getElem_mem hil)
    have hoa:=objAt_of M.ap ho
    have hpa:ptrsAt L l[i]=Go.Ab.ptrs o:=by unfold ptrsAt;rw [← hat,hoa]
    obtain ⟨r0,hF0⟩:=hF
    rw [List.drop_eq_getElem_cons hil,List.flatMap_cons,mtL_app,hpa] at hF0
    obtain ⟨r1,hr1⟩:=mtL_pre ars ((l.drop (i + 1)).flatMap (ptrsAt L)) (mtL ars done (Go.Ab.ptrs o))
    have honf:o ∈ nf L ars:=List.mem_filter.2 ⟨ho,by rw [hat,hno];rfl⟩
    obtain ⟨f1,f2,hsplit⟩:=List.append_of_mem honf
    have hnt:o.At ∉ l.take i:=fun h=>by
      obtain ⟨j,hj⟩:=List.getElem?_of_mem h
      rw [List.getElem?_take] at hj
      split at hj
      · rename_i hji
        have hjl:j < l.length:=by omega
        rw [List.getElem?_eq_getElem hjl] at hj
        have:l[j]=l[i]:=by rw [← hat];simpa using hj
        exact List.pairwise_iff_getElem.1 hnd j i hjl hil hji this
      · cases hj
    have hapn:((nf L ars).map keyOf).Pairwise Apart:=M.ap.sublist ((List.filter_sublist).map _)
    have hoth:∀ o2,o2 ∈ f1 ∨ o2 ∈ f2→o2.At ≠ o.At:=fun o2 h e=>by
      rw [hsplit,List.map_append,List.map_cons] at hapn
      obtain ⟨_,a2,a3⟩:=List.pairwise_append.1 hapn
      rcases h with h | h
      · have:=a3 _ (List.mem_map.2 ⟨o2,h,rfl⟩) (keyOf o) (by simp)
        simp only [Apart,keyOf] at this;omega
      · have:=(List.pairwise_cons.1 a2).1 _ (List.mem_map.2 ⟨o2,h,rfl⟩)
        simp only [Apart,keyOf] at this;omega
    have htk:∀ o2,o2.At ≠ o.At→trnIf L t0 F (l.take (i + 1)) o2=trnIf L t0 F (l.take i) o2:=fun o2 h=>by
      unfold trnIf
      rw [List.take_add_one,hv]
      have:(o2.At ∈ l.take i ++ (some l[i]).toList) ↔ o2.At ∈ l.take i:=by
        simp only [List.mem_append,Option.toList_some,List.mem_singleton]
        exact ⟨fun h2=>h2.resolve_right fun e=>h (e.trans hat.symm),.inl⟩
      simp only [this]
    have e1:(nf L ars).map (trnIf L t0 F (l.take i)) ++ cps L t0 done=f1.map (trnIf L t0 F (l.take i)) ++ ⟨o.At,o.Shape,o.Slots⟩ :: (f2.map (trnIf L t0 F (l.take i)) ++ (cps L t0 done).drop 0):=by
      rw [hsplit,List.drop_zero,obj_eta]
      have:trnIf L t0 F (l.take i) o=o:=if_neg hnt
      simp [this]
    have e2:∀ d,f1.map (trnIf L t0 F (l.take i)) ++ ⟨o.At,o.Shape,trn L t0 F o.Shape 0 o.Slots.length o.Slots⟩ :: (f2.map (trnIf L t0 F (l.take i)) ++ (cps L t0 d).drop 0)=(nf L ars).map (trnIf L t0 F (l.take (i + 1))) ++ cps L t0 d:=fun d=>by
      rw [hsplit,List.drop_zero]
      have h1:trnIf L t0 F (l.take (i + 1)) o=⟨o.At,o.Shape,trn L t0 F o.Shape 0 o.Slots.length o.Slots⟩:=by
        unfold trnIf
        rw [if_pos (by rw [List.take_add_one,hv,hat];exact List.mem_append_right _ (by simp))];rfl
      have h2:f1.map (trnIf L t0 F (l.take (i + 1)))=f1.map (trnIf L t0 F (l.take i)):=List.map_congr_left fun o2 h=>htk o2 (hoth o2 (.inl h))
      have h3:f2.map (trnIf L t0 F (l.take (i + 1)))=f2.map (trnIf L t0 F (l.take i)):=List.map_congr_left fun o2 h=>htk o2 (hoth o2 (.inr h))
      rw [List.map_append,List.map_cons,h1,h2,h3]
      simp
    rw [e1] at H
    obtain ⟨st1,ws1,n0,h1,H1,hl1,S1⟩:=H.ptrs B (f:=72) (.inl rfl) M h12 (by omega) b12 (fun i v h h'=>hptr o ho i v h h') ⟨r1 ++ r0,by rw [hF0,hr1,List.append_assoc];rfl⟩
    rw [e2] at H1
    rw [hat] at h1
    have hA1:IntsAt st1 al l:=by
      rcases hA with h | h | ⟨b,h2,h3⟩
      · exact .inl h
      · exact .inr (.inl h)
      · have:=hbl b h2
        exact .inr (.inr ⟨b,h2,S1.row b _ this.1 this.2 h3⟩)
    obtain ⟨st2,ws2,r2,H2,hl2,S2⟩:=loop18b B M hptr h12 (p7:=p7) (al:=al) (oh:=oh) (v10:=v10) hl hbl hnd hob m (i + 1) st1 ws1 _ (by omega) (by omega) hA1 H1 (S1.box _ _ h12.2.1 b12) ⟨r0,hF0⟩
    rw [List.drop_eq_getElem_cons hil,List.flatMap_cons,mtL_app,hpa]
    exact ⟨st2,ws2,Run.loopN (step18b hA hv hl h1) r2,H2,by omega,S1.trans S2⟩
theorem bfs_pre (L:List r26_Object) (ars:List Area):∀ (k i:Nat) (out:List Int),∃ r,bfs L ars k i out=out ++ r
  | 0,i,out=>⟨[],by simp [bfs]⟩
  | k + 1,i,out=>by
    simp only [bfs]
    split
    · rename_i p hp
      obtain ⟨r1,h1⟩:=mtL_pre ars (ptrsAt L p) out
      obtain ⟨r2,h2⟩:=bfs_pre L ars k (i + 1) (mtL ars out (ptrsAt L p))
      exact ⟨r1 ++ r2,by rw [h2,h1,List.append_assoc]⟩
    · exact ⟨[],by simp⟩
theorem step18c (B:KB K) {st st':HSt} {p12:Nat} {oh v10:HV} {ws:List Int} (S:SpaceAt st sp wb ws) {a:Nat} (ha:0 < a) {x:Shape} (hx:OkSh x) (hhd:ws[a]? = some (hdB x)) (b12:st[p12]? = some (.box [.ptr pm 0])) {tlo thi e:Int} (bm:st[pm]? = some (.box [.ptr sp 0,ah,hI tlo,hI thi,hI e])) (hlt:(a:Int) < e) (he:e < 1000000000) {n0:Nat}
    (h71':∀ n,n0 ≤ n→evHF C0 K TH n 71 [.ptr sp 0,hI a,.fn 73 [.ptr p12 0]] (st ++ [.box [hI x.Slots,hI x.Mask],.box [hI x.Slots,hI x.Mask]])=some (.p (.tup []),st')) (b19:st'[st.length + 1]? = some (.box [hI x.Slots,hI x.Mask])) :
    Run C0 K TH h18l2 (env18c sp p12 oh v10 a,st) .norm (env18c sp p12 oh v10 (a + 1 + x.Slots),st'):=by
  have h16:=hx.2.1
  have h00:=hx.1
  have w1:IntKind.i64.wrap (1 + x.Slots)=1 + x.Slots:=wrap64 (by omega)
  have w2:IntKind.i64.wrap ((a:Int) + (1 + x.Slots))=(a:Int) + 1 + x.Slots:=by rw [wrap64 (by omega)];omega
  have e22:=fun n=>e22 B S a ha hx hhd n
  have hv':evHF C0 K TH (n0 + 60) 71 [.ptr sp 0,.p (.int .i64 a),.fn 73 [.ptr p12 0]] (st ++ [.box [hI x.Slots,hI x.Mask],.box [hI x.Slots,hI x.Mask]])=some (.p (.tup []),st'):=h71' _ (by omega)
  refine Run.of (n0 + 60) ?_
  simp (config:={ maxSteps:=4000000 }) [↓hs_pre,↓evP_call0',hs_eq,h18l2,env18c,e22,b12,bm,hlt,hv',b19,w1,w2]
theorem stop18c {st:HSt} {p12:Nat} {oh v10:HV} (b12:st[p12]? = some (.box [.ptr pm 0])) {tlo thi e:Int} (bm:st[pm]? = some (.box [.ptr sp 0,ah,hI tlo,hI thi,hI e])):Run C0 K TH h18l2 (env18c sp p12 oh v10 e,st) (.exit 4) ([(10,v10),(12,.ptr p12 0),(13,oh)],st):=by
  refine Run.of 60 ?_
  simp (config:={ maxSteps:=4000000 }) [↓hs_pre,↓evP_call0',hs_eq,h18l2,env18c,b12,bm]
theorem cps_get {t:Int}:∀ (d:List Int) (k:Nat) (p:Int),d[k]? = some p→(cps L t d)[k]? = some (cpy L (endT L t (d.take k)) p)
  | q :: r,0,p,h=>by simp at h;subst h;simp [cps,endT]
  | q :: r,k + 1,p,h=>by
    simp only [List.getElem?_cons_succ] at h
    simp only [cps,List.getElem?_cons_succ,List.take_succ_cons,endT]
    exact cps_get r k p h
theorem loop18c (B:KB K) {F:List Int} (M:Mk ars L t0 hi F) (hptr:∀ o ∈ L,PtrOk L o) (hok:∀ o ∈ L,OkSh o.Shape∧(o.Slots.length:Int)=o.Shape.Slots) {p12:Nat} (h12:p12 ≠ wb∧p12 ≠ pm∧base ≤ p12) {oh v10:HV} (A:List r26_Object):∀ (fu k:Nat) (st:HSt) (ws done:List Int),L.length + 1 ≤ fu + k→k ≤ done.length→MS base pm sp wb ah ars L tlo thi t0 hi st ws done (A ++ (((cps L t0 F).take k).map (trnO L t0 F) ++ (cps L t0 done).drop k))→st[p12]? = some (.box [.ptr pm 0])→F=bfs L ars fu k done →
    ∃ st' ws',Run C0 K TH (.loop h18l2 [0,10,12,13,18]) (env18c sp p12 oh v10 (endT L t0 (done.take k)),st) (.exit 4) ([(10,v10),(12,.ptr p12 0),(13,oh)],st')∧MS base pm sp wb ah ars L tlo thi t0 hi st' ws' F (A ++ (cps L t0 F).map (trnO L t0 F))∧ws'.length=ws.length∧Stay base wb pm st st'
  | 0,k,st,ws,done,hm,hq,H,b12,hF=>by
    have:=H.I.dn.le
    omega
  | fu + 1,k,st,ws,done,hm,hq,H,b12,hF=>by
    by_cases hkl:k < done.length
    · have hv:done[k]? = some done[k]:=by simp [hkl]
      simp only [bfs,hv] at hF
      obtain ⟨_,o,ho,hat⟩:=H.I.dn.mem done[k] (List.getElem_mem hkl)
      have hoa:objAt L done[k]=some o:=by rw [← hat];exact objAt_of M.ap ho
      have hpa:ptrsAt L done[k]=ptrsL o.Shape 0 o.Slots:=by unfold ptrsAt;rw [hoa];rfl
      rw [hpa] at hF
      obtain ⟨r1,hr1⟩:=bfs_pre L ars fu (k + 1) (mtL ars done (ptrsL o.Shape 0 o.Slots))
      have hFr:F=mtL ars done (ptrsL o.Shape 0 o.Slots) ++ r1:=by rw [hF,hr1]
      obtain ⟨r2,hr2⟩:=mtL_pre ars (ptrsL o.Shape 0 o.Slots) done
      have hFd:F=done ++ (r2 ++ r1):=by rw [hFr,hr2,List.append_assoc]
      have hcg:=cps_get (L:=L) (t:=t0) done k done[k] hv
      have hcp:=cpy_of (L:=L) (t:=endT L t0 (done.take k)) hoa
      rw [hcp] at hcg
      have hdrop:(cps L t0 done).drop k=⟨endT L t0 (done.take k),o.Shape,o.Slots⟩ :: (cps L t0 done).drop (k + 1):=drop_step hcg
      have hFg:(cps L t0 F)[k]? = some ⟨endT L t0 (done.take k),o.Shape,o.Slots⟩:=by
        rw [hFd,cps_app,List.getElem?_append_left (by rw [cps_len];exact hkl)];exact hcg
      have e1:A ++ (((cps L t0 F).take k).map (trnO L t0 F) ++ (cps L t0 done).drop k)=(A ++ ((cps L t0 F).take k).map (trnO L t0 F)) ++ ⟨endT L t0 (done.take k),o.Shape,o.Slots⟩ :: ([] ++ (cps L t0 done).drop (k + 1)):=by
        rw [hdrop,List.append_assoc];rfl
      have e2:∀ d,(A ++ ((cps L t0 F).take k).map (trnO L t0 F)) ++ ⟨endT L t0 (done.take k),o.Shape,trn L t0 F o.Shape 0 o.Slots.length o.Slots⟩ :: ([] ++ (cps L t0 d).drop (k + 1))=A ++ (((cps L t0 F).take (k + 1)).map (trnO L t0 F) ++ (cps L t0 d).drop (k + 1)):=fun d=>by
        rw [List.take_add_one,hFg]
        simp [trnO]
      have hx:=hok o ho
      have hNLm:(⟨endT L t0 (done.take k),o.Shape,o.Slots⟩:r26_Object) ∈ A ++ (((cps L t0 F).take k).map (trnO L t0 F) ++ (cps L t0 done).drop k):=by rw [e1];simp
      have hobj:=H.I.ok _ hNLm
      have hpos:=(H.I.out _ (List.mem_append_left _ (List.mem_map.2 ⟨_,hNLm,rfl⟩))).1
      simp only [keyOf] at hpos
      have hend:endT L t0 (done.take (k + 1))=endT L t0 (done.take k) + 1 + o.Shape.Slots:=by
        rw [List.take_add_one,hv]
        simp only [Option.toList_some]
        rw [endT_app]
        simp only [endT]
        rw [slN_of hoa,hx.2]
      have hle:endT L t0 (done.take (k + 1)) ≤ endT L t0 done:=by
        have:=endT_pre (L:=L) (t:=t0) (done.take (k + 1)) (done.drop (k + 1))
        rwa [List.take_append_drop] at this
      have hx0:=hx.1.1
      have hroomF:endT L t0 done ≤ endT L t0 F:=by rw [hFd];exact endT_pre _ _
      have hbd:=M.room
      have hhb:=M.hb
      have Happ:=H.app [.box [hI o.Shape.Slots,hI o.Shape.Mask],.box [hI o.Shape.Slots,hI o.Shape.Mask]]
      rw [e1] at Happ
      obtain ⟨st1,ws1,n0,h1,H1,hl1,S1⟩:=Happ.ptrs B (f:=73) (.inr rfl) M h12 (m:=k + 1) (by omega) (by rw [get_lt (List.getElem?_eq_some_iff.1 b12).1];exact b12) (fun i v h h'=>hptr o ho i v h h') ⟨r1,hFr⟩
      rw [e2] at H1
      have hS:=H.S
      have hbm:=H.bm
      obtain ⟨a,ha⟩:∃ a:Nat,endT L t0 (done.take k)=a:=⟨(endT L t0 (done.take k)).toNat,by omega⟩
      have hhd:=hobj.hd
      simp only at hhd
      rw [ha] at hhd h1 hend hpos ⊢
      rw [Int.toNat_natCast] at hhd
      have hpml:=(List.getElem?_eq_some_iff.1 hbm).1
      have b19:st1[st.length + 1]? = some (.box [hI o.Shape.Slots,hI o.Shape.Mask]):=S1.box _ _ (by omega) (by rw [getElem?_len];rfl)
      have rs:=step18c (p12:=p12) (oh:=oh) (v10:=v10) B hS (a:=a) (by omega) hx.1 hhd b12 hbm (by omega) (by omega) h1 b19
      have S0:Stay base wb pm st (st ++ [.box [hI o.Shape.Slots,hI o.Shape.Mask],.box [hI o.Shape.Slots,hI o.Shape.Mask]]):=Stay.app H.ge _
      have S01:=S0.trans S1
      obtain ⟨st2,ws2,r3,H2,hl2,S2⟩:=loop18c B M hptr hok h12 (oh:=oh) (v10:=v10) A fu (k + 1) st1 ws1 _ (by omega) (by rw [hr2,List.length_append];omega) H1 (S01.box _ _ h12.2.1 b12) hF
      have hend2:endT L t0 ((mtL ars done (ptrsL o.Shape 0 o.Slots)).take (k + 1))=(a:Int) + 1 + o.Shape.Slots:=by
        rw [hr2,List.take_append_of_le_length (by omega)];exact hend
      rw [hend2] at r3
      exact ⟨st2,ws2,Run.loopN rs r3,H2,by omega,S01.trans S2⟩
    · have hkn:done[k]? = none:=List.getElem?_eq_none (by omega)
      simp only [bfs,hkn] at hF
      subst hF
      have hk:k=F.length:=by omega
      subst hk
      rw [List.take_length]
      have e1:(cps L t0 F).take F.length=cps L t0 F:=List.take_of_length_le (by rw [cps_len];exact Nat.le_refl _)
      have e2:(cps L t0 F).drop F.length=[]:=by rw [← cps_len (L:=L) F t0,List.drop_length]
      rw [e1,e2,List.append_nil] at H
      exact ⟨st,ws,Run.loopX (stop18c b12 H.bm) (by simp),H,rfl,Stay.refl _ _ _ _⟩
end Go.Ab
