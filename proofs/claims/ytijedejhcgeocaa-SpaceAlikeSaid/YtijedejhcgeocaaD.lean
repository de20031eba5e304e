/-
  Texts of this seat: lemmas on the way to the statement.
-/
import Derived.Test.YtijedejhcgeocaaC
namespace Go.Ab
open Go
set_option linter.unusedVariables false
set_option linter.unusedSimpArgs false
def HRetOk (w:World) (L:LM) (A:AM) (r:HV) (st':HSt) (v:Value) (w':World):Prop :=
  ∃ L' A',HOk w' L' A' st' ∧ (∀ b j q p i,L' b j = .own q p i→HK ≤ q)∧RepH w' L' A' r v∧Evo w L A w' L' A'
def HCallOk1 (P:Program) (f:Nat) (F:List HV→HSt→Option (HV × HSt)):Prop :=
  ∀ ws st r st', F ws st = some (r, st') → (∃ fn, P.funcs[f]? = some fn ∧ (fn.name == "runtime.NumGoroutine") = false ∧ fn.body.isNone = false) ∧
    ∀ (args:Array Value) (w:World) (L:LM) (A:AM),args.size=ws.length→HOk w L A st→(∀ b j q p i,L b j = .own q p i→HK ≤ q) →
      (∀ i (hi:i < ws.length),RepH w L A ws[i] (args.getD i undef))→Calls P f args w (retPost (HRetOk w L A r st'))
def HCallOk (P:Program) (H:HCalls):Prop:=∀ f,HCallOk1 P f (H f)
def cutL:Lab→Lab
  | .own r p i=>if r < HK then .out else .own r p i
  | l=>l
theorem cutL_own {l:Lab} {r:Nat} {p:List Nat} {i:Nat} (h:cutL l = .own r p i):l = .own r p i∧HK ≤ r:=by
  cases l with
  | out=>cases h
  | sh=>cases h
  | own r' p' i' =>
    simp only [cutL] at h
    split at h
    · cases h
    · simp only [Lab.own.injEq] at h;obtain ⟨rfl,rfl,rfl⟩:=h;exact ⟨rfl,by omega⟩
def Lab.small:Lab→Prop
  | .own r _ _=>r < HK
  | _=>False
theorem RepH.relab {w:World} {L L':LM} {A:AM} {v:HV} {u:Value} (H:RepH w L A v u) (h:∀ b j,L b j = .sh→L' b j = .sh):RepH w L' A v u:=by
  induction H with
  | p v u hl H=>exact .p _ _ hl (H.frame (fun b j hr=>by rw [h b j hr.shared,hr.shared]) (fun q hq=>by rw [loose_refs hl] at hq;cases hq) fun _ _ _=>rfl)
  | ptr a i b j ha h=>exact .ptr _ _ _ _ ha h
  | row a off len sz b j cap ha hl h=>exact .row _ _ _ _ _ _ _ ha hl h
  | mp a b ha h=>exact .mp _ _ ha h
  | nilm=>exact .nilm
  | agg cs vs hz hc ih=>exact .agg _ _ hz ih
  | tup cs vs hz hc ih=>exact .tup _ _ hz ih
  | fn f caps vs hz hc ih=>exact .fn _ _ _ hz ih
  | bm f caps vs hz hc ih=>exact .bm _ _ _ hz ih
theorem RepV.relab {w:World} {L L':LM} {v:PV} {u:Value} (H:RepV w L Option.none v u) (hv:v.free=true) (h:∀ b j,L b j = .sh→L' b j = .sh):RepV w L' Option.none v u :=
  H.frame (fun b j hr=>by rw [h b j hr.shared,hr.shared]) (fun q hq=>by rw [free_refs hv] at hq;cases hq) fun _ _ _=>rfl
section
variable {P:Program} {n:Nat} {w:World} {L:LM} {A:AM} {st:HSt} {a:Act} {g:Nat→HV} {o:Oper} {Q:Exit→Act→World→Prop}
theorem HOk.relab (O:HOk w L A st) {L':LM} (W:WF w L') (hs:∀ b j,L b j = .sh→L' b j = .sh) (hb:∀ b j r p i,L b j = .own r p i→HK ≤ r→L' b j = .own r p i) (hb':∀ b j r p i,L' b j = .own r p i→HK ≤ r→L b j = .own r p i):HOk w L' A st where
  wf:=W
  len:=O.len
  lab b j r p i h hr:=O.lab b j r p i (hb' b j r p i h hr) hr
  live:=O.live
  blk a b o m k h1 h2:=by
    obtain ⟨h3,h4⟩:=O.blk a b o m k h1 h2
    exact ⟨h3,h4.mono (fun i hi=>by rw [h4.big hi];exact hb _ _ _ _ _ (h4.big hi) (Nat.le_add_left _ _)) (fun _ _=>rfl) (fun _ _ h=>h) (fun v _ u H=>H.relab hs) fun v u hf H=>H.relab hf hs⟩
  uniq:=O.uniq
theorem HOk.cut (O:HOk w L A st):HOk w (fun b j=>cutL (L b j)) A st∧Evo w L A w (fun b j=>cutL (L b j)) A:=by
  refine ⟨O.relab (O.wf.relabel rfl rfl fun l l' r p i h h'=>?_) (fun b j h=>by rw [h];rfl) (fun b j r p i h hr=>by rw [h];simp only [cutL];rw [if_neg (by omega)]) (fun b j r p i h _=>(cutL_own h).1),rfl,rfl,rfl,Nat.le_refl _,fun b j _ h=>by rcases h with h | h <;> rw [h] <;> rfl,fun _ _=>.inr (.refl _ _ _),Nat.le_refl _,fun _ _=>.inl rfl,fun a b o m h _=>.inl ⟨a,o,m,h⟩⟩
  obtain ⟨rfl,_⟩:=cutL_own h
  obtain ⟨rfl,_⟩:=cutL_own h'
  exact ⟨rfl,_,_,_,rfl⟩
open Classical in
noncomputable def mendL (L L':LM):LM:=fun b j=>if (L b j).small then L b j else L' b j
theorem Evo.outs {w':World} {L L':LM} {A A':AM} (E:Evo w L A w' L' A') {b j:Nat} (hb:b < w.heap.size) (hl:L b j = .out) {v:Value} (hv:w.cell? ⟨b,j,Option.none⟩=some v) :
    w'.cell? ⟨b,j,Option.none⟩=w.cell? ⟨b,j,Option.none⟩∧w'.frozen? ⟨b,j,Option.none⟩=w.frozen? ⟨b,j,Option.none⟩:=by
  rcases E.blk b hb with ⟨_,_,_,es,c,_,h⟩ | h
  · simp [World.cell?,h] at hv
  · cases e : w.heap[b]? with
    | none=>simp [World.cell?,e] at hv
    | some o =>
      rw [e] at h
      cases o with
      | cells c t fr =>
        cases e':w'.heap[b]? with
        | none=>rw [e'] at h;cases h
        | some o' =>
          rw [e'] at h
          cases o' with
          | cells c' t' fr' =>
            obtain ⟨rfl,rfl,h3,h4⟩:=h
            refine ⟨?_,?_⟩
            · have:=h4 j (.inl hl)
              simp only [World.cell?,e,e']
              simpa using this
            · simp [World.frozen?,e,e']
          | _=>cases h
      | _=>simp [World.cell?,e] at hv
theorem HInv.back (I:HInv n w L A st a g) (hn:n ≤ HK) {r:HV} {st':HSt} {v:Value} {w':World} (h:HRetOk w (fun b j=>cutL (L b j)) A r st' v w') :
    ∃ L' A',HOk w' L' A' st' ∧ RepH w' L' A' r v∧Evo w L A w' L' A' ∧ Keep Option.none w L w' L':=by
  classical
  obtain ⟨L',A',O',bd,H,E⟩:=h
  obtain ⟨Oc,Ec⟩:=I.ok.cut
  have smallOut:∀ b j,(L b j).small→cutL (L b j) = .out:=fun b j h=>by
    cases e:L b j with
    | out=>rfl
    | sh=>rw [e] at h;exact h.elim
    | own r p i =>
      rw [e] at h
      have h:r < HK:=h
      simp only [cutL];rw [if_pos h]
  have smallNe:∀ b j,(L b j).small→L b j ≠ .out:=fun b j h e=>by rw [e] at h;exact h
  have smallL:∀ b j,(L b j).small→L' b j = .out:=fun b j h=>by
    have hb:=I.ok.wf.lt (smallNe b j h)
    have:=E.lab b j hb (.inl (smallOut b j h))
    rw [this];exact smallOut b j h
  have mpos:∀ {b j},(L b j).small→mendL L L' b j=L b j:=fun {b j} h=>by unfold mendL;rw [if_pos h]
  have mneg:∀ {b j},¬ (L b j).small→mendL L L' b j=L' b j:=fun {b j} h=>by unfold mendL;rw [if_neg h]
  have cellS:∀ b j,(L b j).small → ∃ v,w.cell? ⟨b,j,Option.none⟩=some v∧w'.cell? ⟨b,j,Option.none⟩=some v∧w'.frozen? ⟨b,j,Option.none⟩=w.frozen? ⟨b,j,Option.none⟩:=fun b j h=>by
    obtain ⟨v,hv⟩:=I.ok.wf.ex b j (smallNe b j h)
    obtain ⟨h1,h2⟩:=E.outs (I.ok.wf.lt (smallNe b j h)) (smallOut b j h) hv
    exact ⟨v,hv,by rw [h1,hv],h2⟩
  have ownCase:∀ b j q p i,mendL L L' b j = .own q p i→(L b j = .own q p i∧q < HK) ∨ (L' b j = .own q p i∧HK ≤ q):=fun b j q p i h=>by
    by_cases hs:(L b j).small
    · rw [mpos hs] at h;exact .inl ⟨h,by rw [h] at hs;exact hs⟩
    · rw [mneg hs] at h;exact .inr ⟨h,bd _ _ _ _ _ h⟩
  have W:WF w' (mendL L L'):=by
    refine ⟨fun b j b' j' q p i h h'=>?_,fun b j h=>?_,fun b j q p i h=>?_⟩
    · rcases ownCase _ _ _ _ _ h with ⟨h1,h2⟩ | ⟨h1,h2⟩ <;> rcases ownCase _ _ _ _ _ h' with ⟨h3,h4⟩ | ⟨h3,h4⟩
      · exact I.ok.wf.inj _ _ _ _ _ _ _ h1 h3
      · omega
      · omega
      · exact O'.wf.inj _ _ _ _ _ _ _ h1 h3
    · by_cases hs:(L b j).small
      · obtain ⟨v,_,hv,_⟩:=cellS b j hs;exact ⟨v,hv⟩
      · rw [mneg hs] at h;exact O'.wf.ex b j h
    · rcases ownCase _ _ _ _ _ h with ⟨h1,h2⟩ | ⟨h1,h2⟩
      · obtain ⟨_,_,_,hf⟩:=cellS b j (by rw [h1];exact h2)
        rw [hf];exact I.ok.wf.thaw _ _ _ _ _ h1
      · exact O'.wf.thaw _ _ _ _ _ h1
  have hs':∀ b j,L' b j = .sh→mendL L L' b j = .sh:=fun b j h=>by
    rw [mneg fun hs=>by rw [smallL b j hs] at h;cases h];exact h
  have O:HOk w' (mendL L L') A' st':=O'.relab W hs' (fun b j q p i h hr=>by
      rw [mneg fun hs=>by rw [smallL b j hs] at h;cases h];exact h) fun b j q p i h hr=>by
      rcases ownCase _ _ _ _ _ h with ⟨h1,h2⟩ | ⟨h1,h2⟩
      · omega
      · exact h1
  refine ⟨mendL L L',A',O,H.relab hs',⟨E.os,E.tape,E.output,E.size,fun b j hb h=>?_,fun b hb=>?_,E.len,E.mono,fun a' b o m h hb=>?_⟩,⟨fun b j q p i h hr _=>mpos (by rw [h];exact hr),fun b j q p i h hr _=>?_⟩⟩
  · have hns:¬ (L b j).small:=fun hs=>by rcases h with h | h <;> rw [h] at hs <;> exact hs
    rw [mneg hns]
    have hc:cutL (L b j)=L b j:=by rcases h with h | h <;> rw [h] <;> rfl
    have:=E.lab b j hb (by rw [hc];exact h)
    rw [this,hc]
  · rcases E.blk b hb with h | h
    · exact .inl h
    · right
      cases e:w.heap[b]? with
      | none=>rw [e] at h;exact h
      | some ob =>
        rw [e] at h
        cases ob with
        | cells c t fr =>
          cases e':w'.heap[b]? with
          | none=>rw [e'] at h;cases h
          | some ob' =>
            rw [e'] at h
            cases ob' with
            | cells c' t' fr' =>
              obtain ⟨h1,h2,h3,h4⟩:=h
              exact ⟨h1,h2,h3,fun j hj=>h4 j (by rcases hj with hj | hj <;> simp only [hj] <;> simp [cutL])⟩
            | _=>cases h
        | _=>exact h
  · rcases E.sub a' b o m h hb with h1 | ⟨j,q,p,i,h1,h2⟩
    · exact .inl h1
    · exact absurd (cutL_own h1).2 (by omega)
  · obtain ⟨v,h1,h2,_⟩:=cellS b j (by rw [h];exact hr)
    rw [h1,h2]
theorem stepEnter (I:HInv n w L A st a g) (hn:n ≤ HK) (hdn:∀ d,o.dst=some d→d < n) {H:HCalls} (hH:HCallOk P H) {f:Nat} {ws:List HV} {r:HV} {st':HSt} (h:H f ws st=some (r,st')) {args:Array Value} (hr:(execOp a.eval o).run P w = .ok (.enter f args) w)
    (hsz:args.size=ws.length) (hargs:∀ i (hi:i < ws.length),RepH w L A ws[i] (args.getD i undef)) :
    HStep P n o a w L A (fun t=>if o.dst=some t then r else g t) st' Q:=by
  obtain ⟨_,hcalls⟩:=hH f ws st r st' h
  obtain ⟨Oc,Ec⟩:=I.ok.cut
  unfold HStep Oper.wp
  rw [hr]
  simp only [Oper.upon]
  refine Calls.mono (hcalls args w _ A hsz Oc (fun b j q p i h=>(cutL_own h).2) fun i hi=>(hargs i hi).evo Ec I.ok.wf) fun en w'' he=>?_
  cases en with
  | returned v =>
    obtain ⟨L',A',O,Hr,E,K⟩:=I.back hn he
    refine ⟨L',A',?_,E⟩
    cases ho:o.dst with
    | none =>
      have:=I.stay hn O E K
      simpa [Act.put] using this
    | some d =>
      have K':Keep (some d) w L w'' L':=⟨fun b j q p i h hr _=>K.lab b j q p i h hr (by simp),fun b j q p i h hr _=>K.cell b j q p i h hr (by simp)⟩
      exact (I.put hn (hdn d ho) O E K' (.inl Hr)).congr fun t=>by
        by_cases h:t=d
        · subst h;simp
        · simp [h,Ne.symm h]
  | panicked=>exact he.elim
  | outgrown=>exact he.elim
theorem run_callH {H:HCalls} (hH:HCallOk P H) {f:Nat} {c:Call} (hop:o.op = .call c) (hcal:c.callee = .value (.func f)) {ws:List HV} {r:HV} {st':HSt} (h:H f ws st=some (r,st')) :
    (execOp a.eval o).run P w = .ok (.enter f (c.args.map a.eval)) w:=by
  obtain ⟨⟨fn,h1,h2,h3⟩,_⟩:=hH f ws st r st' h
  have h2' : ¬ fn.name = "runtime.NumGoroutine" := by simpa using h2
  simp [execOp,hop,resolve,hcal,Deferred.ofValue,invoke,Act.eval,callFunc,h1,h2',h3]
  intro hb
  rw [hb] at h3;cases h3
theorem run_callvH {H:HCalls} (hH:HCallOk P H) {f:Nat} {c:Call} {y:Operand} (hop:o.op = .call c) (hcal:c.callee = .value y) {us vs:Array Value} (hy:a.eval y = .func (.func f) us vs) {ws:List HV} {r:HV} {st':HSt} (h:H f ws st=some (r,st')) :
    (execOp a.eval o).run P w = .ok (.enter f (us ++ c.args.map a.eval ++ vs)) w:=by
  obtain ⟨⟨fn,h1,h2,h3⟩,_⟩:=hH f ws st r st' h
  have h2' : ¬ fn.name = "runtime.NumGoroutine" := by simpa using h2
  simp only [execOp,hop,resolve,hcal,Deferred.ofValue,hy]
  simp [invoke,callFunc,h1,h2',h3]
  intro hb
  rw [hb] at h3;cases h3
theorem argsH (I:HInv n w L A st a g) {l:Array Operand} {l':List XO} (h:trOs l.toList=some l'):(l.map a.eval).size=(l'.map (lookHG g)).length ∧ ∀ i (hi:i < (l'.map (lookHG g)).length),RepH w L A (l'.map (lookHG g))[i] ((l.map a.eval).getD i undef):=by
  obtain ⟨h1,h2⟩:=I.looks h
  refine ⟨by rw [h1];simp,fun i hi=>?_⟩
  have:=h2 i hi
  simpa using this
theorem append_repH {xs ys:List HV} {us vs:Array Value} (h1:us.size=xs.length) (h2:vs.size=ys.length) (H1:∀ i (hi:i < xs.length),RepH w L A xs[i] (us.getD i undef)) (H2:∀ i (hi:i < ys.length),RepH w L A ys[i] (vs.getD i undef)) :
    (us ++ vs).size=(xs ++ ys).length ∧ ∀ i (hi:i < (xs ++ ys).length),RepH w L A (xs ++ ys)[i] ((us ++ vs).getD i undef):=by
  refine ⟨by simp [h1,h2],fun i hi=>?_⟩
  rw [append_getD,h1]
  by_cases hlt:i < xs.length
  · rw [if_pos hlt,List.getElem_append_left hlt];exact H1 i hlt
  · rw [if_neg hlt,List.getElem_append_right (by omega)]
    exact H2 _ (by simp at hi;omega)
theorem stepCall (I:HInv n w L A st a g) (hn:n ≤ HK) (hdn:∀ d,o.dst=some d→d < n) {H:HCalls} (hH:HCallOk P H) {c:Call} {f:Nat} {as:List XO} (hop:o.op = .call c) (hcal:c.callee = .value (.func f)) (hargs:trOs c.args.toList=some as)
    {r:HV} {st':HSt} (h:H f (as.map (lookHG g)) st=some (r,st')):HStep P n o a w L A (fun t=>if o.dst=some t then r else g t) st' Q:=by
  obtain ⟨h1,h2⟩:=argsH I hargs
  exact stepEnter I hn hdn hH h (run_callH hH hop hcal h) h1 h2
theorem stepCallv (I:HInv n w L A st a g) (hn:n ≤ HK) (hdn:∀ d,o.dst=some d→d < n) {H:HCalls} (hH:HCallOk P H) {c:Call} {t:Nat} {as:List XO} (hop:o.op = .call c) (hcal:c.callee = .value (.tmp t)) (hargs:trOs c.args.toList=some as)
    {r:HV} {st':HSt} (h:evHS H (lookHG g) st (.x (.callv (.t t) as))=some (r,st')):HStep P n o a w L A (fun t=>if o.dst=some t then r else g t) st' Q:=by
  obtain ⟨h1,h2⟩:=argsH I hargs
  have HF:=I.look (x:=.tmp t) (x':=.t t) rfl
  simp only [evHS] at h
  split at h
  · rename_i f caps hx
    rw [hx] at HF
    generalize hu:a.eval (.tmp t)=u at HF
    cases HF with
    | fn _ _ vs hz hc =>
      obtain ⟨h3,h4⟩:=append_repH h1 hz h2 hc
      have:=run_callvH (w:=w) hH hop hcal hu h
      rw [show (#[]:Array Value) ++ c.args.map a.eval=c.args.map a.eval by simp] at this
      exact stepEnter I hn hdn hH h this h3 h4
  · rename_i f first hx
    rw [hx] at HF
    generalize hu:a.eval (.tmp t)=u at HF
    cases HF with
    | bm _ _ vs hz hc =>
      obtain ⟨h3,h4⟩:=append_repH hz h1 hc h2
      have:=run_callvH (w:=w) hH hop hcal hu h
      rw [Array.append_empty] at this
      exact stepEnter I hn hdn hH h this h3 h4
  · rename_i f caps hx
    rw [hx] at HF
    obtain ⟨hl,HF⟩:=HF.pv
    generalize hu:a.eval (.tmp t)=u at HF
    cases HF with
    | fn _ _ _ vs hz hc =>
      have hcs:∀ c ∈ caps,c.loose=true:=fun c hc=>by
        simp only [PV.loose,noOwn,refs,Bool.and_eq_true,List.isEmpty_iff] at hl
        obtain ⟨i,hi,rfl⟩:=List.getElem_of_mem hc
        simp only [PV.loose,noOwnL_get hl.1 i hi,Bool.true_and,List.isEmpty_iff]
        exact List.eq_nil_iff_forall_not_mem.2 fun q hq=>by have:=mem_refsL i hi hq;rw [hl.2] at this;cases this
      obtain ⟨h3,h4⟩:=append_repH (w:=w) (L:=L) (A:=A) (ys:=caps.map HV.p) h1 (by simpa using hz) h2 fun i hi=>by
        simp only [List.getElem_map]
        exact .p _ _ (hcs _ (List.getElem_mem _)) (hc i (by simpa using hi))
      have:=run_callvH (w:=w) hH hop hcal hu h
      rw [show (#[]:Array Value) ++ c.args.map a.eval=c.args.map a.eval by simp] at this
      exact stepEnter I hn hdn hH h this h3 h4
  · cases h
end
end Go.Ab
namespace Go.Ab
open Go
set_option linter.unusedVariables false
set_option linter.unusedSimpArgs false
def dstH:HOp→Option Nat→Bool
  | .x (.store ..),d=>d.isNone
  | .x (.call ..),_=>true
  | .x (.callv ..),_=>true
  | .copy ..,_=>true
  | _,d=>d.isSome
section
variable {P:Program} {n:Nat} {w:World} {L:LM} {A:AM} {st:HSt} {a:Act} {g:Nat→HV} {o:Oper} {Q:Exit→Act→World→Prop} {H:HCalls}
theorem HStep.dst {d:Nat} {v:HV} {st':HSt} (ho:o.dst=some d) (h:HStep P n o a w L A (fun t=>if t=d then v else g t) st' Q):HStep P n o a w L A (fun t=>if o.dst=some t then v else g t) st' Q:=by
  have:(fun t=>if o.dst=some t then v else g t)=fun t=>if t=d then v else g t:=by
    funext t
    rw [ho]
    by_cases h:t=d
    · subst h;simp
    · simp [h,Ne.symm h]
  rw [this];exact h
theorem evHS_step (I : HInv n w L A st a g) (hn:n ≤ HK) (hdn:∀ d,o.dst=some d→d < n) (hH:HCallOk P H) {y:HOp} (ht:trH P o.op=some y) (hds:dstH y o.dst=true) {v:HV} {st':HSt} (h:evHS H (lookHG g) st y=some (v,st')) :
    HStep P n o a w L A (fun t=>if o.dst=some t then v else g t) st' Q:=by
  have some_:o.dst.isSome=true → ∃ d,o.dst=some d:=fun h=>Option.isSome_iff_exists.1 h
  rcases trH_some ht with h2 | ⟨x,rfl,hx⟩
  · cases y with
    | x x=>exact absurd h2 trH2_x
    | copy sz d' s' =>
      have key : ∃ c d s t et,o.op = .call c∧c.callee = .builtin .copy∧c.args = #[d,s]∧c.argTypes = #[t,t]∧trO d=some d' ∧ trO s=some s' ∧ sliceP P t=some et∧szP P et=some sz∧0 < sz:=by
        cases hop:o.op <;> rw [hop] at h2 <;> simp only [trH2,reduceCtorEq] at h2
        case call c =>
          split at h2
          · rename_i d s t t' hcal hargs htys
            split at h2
            · rename_i htt
              subst htt
              simp only [Option.bind_eq_some_iff] at h2
              obtain ⟨et,het,sz0,hsz,h2⟩:=h2
              split at h2
              · rename_i hz
                simp only [Option.bind_eq_some_iff,Option.map_eq_some_iff] at h2
                obtain ⟨d1,hd1,s1,hs1,h3⟩:=h2
                simp only [HOp.copy.injEq] at h3
                obtain ⟨rfl,rfl,rfl⟩:=h3
                exact ⟨c,d,s,t,et,rfl,hcal,by rw [← Array.toList_inj];simpa using hargs,by rw [← Array.toList_inj];simpa using htys,hd1,hs1,het,hsz,hz⟩
              · cases h2
            · cases h2
          · cases h2
        case makeFunc fn fi cs =>
          split at h2
          · simp only [Option.map_eq_some_iff] at h2;obtain ⟨_,_,h2⟩:=h2;cases h2
          · cases h2
        case binOp op xt x y' yt =>
          cases op <;> simp only [reduceCtorEq] at h2
          all_goals
            simp only [Option.bind_eq_some_iff] at h2
            obtain ⟨_,_,h2⟩:=h2
            split at h2
            · simp only [Option.map_eq_some_iff] at h2;obtain ⟨_,_,h2⟩:=h2;cases h2
            · cases h2
        case slice t x lo hi mx =>
          cases hi with
          | none=>cases h2
          | some hi =>
            cases mx with
            | none=>cases h2
            | some mx =>
              simp only [Option.bind_eq_some_iff] at h2
              obtain ⟨_,_,_,_,h2⟩:=h2
              split at h2
              · simp only [Option.map_eq_some_iff] at h2;obtain ⟨_,_,h2⟩:=h2;cases h2
              · cases h2
      obtain ⟨c,d,s,t,et,hop,hcal,hargs,htys,hd',hs',het,hsz,hz0⟩:=key
      simp only [evHS] at h
      split at h
      · rename_i r off len z ed
        split at h
        · rename_i sz' n0 cs hst
          split at h
          · rename_i m new ex
            split at h
            · rename_i hc
              obtain ⟨rfl,rfl,h3,h4,h5,h6⟩:=hc
              simp only [Option.some.injEq,Prod.mk.injEq] at h
              obtain ⟨rfl,rfl⟩:=h
              exact stepCopy I hn hdn hop hcal hargs htys hd' hs' het hsz hz0 ed hst h3 ex h4 h6
            · cases h
          · cases h
        · cases h
      · cases h
    | bm f first=>simp [evHS] at h
    | snil neg x=>simp [evHS] at h
    | slc0 x=>simp [evHS] at h
  · cases hop : o.op <;> rw [hop] at hx <;> simp only [trOp] at hx
    case buildSlice t len parts =>
      simp only [Option.bind_eq_some_iff] at hx
      obtain ⟨et,het,z,hz,sz,hsz,hx⟩:=hx
      split at hx
      · simp only [Option.map_eq_some_iff] at hx
        obtain ⟨ps,hps,rfl⟩:=hx
        simp [evHS] at h
      · cases hx
    case store t y z =>
      simp only [Option.bind_eq_some_iff,Option.map_eq_some_iff] at hx
      obtain ⟨sz,hsz,y',hy,z',hz,rfl⟩:=hx
      have ho:o.dst=Option.none:=by simpa [dstH] using hds
      have hg:(fun t=>if o.dst=some t then v else g t)=g:=by funext t;rw [ho];simp
      rw [hg]
      simp only [evHS] at h
      split at h
      · rename_i b i ea
        split at h
        · rename_i hc
          obtain ⟨h1,h2,h3⟩:=hc
          split at h
          · rename_i cs hst
            split at h
            · rename_i hle
              simp only [Option.some.injEq,Prod.mk.injEq] at h
              obtain ⟨rfl,rfl⟩:=h
              exact stepStore I hn ho hop hy hz hsz ea h1 h2 h3 hst (.inl ⟨rfl,rfl⟩) hle
            · cases h
          · rename_i z1 n1 cs hst
            split at h
            · rename_i hle
              simp only [Option.some.injEq,Prod.mk.injEq] at h
              obtain ⟨rfl,rfl⟩:=h
              exact stepStore I hn ho hop hy hz hsz ea h1 h2 h3 hst (.inr ⟨z1,n1,rfl,rfl⟩) hle
            · cases h
          · cases h
        · cases h
      · cases h
    case call c =>
      have hx0:trOp P (.call c)=some x:=by simpa only [trOp] using hx
      by_cases hcall:isCall x=true
      · rcases trOp_call hx0 hcall with ⟨c',f,as,e1,hcal,has,rfl⟩ | ⟨c',t,as,e1,hcal,has,rfl⟩
        · cases e1
          simp only [evHS] at h
          exact stepCall I hn hdn hH hop hcal has h
        · cases e1
          exact stepCallv I hn hdn hH hop hcal has h
      · unfold trCall at hx
        split at hx
        · split at hx
          · simp only [Option.map_eq_some_iff] at hx;obtain ⟨_,_,rfl⟩:=hx;simp [evHS] at h
          · simp only [Option.map_eq_some_iff] at hx;obtain ⟨_,_,rfl⟩:=hx;simp [evHS] at h
          · obtain rfl:=Option.some.inj hx;simp [evHS] at h
          · cases hx
        · rename_i s x1 t t' hcal hargs htys
          split at hx
          · rename_i htt
            subst htt
            simp only [Option.bind_eq_some_iff] at hx
            obtain ⟨et,het,z,hz,sz,hsz,i,hi,hx⟩:=hx
            split at hx
            · rename_i hcond
              simp only [Option.bind_eq_some_iff,Option.map_eq_some_iff] at hx
              obtain ⟨s',hs,x',hx',rfl⟩:=hx
              obtain ⟨d,ho⟩:=some_ (by simpa [dstH] using hds)
              have hc:c = { callee:=.builtin .append,args:=#[s,x1],argTypes:=#[t,t] }:=by
                cases c
                simp only [Call.mk.injEq]
                exact ⟨hcal,by rw [← Array.toList_inj];simpa using hargs,by rw [← Array.toList_inj];simpa using htys⟩
              rw [hc] at hop
              have hby:(P.info? et).map (·.bytes)=some i.bytes:=by rw [hi];rfl
              simp only [evHS] at h
              split at h
              · rename_i es
                split at h
                · rename_i k new ex
                  split at h
                  · rename_i hcc
                    obtain ⟨h1,h2,h3,h4,h5,_⟩:=hcc
                    simp only [Option.some.injEq,Prod.mk.injEq] at h
                    obtain ⟨rfl,rfl⟩:=h
                    exact (stepAppNil I hn (hdn d ho) ho hop hs hx' (sliceP_some het) hz hsz hcond.1 hcond.2 hby es ex h1 h2 h3 h5).dst ho
                  · cases h
                · cases h
              · rename_i r off len z1 es
                split at h
                · rename_i sz' n0 cs hst
                  split at h
                  · rename_i m new ex
                    split at h
                    · rename_i hcc
                      obtain ⟨rfl,rfl,rfl,h1,h2,h3,h4,h5,h6,h7⟩:=hcc
                      simp only [Option.some.injEq,Prod.mk.injEq] at h
                      obtain ⟨rfl,rfl⟩:=h
                      exact (stepApp I hn (hdn d ho) ho hop hs hx' (sliceP_some het) hz hsz hcond.1 hcond.2 hby es hst ex h1 h2 h3 h4 h6 h7).dst ho
                    · cases h
                  · cases h
                · cases h
              · cases h
            · cases hx
          · cases hx
        · simp only [Option.bind_eq_some_iff,Option.map_eq_some_iff] at hx;obtain ⟨_,_,_,_,rfl⟩:=hx;simp [evHS] at h
        · simp only [Option.bind_eq_some_iff,Option.map_eq_some_iff] at hx;obtain ⟨_,_,_,_,rfl⟩:=hx;simp [evHS] at h
        · simp only [Option.map_eq_some_iff] at hx;obtain ⟨_,_,rfl⟩:=hx;exact absurd rfl hcall
        · simp only [Option.map_eq_some_iff] at hx;obtain ⟨_,_,rfl⟩:=hx;exact absurd rfl hcall
        · cases hx
    case binOp op xt y z yt =>
      exfalso
      simp only [Option.bind_eq_some_iff] at hx
      obtain ⟨y',hy,z',hz,hx⟩:=hx
      cases op <;> simp only [trBin] at hx
      case eql =>
        split at hx
        · obtain rfl:=Option.some.inj hx;simp [evHS] at h
        · obtain rfl:=Option.some.inj hx;simp [evHS] at h
        · simp only [Option.map_eq_some_iff] at hx;obtain ⟨_,_,rfl⟩:=hx;simp [evHS] at h
        · simp only [Option.map_eq_some_iff] at hx;obtain ⟨_,_,rfl⟩:=hx;simp [evHS] at h
        · obtain rfl:=Option.some.inj hx;simp [evHS] at h
      case neq =>
        split at hx
        · obtain rfl:=Option.some.inj hx;simp [evHS] at h
        · obtain rfl:=Option.some.inj hx;simp [evHS] at h
        · simp only [Option.map_eq_some_iff] at hx;obtain ⟨_,_,rfl⟩:=hx;simp [evHS] at h
        · simp only [Option.map_eq_some_iff] at hx;obtain ⟨_,_,rfl⟩:=hx;simp [evHS] at h
        · obtain rfl:=Option.some.inj hx;simp [evHS] at h
      all_goals (obtain rfl:=Option.some.inj hx;simp [evHS] at h)
    case build t parts =>
      split at hx
      · simp only [Option.bind_eq_some_iff,Option.map_eq_some_iff] at hx;obtain ⟨_,_,_,_,_,_,rfl⟩:=hx;simp [evHS] at h
      · simp only [Option.bind_eq_some_iff,Option.map_eq_some_iff] at hx;obtain ⟨_,_,_,_,_,_,rfl⟩:=hx;simp [evHS] at h
      · cases hx
    case load t y =>
      simp only [Option.bind_eq_some_iff] at hx
      obtain ⟨_,_,_,_,hx⟩:=hx
      split at hx
      · simp only [Option.map_eq_some_iff] at hx;obtain ⟨_,_,rfl⟩:=hx;simp [evHS] at h
      · cases hx
    case convert s d y =>
      split at hx
      · simp only [Option.map_eq_some_iff] at hx;obtain ⟨_,_,rfl⟩:=hx;simp [evHS] at h
      · simp only [Option.bind_eq_some_iff,Option.map_eq_some_iff] at hx;obtain ⟨_,_,_,_,_,_,rfl⟩:=hx;simp [evHS] at h
    case makeFunc fn fi cs =>
      split at hx
      · simp only [Option.map_eq_some_iff] at hx;obtain ⟨_,_,rfl⟩:=hx;simp [evHS] at h
      · cases hx
    case makeSlice t l c =>
      simp only [Option.bind_eq_some_iff] at hx
      obtain ⟨_,_,_,_,_,_,_,_,hx⟩:=hx
      split at hx
      · simp only [Option.bind_eq_some_iff,Option.map_eq_some_iff] at hx;obtain ⟨_,_,_,_,rfl⟩:=hx;simp [evHS] at h
      · cases hx
    case slice t y lo hi mx =>
      cases mx with
      | some m=>simp at hx
      | none =>
        simp only at hx
        split at hx
        · simp only [Option.bind_eq_some_iff,Option.map_eq_some_iff] at hx;obtain ⟨_,_,_,_,_,_,rfl⟩:=hx;simp [evHS] at h
        · simp only [Option.bind_eq_some_iff] at hx
          obtain ⟨_,_,hx⟩:=hx
          split at hx
          · simp only [Option.bind_eq_some_iff,Option.map_eq_some_iff] at hx;obtain ⟨_,_,_,_,_,_,rfl⟩:=hx;simp [evHS] at h
          · cases hx
        · cases hx
    case fieldAddr s y f =>
      simp only [Option.bind_eq_some_iff] at hx
      obtain ⟨_,_,_,_,hx⟩:=hx
      split at hx
      · simp only [Option.map_eq_some_iff] at hx;obtain ⟨_,_,rfl⟩:=hx;simp [evHS] at h
      · cases hx
    case indexAddr t y i =>
      split at hx
      · simp only [Option.bind_eq_some_iff] at hx
        obtain ⟨_,_,hx⟩:=hx
        split at hx
        · simp only [Option.bind_eq_some_iff,Option.map_eq_some_iff] at hx;obtain ⟨_,_,_,_,rfl⟩:=hx;simp [evHS] at h
        · cases hx
      · simp only [Option.bind_eq_some_iff] at hx
        obtain ⟨_,_,hx⟩:=hx
        split at hx
        · simp only [Option.bind_eq_some_iff,Option.map_eq_some_iff] at hx;obtain ⟨_,_,_,_,rfl⟩:=hx;simp [evHS] at h
        · cases hx
      · cases hx
    case index t y i =>
      split at hx
      · simp only [Option.bind_eq_some_iff,Option.map_eq_some_iff] at hx;obtain ⟨_,_,_,_,rfl⟩:=hx;simp [evHS] at h
      · simp only [Option.bind_eq_some_iff,Option.map_eq_some_iff] at hx;obtain ⟨_,_,_,_,_,_,_,_,rfl⟩:=hx;simp [evHS] at h
      · cases hx
    all_goals first
      | (cases hx;done)
      | (simp only [Option.map_eq_some_iff] at hx;obtain ⟨_,_,rfl⟩:=hx;simp [evHS] at h;done)
      | (simp only [Option.bind_eq_some_iff,Option.map_eq_some_iff] at hx;obtain ⟨_,_,_,_,_,_,rfl⟩:=hx;simp [evHS] at h;done)
      | (simp only [Option.bind_eq_some_iff,Option.map_eq_some_iff] at hx;obtain ⟨_,_,_,_,_,_,_,_,rfl⟩:=hx;simp [evHS] at h;done)
end
end Go.Ab
namespace Go.Ab
open Go
set_option linter.unusedVariables false
set_option linter.unusedSimpArgs false
abbrev GS:=(Nat→HV) × HSt
def land1G (s:GS) (t:Nat):GS :=
  match s.1 t with
  | .p (.box cs)=>if fresh (.box cs) then (fun t'=>if t' = t then .ptr s.2.length 0 else s.1 t',s.2 ++ [.box (cs.map .p)]) else s
  | .p (.own sz len cs)=>if fresh (.own sz len cs) then (fun t'=>if t' = t then .row s.2.length 0 len sz else s.1 t',s.2 ++ [.row sz len (cs.map .p)]) else s
  | .nbox cs=>(fun t'=>if t' = t then .ptr s.2.length 0 else s.1 t',s.2 ++ [.box cs])
  | .nrow sz len cs=>(fun t'=>if t' = t then .row s.2.length 0 len sz else s.1 t',s.2 ++ [.row sz len cs])
  | _=>s
def hlandG:GS→List Nat→GS
  | s,[]=>s
  | s,t :: r=>hlandG (land1G s t) r
theorem land1_G (s:HS) (t:Nat):(land1 s t).1.get=(land1G (s.1.get,s.2) t).1∧(land1 s t).2=(land1G (s.1.get,s.2) t).2:=by
  unfold land1 land1G
  simp only
  generalize s.1.get t=v
  cases v with
  | p pv =>
    cases pv with
    | box cs =>
      simp only
      by_cases hf:fresh (.box cs)=true
      · rw [if_pos hf,if_pos hf]
        exact ⟨funext fun t'=>hget_set _ _ _ _,rfl⟩
      · rw [if_neg hf,if_neg hf]
        exact ⟨rfl,rfl⟩
    | own sz len cs =>
      simp only
      by_cases hf:fresh (.own sz len cs)=true
      · rw [if_pos hf,if_pos hf]
        exact ⟨funext fun t'=>hget_set _ _ _ _,rfl⟩
      · rw [if_neg hf,if_neg hf]
        exact ⟨rfl,rfl⟩
    | _=>exact ⟨rfl,rfl⟩
  | nbox cs=>exact ⟨funext fun t'=>hget_set _ _ _ _,rfl⟩
  | nrow sz len cs=>exact ⟨funext fun t'=>hget_set _ _ _ _,rfl⟩
  | _=>exact ⟨rfl,rfl⟩
theorem hland_G:∀ (l:List Nat) (s:HS),(hland s l).1.get=(hlandG (s.1.get,s.2) l).1∧(hland s l).2=(hlandG (s.1.get,s.2) l).2
  | [],s=>⟨rfl,rfl⟩
  | t :: r,s=>by
    obtain ⟨h1,h2⟩:=land1_G s t
    obtain ⟨h3,h4⟩:=hland_G r (land1 s t)
    rw [h1,h2] at h3 h4
    exact ⟨h3,h4⟩
theorem land1G_congr {T:Nat→Prop} {g g':Nat→HV} {st:HSt} {t:Nat} (ht:T t) (h:∀ t,T t→g t=g' t) :
    (land1G (g,st) t).2=(land1G (g',st) t).2∧(∀ q,T q→(land1G (g,st) t).1 q=(land1G (g',st) t).1 q)∧(∀ q,q ≠ t→(land1G (g,st) t).1 q=g q):=by
  unfold land1G
  simp only [← h t ht]
  generalize g t=v
  have new:∀ (x:HV) (b:HB),((fun t'=>if t' = t then x else g t',st ++ [b]):GS).2=((fun t'=>if t' = t then x else g' t',st ++ [b]):GS).2∧(∀ q,T q→((fun t'=>if t' = t then x else g t',st ++ [b]):GS).1 q=((fun t'=>if t' = t then x else g' t',st ++ [b]):GS).1 q)∧(∀ q,q ≠ t→((fun t'=>if t' = t then x else g t',st ++ [b]):GS).1 q=g q) :=
    fun x b=>⟨rfl,fun q hq=>by simp only;rw [h q hq],fun q hq=>by simp [hq]⟩
  have same:((g,st):GS).2=((g',st):GS).2∧(∀ q,T q→((g,st):GS).1 q=((g',st):GS).1 q)∧(∀ q,q ≠ t→((g,st):GS).1 q=g q):=⟨rfl,h,fun _ _=>rfl⟩
  cases v with
  | p pv =>
    cases pv with
    | box cs =>
      simp only
      by_cases hf:fresh (.box cs)=true
      · rw [if_pos hf,if_pos hf];exact new _ _
      · rw [if_neg hf,if_neg hf];exact same
    | own sz len cs =>
      simp only
      by_cases hf:fresh (.own sz len cs)=true
      · rw [if_pos hf,if_pos hf];exact new _ _
      · rw [if_neg hf,if_neg hf];exact same
    | _=>exact same
  | nbox cs=>exact new _ _
  | nrow sz len cs=>exact new _ _
  | _=>exact same
theorem hlandG_congr {T:Nat→Prop}:∀ (l:List Nat) {g g':Nat→HV} {st:HSt},(∀ t ∈ l,T t)→(∀ t,T t→g t=g' t) →
    (hlandG (g,st) l).2=(hlandG (g',st) l).2∧(∀ q,T q→(hlandG (g,st) l).1 q=(hlandG (g',st) l).1 q)∧(∀ q,q ∉ l→(hlandG (g,st) l).1 q=g q)
  | [],g,g',st,_,h=>⟨rfl,h,fun _ _=>rfl⟩
  | t :: r,g,g',st,hl,h=>by
    obtain ⟨h1,h2,h3⟩:=land1G_congr (st:=st) (hl t (by simp)) h
    have e:land1G (g',st) t=((land1G (g',st) t).1,(land1G (g,st) t).2):=by rw [h1]
    obtain ⟨h4,h5,h6⟩:=hlandG_congr r (st:=(land1G (g,st) t).2) (fun t ht=>hl t (by simp [ht])) h2
    simp only [hlandG]
    rw [show hlandG (land1G (g',st) t) r=hlandG ((land1G (g',st) t).1,(land1G (g,st) t).2) r by rw [← e]]
    exact ⟨h4,h5,fun q hq=>by
      simp only [List.mem_cons,not_or] at hq
      rw [h6 q hq.2,h3 q hq.1]⟩
theorem hlandG_keep:∀ (l:List Nat) {g:Nat→HV} {st:HSt} {t:Nat},isFresh (g t)=false→(hlandG (g,st) l).1 t=g t
  | [],g,st,t,h=>rfl
  | q :: r,g,st,t,h=>by
    have h1:(land1G (g,st) q).1 t=g t:=by
      by_cases hq:t=q
      · subst hq
        unfold land1G
        simp only
        split
        · rename_i cs e
          rw [e] at h
          rw [if_neg (by simpa [isFresh] using h)]
        · rename_i sz len cs e
          rw [e] at h
          rw [if_neg (by simpa [isFresh] using h)]
        · rename_i cs e;rw [e] at h;simp [isFresh] at h
        · rename_i sz len cs e;rw [e] at h;simp [isFresh] at h
        · rfl
      · exact (land1G_congr (T:=fun _=>True) (g:=g) (g':=g) (st:=st) (t:=q) trivial (fun _ _=>rfl)).2.2 t hq
    simp only [hlandG]
    rw [show land1G (g,st) q=((land1G (g,st) q).1,(land1G (g,st) q).2) from rfl,hlandG_keep r (by rw [h1];exact h),h1]
def stepGL (C:Calls') (H:HCalls) (s:GS) (o:HI):Option (HV × HSt) :=
  match evHP C (lookHG s.1) (lookPG s.1) s.2 o.op with
  | some v=>match o.dst with
    | some _=>some (v,s.2)
    | Option.none=>Option.none
  | Option.none=>evHS H (lookHG s.1) s.2 o.op
def stepG (C:Calls') (H:HCalls) (s:GS) (o:HI):Option GS :=
  match wantsG (fun t=>toP (s.1 t)) o.guard with
  | some true=>(stepGL C H (hlandG s o.op.temps) o).map fun r=>(fun t=>if o.dst=some t then r.1 else (hlandG s o.op.temps).1 t,r.2)
  | some false=>some (fun t=>if o.dst=some t then .p (.tup []) else s.1 t,s.2)
  | Option.none=>Option.none
theorem setH_get (e:HEnv) (d:Option Nat) (v:HV) (t:Nat):(setH e d v).get t=if d=some t then v else e.get t:=by
  cases d with
  | none=>simp [setH]
  | some d =>
    simp only [setH,hget_set]
    by_cases h:t=d
    · subst h;simp
    · simp [h,Ne.symm h]
theorem stepH_G {C:Calls'} {H:HCalls} {s s':HS} {o:HI} (h:stepH C H s o=some s'):stepG C H (s.1.get,s.2) o=some (s'.1.get,s'.2):=by
  unfold stepH at h
  unfold stepG
  split at h
  · rename_i hw
    obtain ⟨h1,h2⟩:=hland_G o.op.temps s
    simp only [hw]
    unfold stepHL at h
    unfold stepGL
    rw [h1,h2] at h
    split at h
    · rename_i v hv
      simp only [hv]
      split at h
      · rename_i d hd
        obtain rfl:=Option.some.inj h
        simp only [hd,Option.map_some,Option.some.injEq,Prod.mk.injEq,and_true]
        funext t
        rw [hget_set,h1]
        by_cases h:t=d
        · subst h;simp
        · simp [h,Ne.symm h]
      · cases h
    · rename_i hv
      simp only [hv]
      split at h
      · rename_i v st hs
        obtain rfl:=Option.some.inj h
        simp only [hs,Option.map_some,Option.some.injEq,Prod.mk.injEq,and_true]
        funext t
        rw [setH_get,h1]
      · cases h
  · rename_i hw
    obtain rfl:=Option.some.inj h
    simp only [hw,Option.some.injEq,Prod.mk.injEq,and_true]
    funext t
    rw [setH_get]
  · cases h
structure HCtx where
  n:Nat
  w0:World
  L0:LM
  A0:AM
  st0:HSt
def HCtx.Good (X:HCtx):Prop:=X.n ≤ HK∧HOk X.w0 X.L0 X.A0 X.st0
def HCtx.St (X:HCtx) (s:GS) (a:Act) (w:World):Prop:=∃ L A,HInv X.n w L A s.2 a s.1∧Evo X.w0 X.L0 X.A0 w L A
theorem HCtx.St.congr {X:HCtx} {g g':Nat→HV} {st:HSt} {a:Act} {w:World} (h:X.St (g,st) a w) (e:∀ t,g' t=g t):X.St (g',st) a w:=by
  obtain ⟨L,A,I,E⟩:=h
  exact ⟨L,A,I.congr e,E⟩
theorem HCtx.St.forget {X:HCtx} {g g':Nat→HV} {st:HSt} {a:Act} {w:World} (h:X.St (g,st) a w) (e:∀ t,g' t=g t ∨ g' t = .p .none):X.St (g',st) a w:=by
  obtain ⟨L,A,I,E⟩:=h
  exact ⟨L,A,I.forget e,E⟩
theorem HCtx.St.drew {X:HCtx} (hX:X.Good) {s:GS} {a:Act} {w:World} (h:X.St s a w):X.St s a w.drew:=by
  obtain ⟨L,A,I,E⟩:=h
  obtain ⟨I1,E1⟩:=I.drew hX.1
  exact ⟨L,A,I1,E.tr hX.2 E1⟩
theorem HCtx.St.land1 {X:HCtx} (hX:X.Good) {s:GS} {a:Act} {w:World} (h:X.St s a w) (t:Nat):X.St (land1G s t) a w:=by
  obtain ⟨L,A,I,E⟩:=h
  by_cases ht:t < X.n
  · let e : HEnv:=(List.range X.n).map fun i=>(i,s.1 i)
    have he:∀ i,e.get i=s.1 i:=fun i=>by
      have key:∀ (l:List Nat) (f:Nat→HV),HEnv.get (l.map fun i=>(i,f i)) i=if i ∈ l then f i else .p .none:=fun l f=>by
        induction l with
        | nil=>simp [HEnv.get]
        | cons x l ih =>
          simp only [List.map_cons,HEnv.get,ih,List.mem_cons]
          by_cases h:i=x
          · subst h;simp
          · simp [h]
      rw [key]
      by_cases h:i ∈ List.range X.n
      · rw [if_pos h]
      · rw [if_neg h,I.dom i (by simpa using h)]
    obtain ⟨L1,A1,I1,E1⟩:=land1_sound (e:=e) (st:=s.2) (I.congr he) hX.1 t
    obtain ⟨h1,h2⟩:=land1_G (e,s.2) t
    rw [h1,h2] at I1
    have hee:e.get=s.1:=funext he
    simp only [hee] at I1
    exact ⟨L1,A1,I1,E.tr hX.2 E1⟩
  · have:land1G s t=s:=by
      unfold land1G
      rw [I.dom t (by omega)]
    rw [this];exact ⟨L,A,I,E⟩
theorem HCtx.St.land {X:HCtx} (hX:X.Good) {a:Act} {w:World}:∀ (l:List Nat) {s:GS},X.St s a w→X.St (hlandG s l) a w
  | [],s,h=>h
  | t :: r,s,h=>HCtx.St.land hX r (h.land1 hX t)
def trHI (P:Program) (okD:Nat→Bool) (ops:Array Oper) (o:Oper) (bar:Bool × List Nat):Option HI :=
  match trH P o.op,trG ops o.guard with
  | some x,some g=>if dstH x o.dst && dstOk okD o.dst then some ⟨o.dst,x,g,bar.1,bar.2⟩ else Option.none
  | _,_=>Option.none
theorem trHI_some {P:Program} {okD:Nat→Bool} {ops:Array Oper} {o:Oper} {bar:Bool × List Nat} {x:HI} (h:trHI P okD ops o bar=some x) :
    trH P o.op=some x.op∧trG ops o.guard=some x.guard∧x.dst=o.dst∧x.bar=bar.1∧(∀ d,o.dst=some d→okD d=true)∧dstH x.op o.dst=true:=by
  unfold trHI at h
  split at h
  · rename_i y g h1 h2
    split at h
    · rename_i hc
      simp only [Bool.and_eq_true] at hc
      obtain rfl:=Option.some.inj h
      refine ⟨h1,h2,rfl,rfl,fun d hd=>by have:=hc.2;rw [hd] at this;exact this,hc.1⟩
    · cases h
  · cases h
section
variable {P:Program} {X:HCtx} {a:Act} {w:World} {o:Oper} {ops:Array Oper} {Q:Exit→Act→World→Prop} {C:Calls'} {H:HCalls} {okD:Nat→Bool}
theorem St_step {s':GS} (hX:X.Good) {L:LM} {A:AM} (I:HOk X.w0 X.L0 X.A0 X.st0) (E:Evo X.w0 X.L0 X.A0 w L A) (h:HStep P X.n o a w L A s'.1 s'.2 Q):o.wp P a w (fun a' w'=>X.St s' a' w') Q :=
  Oper.wp_mono (fun a' w' hh=>by
    obtain ⟨L',A',I',E'⟩:=hh
    exact ⟨L',A',I',E.tr I E'⟩) h
theorem stepG_sound (hX:X.Good) (hC:CallOk P C) (hH:HCallOk P H) (hok:∀ d,okD d=true→d < X.n) {s s':GS} (S:X.St s a w) {bar:Bool × List Nat} {x:HI} (ht:trHI P okD ops o bar=some x) (h:stepG C H s x=some s') :
    (Region.wanted o (yielded ops a.tmps)=true∧o.wp P a w (fun a' w'=>X.St s' a' w') Q) ∨ (Region.wanted o (yielded ops a.tmps)=false∧X.St s' (a.put o.dst undef) w):=by
  obtain ⟨h1,h2,h3,h4,h5,h6⟩:=trHI_some ht
  have hd:∀ d,o.dst=some d→d < X.n:=fun d hd=>hok d (h5 d hd)
  unfold stepG at h
  split at h
  · rename_i hw
    have hwant:Region.wanted o (yielded ops a.tmps)=true:=by
      obtain ⟨L,A,I,E⟩:=S
      exact wants_sound (o:=o) (ops:=ops) I.inv h2 (b:=true) hw
    refine .inl ⟨hwant,?_⟩
    obtain ⟨L,A,I,E⟩:=S.land hX x.op.temps
    simp only [Option.map_eq_some_iff] at h
    obtain ⟨⟨v,st⟩,hv,rfl⟩:=h
    unfold stepGL at hv
    split at hv
    · rename_i v' hev
      split at hv
      · rename_i d hxd
        simp only [Option.some.injEq,Prod.mk.injEq] at hv
        obtain ⟨rfl,rfl⟩:=hv
        rw [h3] at hxd
        have:=evHP_step (Q:=Q) hC I hX.1 h1 hxd (hd d hxd) hev
        rw [h3]
        exact St_step hX hX.2 E (this.dst hxd)
      · cases hv
    · have:=evHS_step (Q:=Q) I hX.1 hd hH h1 h6 hv
      rw [h3]
      exact St_step hX hX.2 E this
  · rename_i hw
    obtain ⟨L,A,I,E⟩:=S
    have hwant:=wants_sound (o:=o) (ops:=ops) I.inv h2 (b:=false) hw
    refine .inr ⟨hwant,?_⟩
    obtain rfl:=Option.some.inj h
    rw [h3]
    cases ho:o.dst with
    | none =>
      refine ⟨L,A,?_,E⟩
      have:a.put Option.none undef=a:=by simp [Act.put]
      rw [this]
      exact I.congr fun t=>by simp
    | some d =>
      refine ⟨L,A,?_,E⟩
      exact (I.put hX.1 (hd d ho) I.ok (.refl _ _ _) (.refl _ _ _) (.inl (.p _ _ rfl (.tup _ [] _ rfl (by simp))))).congr fun t=>by
        by_cases h:t=d
        · subst h;simp
        · simp [h,Ne.symm h]
  · cases h
def trHIs (P:Program) (okD:Nat→Bool) (ops:Array Oper) (bars:Nat→Bool × List Nat):Nat→List Oper→Option (List HI)
  | _,[]=>some []
  | i,o :: r=>match trHI P okD ops o (bars i),trHIs P okD ops bars (i + 1) r with
    | some x,some xs=>some (x :: xs)
    | _,_=>Option.none
theorem stepsH_sound (hX:X.Good) (hC:CallOk P C) (hH:HCallOk P H) (hok:∀ d,okD d=true→d < X.n) {bars:Nat→Bool × List Nat}:∀ (l:List Oper) (i:Nat) (xs:List HI) (s s':HS) (a:Act) (w:World),trHIs P okD ops bars i l=some xs→stepsH C H s xs=some s' → X.St (s.1.get,s.2) a w →
    (∀ a' w',X.St (s'.1.get,s'.2) a' w' → Q .normal a' w')→wpList P ops Q l a w
  | [],i,xs,s,s',a,w,ht,h,S,hQ=>by
    simp only [trHIs,Option.some.injEq] at ht
    subst ht
    simp only [stepsH,Option.some.injEq] at h
    subst h
    exact hQ _ _ S
  | o :: l,i,xs,s,s',a,w,ht,h,S,hQ=>by
    simp only [trHIs] at ht
    split at ht
    · rename_i x ys hx hys
      obtain rfl:=Option.some.inj ht
      simp only [stepsH] at h
      split at h
      · rename_i s1 h1
        simp only [wpList]
        rcases stepG_sound (Q:=Q) hX hC hH hok S hx (stepH_G h1) with ⟨hw,hs⟩ | ⟨hw,hs⟩
        · rw [if_pos hw]
          exact .inl (Oper.wp_mono (fun a' w' hh=>stepsH_sound hX hC hH hok l (i + 1) ys s1 s' a' w' hys h hh hQ) hs)
        · rw [if_neg (by rw [hw];simp)]
          exact stepsH_sound hX hC hH hok l (i + 1) ys s1 s' _ w hys h hs hQ
      · cases h
    · cases ht
end
end Go.Ab
namespace Go.Ab
open Go
set_option linter.unusedVariables false
set_option linter.unusedSimpArgs false
def HOp.reads:HOp→Bool
  | .x (.load ..)=>true
  | _=>false
def HI.temps (x:HI):List Nat:=(match x.guard with | some (d,_)=>[d] | Option.none=>[]) ++ x.op.temps
def dstAtH (xs:List HI) (j:Nat):Option Nat:=(xs[j]?).bind (·.dst)
def drawOkH (ops:List Oper) (xs:List HI):Bool :=
  let B:=masksGo ops []
  (List.range ops.length).all fun i =>
    match ops[i]?,xs[i]? with
    | some o,some x =>
      (B.getD i 0 == maskE B o) && o.after.toList.all (fun e=>!Region.binds .any e || decide (e.on < i)) &&
      (List.range i).all (fun j=>match xs[j]? with
        | some y =>
          (match x.dst with | some d=>dstAtH xs j != some d | Option.none=>true) &&
          ((x.temps.all fun t=>y.dst != some t || (B.getD i 0).testBit j) && (y.temps.all fun t=>x.dst != some t || (B.getD i 0).testBit j)) &&
          (if x.bar then !(y.bar || (y.op.reads && !y.loose.contains i)) || (B.getD i 0).testBit j else !(x.op.reads && y.bar && !x.loose.contains j) || (B.getD i 0).testBit j) &&
          (if x.bar && !y.bar then x.op.temps.all fun t=>!y.temps.contains t || !((List.range ops.length).any fun k=>dstAtH xs k == some t) || (B.getD i 0).testBit j else true) &&
          (if !x.bar && y.bar then y.op.temps.all fun t=>!x.temps.contains t || !((List.range ops.length).any fun k=>dstAtH xs k == some t) || (B.getD i 0).testBit j else true)
        | Option.none=>false) &&
      (x.bar || x.dst.isSome)
    | _,_=>false
structure HHint where
  keep:List Nat
  bars:List (Bool × List Nat)
  bad:Bool:=false
def HC.no:HC:=.cond (.k .none) .skip .skip []
def trHC (P:Program) (okD:Nat→Bool):Code→List HHint→Option (HC × List HHint)
  | .skip,hs=>some (.skip,hs)
  | .region _ ops draw,h :: hs =>
    if h.bad=true then some (.no,hs) else
    match trHIs P okD ops (fun i=>h.bars.getD i (false,[])) 0 ops.toList with
    | some xs=>if (!draw || drawOkH ops.toList xs)=true then some (.reg xs draw h.keep,hs) else Option.none
    | Option.none=>Option.none
  | .seq a b,hs=>(trHC P okD a hs).bind fun r=>(trHC P okD b r.2).map fun q=>(.seq r.1 q.1,q.2)
  | .cond c a b,hs=>(trO c).bind fun c'=>(trHC P okD a hs).bind fun r=>(trHC P okD b r.2).bind fun q=>match q.2 with
    | h :: hs'=>some (.cond c' r.1 q.1 h.keep,hs')
    | []=>Option.none
  | .block id b,hs=>(trHC P okD b hs).bind fun r=>match r.2 with
    | h :: hs'=>some (.block id r.1 h.keep,hs')
    | []=>Option.none
  | .loop b,hs=>(trHC P okD b hs).bind fun r=>match r.2 with
    | h :: hs'=>some (.loop r.1 h.keep,hs')
    | []=>Option.none
  | .exit id,h :: hs=>some (.exit id h.keep,hs)
  | .ret,hs=>some (.ret,hs)
  | _,_=>Option.none
section
variable {P:Program} {X:HCtx} {C:Calls'} {H:HCalls} {okD:Nat→Bool}
def DrawOkH (P:Program) (X:HCtx) (C:Calls') (H:HCalls) (okD:Nat→Bool):Prop :=
  ∀ (ops:Array Oper) (xs:List HI) (bars:Nat→Bool × List Nat) (s s':HS) (a:Act) (w:World) (Q:Exit→Act→World→Prop),trHIs P okD ops bars 0 ops.toList=some xs→drawOkH ops.toList xs=true→regHD C H s xs=some s' → X.St (s.1.get,s.2) a w →
    (∀ a' w',X.St (s'.1.get,s'.2) a' w' → Q .normal a' w')→wpAny P .any ops Q ops.size (Array.replicate ops.size false) a w
theorem fgtH_some {k:List Nat} {x:Option (Ex × HS)} {ex:Ex} {s':HS} (h:fgtH k x=some (ex,s')):∃ s1,x=some (ex,s1)∧(ex = .norm→s' = (s1.1.keep k,s1.2))∧(ex ≠ .norm→s' = s1):=by
  unfold fgtH at h
  split at h
  · rename_i e
    simp only [Option.some.injEq,Prod.mk.injEq] at h
    obtain ⟨rfl,rfl⟩:=h
    exact ⟨e,rfl,fun _=>rfl,fun hn=>absurd rfl hn⟩
  · rename_i hno
    exact ⟨s',h,fun hn=>absurd (hn ▸ h) (hno _),fun _=>rfl⟩
theorem HCtx.St.keepK {s:HS} {a:Act} {w:World} (h:X.St (s.1.get,s.2) a w) (k:List Nat):X.St ((s.1.keep k).get,s.2) a w:=h.forget fun t=>by
  rw [hget_keep]
  by_cases hk:k.contains t=true
  · exact .inl (by simp only [hk,if_true])
  · exact .inr (by simp only [hk];rfl)
theorem HCtx.St.fgtK {k:List Nat} {ex:Ex} {s1 s':HS} {a:Act} {w:World} (h:X.St (s1.1.get,s1.2) a w) (h1:ex = .norm→s' = (s1.1.keep k,s1.2)) (h2:ex ≠ .norm→s' = s1):X.St (s'.1.get,s'.2) a w:=by
  by_cases hn:ex = .norm
  · rw [h1 hn];exact h.keepK k
  · rw [h2 hn];exact h
theorem evHC_sound (hX:X.Good) (hC:CallOk P C) (hH:HCallOk P H) (hm:P.follows .mixedOrders=true) (hok:∀ d,okD d=true→d < X.n) (hD:DrawOkH P X C H okD) :
    ∀ (fuel:Nat) (c:Code) (hs hs':List HHint) (xc:HC) (s s':HS) (ex:Ex) (a:Act) (w:World) (Q:Exit→Act→World→Prop),trHC P okD c hs=some (xc,hs')→evHC C H fuel xc s=some (ex,s')→X.St (s.1.get,s.2) a w →
      (∀ a' w',X.St (s'.1.get,s'.2) a' w' → Q (exOf ex) a' w')→c.wp P Q a w ∧ ∀ b,c = .loop b→LoopWp P b Q a w
  | 0,c,hs,hs',xc,e,e',ex,a,w,Q,ht,h,S,hQ=>by simp [evHC] at h
  | fuel + 1, c,hs,hs',xc,e,e',ex,a,w,Q,ht,h,S,hQ=>by
    have ih:=evHC_sound hX hC hH hm hok hD fuel
    cases c <;> try simp only [trHC] at ht
    case skip =>
      simp only [Option.some.injEq,Prod.mk.injEq] at ht
      obtain ⟨rfl,rfl⟩:=ht
      simp only [evHC,Option.some.injEq,Prod.mk.injEq] at h
      obtain ⟨rfl,rfl⟩:=h
      exact ⟨wp_skip (hQ _ _ S),fun b hb=>by cases hb⟩
    case region id ops draw =>
      refine ⟨?_,fun b hb=>by cases hb⟩
      cases hs with
      | nil=>cases ht
      | cons hh hs =>
        simp only [trHC] at ht
        split at ht
        · simp only [Option.some.injEq,Prod.mk.injEq] at ht
          obtain ⟨rfl,rfl⟩:=ht
          simp [evHC,HC.no,lookHG,fgtH] at h
        split at ht
        · rename_i xs hxs
          split at ht
          · rename_i hdr
            simp only [Option.some.injEq,Prod.mk.injEq] at ht
            obtain ⟨rfl,rfl⟩:=ht
            simp only [evHC,Option.map_eq_some_iff,Prod.mk.injEq] at h
            obtain ⟨e1,h1,rfl,rfl⟩:=h
            have hQ':∀ a' w',X.St (e1.1.get,e1.2) a' w' → Q .normal a' w':=fun a' w' S'=>hQ a' w' (S'.keepK hh.keep)
            cases draw with
            | false =>
              simp only [Bool.false_eq_true,if_false] at h1
              exact wp_region_list (stepsH_sound hX hC hH hok ops.toList 0 xs e e1 a w hxs h1 S hQ')
            | true =>
              simp only [if_true] at h1
              simp only [Bool.not_true,Bool.false_or] at hdr
              exact wp_region_any hm (hD ops xs _ e e1 a _ Q hxs hdr h1 (S.drew hX) hQ')
          · cases ht
        · cases ht
    case seq x y =>
      refine ⟨?_,fun b hb=>by cases hb⟩
      simp only [Option.bind_eq_some_iff,Option.map_eq_some_iff] at ht
      obtain ⟨⟨x',h1⟩,hx,⟨y',h2⟩,hy,h3⟩:=ht
      simp only [Prod.mk.injEq] at h3
      obtain ⟨rfl,rfl⟩:=h3
      simp only [evHC] at h
      split at h
      · rename_i e1 he1
        exact wp_seq (ih x _ _ _ _ _ _ a w _ hx he1 S fun a' w' S'=>(ih y _ _ _ _ _ _ a' w' Q hy h S' hQ).1).1
      · rename_i hno
        refine wp_seq (ih x _ _ _ _ _ _ a w _ hx h S fun a' w' S'=>?_).1
        cases ex with
        | norm=>exact absurd h (hno _)
        | exit id=>exact hQ _ _ S'
        | ret=>exact hQ _ _ S'
    case cond c x y =>
      refine ⟨?_,fun b hb=>by cases hb⟩
      simp only [Option.bind_eq_some_iff] at ht
      obtain ⟨c',hc,⟨x',h1⟩,hx,⟨y',h2⟩,hy,h3⟩:=ht
      split at h3
      case h_2=>cases h3
      rename_i hh hs2 heq
      simp only at heq;subst heq
      simp only [Option.some.injEq,Prod.mk.injEq] at h3
      obtain ⟨rfl,rfl⟩:=h3
      simp only [evHC] at h
      obtain ⟨e1,h,hk1,hk2⟩:=fgtH_some h
      have hb:∀ b,lookHG e.1.get c' = .p (.bool b)→a.eval c = .bool b:=fun b hb=>by
        obtain ⟨L,A,I,_⟩:=S
        exact bool_of (I.look hc) hb
      split at h
      · rename_i hl;exact wp_cond_true (hb _ hl) (ih x _ _ _ _ _ _ a w Q hx h S fun a' w' S'=>hQ _ _ (S'.fgtK hk1 hk2)).1
      · rename_i hl;exact wp_cond_false (hb _ hl) (ih y _ _ _ _ _ _ a w Q hy h S fun a' w' S'=>hQ _ _ (S'.fgtK hk1 hk2)).1
      · cases h
    case block id x =>
      refine ⟨?_,fun b hb=>by cases hb⟩
      simp only [Option.bind_eq_some_iff] at ht
      obtain ⟨⟨x',h1⟩,hx,h3⟩:=ht
      split at h3
      case h_2=>cases h3
      rename_i hh hs2 heq
      simp only at heq;subst heq
      simp only [Option.some.injEq,Prod.mk.injEq] at h3
      obtain ⟨rfl,rfl⟩:=h3
      simp only [evHC] at h
      obtain ⟨e2,h,hk1,hk2⟩:=fgtH_some h
      split at h
      · rename_i id' e1 he1
        refine wp_block (ih x _ _ _ _ _ _ a w _ hx he1 S fun a' w' S'=>?_).1
        split at h
        · rename_i hid
          simp only [Option.some.injEq,Prod.mk.injEq] at h
          obtain ⟨rfl,rfl⟩:=h
          simp only [exOf,Exit.inBlock,hid,if_true]
          exact hQ _ _ (S'.fgtK hk1 hk2)
        · rename_i hid
          simp only [Option.some.injEq,Prod.mk.injEq] at h
          obtain ⟨rfl,rfl⟩:=h
          simp only [exOf,Exit.inBlock,hid,if_false]
          exact hQ _ _ (S'.fgtK hk1 hk2)
      · rename_i hno
        refine wp_block (ih x _ _ _ _ _ _ a w _ hx h S fun a' w' S'=>?_).1
        cases ex with
        | norm=>exact hQ _ _ (S'.fgtK hk1 hk2)
        | exit id=>exact absurd h (hno _ _)
        | ret=>exact hQ _ _ (S'.fgtK hk1 hk2)
    case loop x =>
      have ht0:=ht
      simp only [Option.bind_eq_some_iff] at ht
      obtain ⟨⟨x',h1⟩,hx,h3⟩:=ht
      split at h3
      case h_2=>cases h3
      rename_i hh hs2 heq
      simp only at heq;subst heq
      simp only [Option.some.injEq,Prod.mk.injEq] at h3
      obtain ⟨rfl,rfl⟩:=h3
      have key:LoopWp P x Q a w:=by
        simp only [evHC] at h
        split at h
        · rename_i e1 he1
          obtain ⟨e2,he2,hk1,hk2⟩:=fgtH_some he1
          refine LoopWp.round (ih x _ _ _ _ _ _ a w _ hx he2 S fun a' w' S'=>?_).1
          exact (ih (.loop x) hs hs2 (.loop x' hh.keep) _ _ _ a' w' Q ht0 h (S'.fgtK hk1 hk2) hQ).2 x rfl
        · rename_i hno
          obtain ⟨e2,he2,hk1,hk2⟩:=fgtH_some h
          refine LoopWp.round (ih x _ _ _ _ _ _ a w _ hx he2 S fun a' w' S'=>?_).1
          cases ex with
          | norm=>exact absurd h (hno _)
          | exit id=>exact hQ _ _ (S'.fgtK hk1 hk2)
          | ret=>exact hQ _ _ (S'.fgtK hk1 hk2)
      exact ⟨key.wp,fun b hb=>by cases hb;exact key⟩
    case exit id =>
      refine ⟨?_,fun b hb=>by cases hb⟩
      cases hs with
      | nil=>simp [trHC] at ht
      | cons hh hs =>
        simp only [trHC,Option.some.injEq,Prod.mk.injEq] at ht
        obtain ⟨rfl,rfl⟩:=ht
        simp only [evHC,Option.some.injEq,Prod.mk.injEq] at h
        obtain ⟨rfl,rfl⟩:=h
        exact wp_exit (hQ _ _ (S.keepK _))
    case ret =>
      simp only [Option.some.injEq,Prod.mk.injEq] at ht
      obtain ⟨rfl,rfl⟩:=ht
      simp only [evHC,Option.some.injEq,Prod.mk.injEq] at h
      obtain ⟨rfl,rfl⟩:=h
      exact ⟨wp_ret (hQ _ _ S),fun b hb=>by cases hb⟩
    all_goals (cases ht)
end
end Go.Ab
namespace Go.Ab
open Go
set_option linter.unusedVariables false
set_option linter.unusedSimpArgs false
theorem fillH_congr {L L':XO→HV}:∀ (ps:List (Nat × Nat × XO)) (cs:List HV),(∀ x ∈ partsO ps,L x=L' x)→fillH L cs ps=fillH L' cs ps
  | [],cs,_=>rfl
  | (off,sz,x) :: r,cs,h=>by
    have h1:=h x (by simp [partsO])
    have h2:∀ cs,fillH L cs r=fillH L' cs r:=fun cs=>fillH_congr r cs fun y hy=>h y (by simp [partsO,hy])
    simp only [fillH,h1,h2]
theorem evHX_congr {st:HSt} {L L':XO→HV} {x:XOp} (h:∀ y ∈ x.opds,L y=L' y):evHX L st x=evHX L' st x:=by
  cases x <;> simp only [XOp.opds] at h
  case build z ps=>simp only [evHX,fillH_congr ps _ h]
  case slc sz y lo hi =>
    have h1:=h y (by simp)
    have h2:∀ n d,bnd (fun y=>toP (L y)) n lo d=bnd (fun y=>toP (L' y)) n lo d:=fun n d=>bnd_congr fun z hz=>by
      rw [h z (by simp [hz])]
    have h3:∀ n d,bnd (fun y=>toP (L y)) n hi d=bnd (fun y=>toP (L' y)) n hi d:=fun n d=>bnd_congr fun z hz=>by rw [h z (by simp [hz])]
    simp only [evHX,h1,h2,h3]
  case mkfn f as =>
    have h1:as.map L=as.map L':=List.map_congr_left h
    simp only [evHX,h1]
  all_goals first
    | (simp only [evHX];done)
    | (have h1:=h _ (by simp);simp only [evHX,h1];done)
    | (simp only [List.mem_cons,List.not_mem_nil,or_false,forall_eq_or_imp,forall_eq] at h;simp only [evHX,h];done)
theorem evHV_congr {st:HSt} {L L':XO→HV} {x:HOp} (h:∀ y ∈ x.opds,L y=L' y):evHV L st x=evHV L' st x:=by
  cases x with
  | x o=>simp only [evHV];exact evHX_congr h
  | bm f cs =>
    have h1:cs.map L=cs.map L':=List.map_congr_left h
    simp only [evHV,h1]
  | copy sz d s=>simp only [evHV]
  | snil neg y=>have h1:=h y (by simp [HOp.opds]);simp only [evHV,h1]
  | slc0 y=>have h1:=h y (by simp [HOp.opds]);simp only [evHV,h1]
theorem evHS_congr {H:HCalls} {st:HSt} {L L':XO→HV} {x:HOp} (h:∀ y ∈ x.opds,L y=L' y):evHS H L st x=evHS H L' st x:=by
  cases x with
  | x o =>
    cases o <;> simp only [HOp.opds,XOp.opds] at h
    case call f as ms =>
      have h1:as.map L=as.map L':=List.map_congr_left h
      simp only [evHS,h1]
    case callv f as =>
      have h1:as.map L=as.map L':=List.map_congr_left fun y hy=>h y (by simp [hy])
      have h2:=h f (by simp)
      simp only [evHS,h1,h2]
    all_goals first
      | (simp only [evHS];done)
      | (have h1:=h _ (by simp);simp only [evHS,h1];done)
      | (simp only [List.mem_cons,List.not_mem_nil,or_false,forall_eq_or_imp,forall_eq] at h;simp only [evHS,h];done)
  | bm f cs=>simp only [evHS]
  | copy sz d s =>
    have h1:=h d (by simp [HOp.opds])
    have h2:=h s (by simp [HOp.opds])
    simp only [evHS,h1,h2]
  | snil neg y=>simp only [evHS]
  | slc0 y=>simp only [evHS]
theorem evHN_congr {L L':XO→HV} {x:XOp} (h:∀ y ∈ x.opds,L y=L' y):evHN L x=evHN L' x:=by
  cases x <;> first | rfl | skip
  case box y=>have h1:=h y (by simp [XOp.opds]);simp only [evHN,h1]
  case bsl sz len z ps=>simp only [evHN,fillH_congr ps _ h]
theorem evHP_congr {C:Calls'} {st:HSt} {L L':XO→HV} {LP LP':XO→PV} {x:HOp} (h:∀ y ∈ x.opds,L y=L' y) (h':∀ y ∈ x.opds,LP y=LP' y):evHP C L LP st x=evHP C L' LP' st x:=by
  cases x with
  | x o =>
    have e1:evP C LP (fun _ _=>.none) o=evP C LP' (fun _ _=>.none) o:=evP_congr h'
    have e2:evHX L st o=evHX L' st o:=evHX_congr h
    have e3:evHN L o=evHN L' o:=evHN_congr h
    simp only [evHP,e1,e2,e3]
  | bm f cs=>simp only [evHP];exact evHV_congr h
  | copy sz d s=>simp only [evHP];exact evHV_congr h
  | snil neg y=>simp only [evHP];exact evHV_congr h
  | slc0 y=>simp only [evHP];exact evHV_congr h
theorem evHP_store {C:Calls'} {st st':HSt} {L:XO→HV} {LP:XO→PV} {x:HOp} (h:readAt st L x=readAt st' L x):evHP C L LP st x=evHP C L LP st' x:=by
  cases x with
  | x o =>
    have e:evHX L st o=evHX L st' o:=by
      cases o <;> first | rfl | exact h
    simp only [evHP,e]
  | _=>rfl
theorem readAt_none {st:HSt} {L:XO→HV} {x:HOp} (h:x.reads=false):readAt st L x=Option.none:=by
  cases x with
  | x o=>cases o <;> first | rfl | (simp [HOp.reads] at h;done)
  | _=>rfl
mutual
theorem eqPV_eq:∀ (a b:PV),eqPV a b=true→a=b
  | .none,b,h=>by cases b <;> simp [eqPV] at h;rfl
  | .bool a,b,h=>by cases b <;> simp [eqPV] at h;rw [h]
  | .int k a,b,h=>by cases b <;> simp [eqPV] at h;rw [h.1,h.2]
  | .str a,b,h=>by cases b <;> simp [eqPV] at h;rw [h]
  | .nilp,b,h=>by cases b <;> simp [eqPV] at h;rfl
  | .nils,b,h=>by cases b <;> simp [eqPV] at h;rfl
  | .nilf,b,h=>by cases b <;> simp [eqPV] at h;rfl
  | .ref ..,b,h=>by simp [eqPV] at h
  | .view ..,b,h=>by simp [eqPV] at h
  | .box _,b,h=>by simp [eqPV] at h
  | .own ..,b,h=>by simp [eqPV] at h
  | .sl n cs,b,h=>by cases b <;> simp [eqPV] at h;rw [h.1,eqPVL_eq _ _ h.2]
  | .sp cs,b,h=>by cases b <;> simp [eqPV] at h;rw [eqPVL_eq _ _ h]
  | .agg cs,b,h=>by cases b <;> simp [eqPV] at h;rw [eqPVL_eq _ _ h]
  | .tup cs,b,h=>by cases b <;> simp [eqPV] at h;rw [eqPVL_eq _ _ h]
  | .fn f cs,b,h=>by cases b <;> simp [eqPV] at h;rw [h.1,eqPVL_eq _ _ h.2]
theorem eqPVL_eq:∀ (a b:List PV),eqPVL a b=true→a=b
  | [],b,h=>by cases b <;> simp [eqPVL] at h;rfl
  | c :: cs,b,h=>by cases b <;> simp [eqPVL] at h;rw [eqPV_eq _ _ h.1,eqPVL_eq _ _ h.2]
end
mutual
theorem eqHV_eq:∀ (a b:HV),eqHV a b=true→a=b
  | .p a,b,h=>by cases b <;> simp [eqHV] at h;rw [eqPV_eq _ _ h]
  | .ptr a i,b,h=>by cases b <;> simp [eqHV] at h;rw [h.1,h.2]
  | .row a o n z,b,h=>by cases b <;> simp [eqHV] at h;obtain ⟨⟨⟨h1,h2⟩,h3⟩,h4⟩:=h;rw [h1,h2,h3,h4]
  | .mp a,b,h=>by cases b <;> simp [eqHV] at h;rw [h]
  | .nilm,b,h=>by cases b <;> simp [eqHV] at h;rfl
  | .agg cs,b,h=>by cases b <;> simp [eqHV] at h;rw [eqHVL_eq _ _ h]
  | .tup cs,b,h=>by cases b <;> simp [eqHV] at h;rw [eqHVL_eq _ _ h]
  | .fn f cs,b,h=>by cases b <;> simp [eqHV] at h;rw [h.1,eqHVL_eq _ _ h.2]
  | .bm f cs,b,h=>by cases b <;> simp [eqHV] at h;rw [h.1,eqHVL_eq _ _ h.2]
theorem eqHVL_eq:∀ (a b:List HV),eqHVL a b=true→a=b
  | [],b,h=>by cases b <;> simp [eqHVL] at h;rfl
  | c :: cs,b,h=>by cases b <;> simp [eqHVL] at h;rw [eqHV_eq _ _ h.1,eqHVL_eq _ _ h.2]
end
theorem eqHO_eq {a b:Option HV} (h:eqHO a b=true):a=b:=by
  unfold eqHO at h
  split at h
  · rw [eqHV_eq _ _ h]
  · rfl
  · cases h
theorem looks_of {g g':Nat→HV} {x:HOp} (h:∀ t ∈ x.temps,g t=g' t):(∀ y ∈ x.opds,lookHG g y=lookHG g' y) ∧ ∀ y ∈ x.opds,lookPG g y=lookPG g' y:=by
  have key:∀ y ∈ x.opds,∀ n,y = .t n→g n=g' n:=fun y hy n e=>by
    subst e;exact h n (tempsO_mem hy)
  refine ⟨fun y hy=>?_,fun y hy=>?_⟩
  · cases y with
    | t n=>simp only [lookHG,key _ hy n rfl]
    | k v=>rfl
    | f n=>rfl
  · exact lookG_congr fun n hn=>by rw [key y hy n hn]
theorem wantsG_congr {g g':Nat→HV} {q:Option (Nat × Bool)} (h:∀ d b,q=some (d,b)→g d=g' d):wantsG (fun t=>toP (g t)) q=wantsG (fun t=>toP (g' t)) q:=by
  cases q with
  | none=>rfl
  | some q=>obtain ⟨d,b⟩:=q;simp only [wantsG,h d b rfl]
theorem HI.temps_guard {x:HI} {d:Nat} {b:Bool} (h:x.guard=some (d,b)):d ∈ x.temps:=by simp [HI.temps,h]
theorem HI.temps_op {x:HI} {t:Nat} (h:t ∈ x.op.temps):t ∈ x.temps:=by simp [HI.temps,h]
theorem stepG_congr {C:Calls'} {H:HCalls} {g g' h:Nat→HV} {st st':HSt} {x:HI} (hg:∀ t ∈ x.temps,g t=g' t) (hs:stepG C H (g,st) x=some (h,st')) :
    ∃ h',stepG C H (g',st) x=some (h',st')∧(∀ t,(x.dst=some t ∨ t ∈ x.op.temps)→h' t=h t) ∧ ∀ t,x.dst ≠ some t→t ∉ x.op.temps→h' t=g' t:=by
  unfold stepG at hs ⊢
  have hw:wantsG (fun t=>toP (g t)) x.guard=wantsG (fun t=>toP (g' t)) x.guard:=wantsG_congr fun d b e=>hg d (HI.temps_guard e)
  simp only [← hw]
  split at hs
  · rename_i hw1
    simp only [Option.map_eq_some_iff] at hs
    obtain ⟨⟨v,st1⟩,hv,he⟩:=hs
    simp only [Prod.mk.injEq] at he
    obtain ⟨rfl,rfl⟩:=he
    obtain ⟨e1,e2,e3⟩:=hlandG_congr (T:=fun t=>t ∈ x.op.temps) x.op.temps (g:=g) (g':=g') (st:=st) (fun t ht=>ht) fun t ht=>hg t (HI.temps_op ht)
    obtain ⟨_,_,e4⟩:=hlandG_congr (T:=fun t=>t ∈ x.op.temps) x.op.temps (g:=g') (g':=g') (st:=st) (fun t ht=>ht) fun t ht=>rfl
    have hv':stepGL C H (hlandG (g',st) x.op.temps) x=some (v,st1):=by
      unfold stepGL at hv ⊢
      obtain ⟨l1,l2⟩:=looks_of (g:=(hlandG (g,st) x.op.temps).1) (g':=(hlandG (g',st) x.op.temps).1) (x:=x.op) e2
      rw [← e1,← evHP_congr l1 l2,← evHS_congr l1]
      exact hv
    refine ⟨fun t=>if x.dst=some t then v else (hlandG (g',st) x.op.temps).1 t,by simp only [show wantsG (fun t=>toP (g t)) x.guard=some true from hw1,hv',Option.map_some],fun t ht=>?_,fun t h1 h2=>?_⟩
    · by_cases hd:x.dst=some t
      · simp only [hd,if_true]
      · simp only [hd,if_false]
        rcases ht with ht | ht
        · exact absurd ht hd
        · exact (e2 t ht).symm
    · simp only [h1,if_false];exact e4 t h2
  · rename_i hw1
    simp only [Option.some.injEq,Prod.mk.injEq] at hs
    obtain ⟨rfl,rfl⟩:=hs
    refine ⟨fun t=>if x.dst=some t then .p (.tup []) else g' t,by simp only [show wantsG (fun t=>toP (g t)) x.guard=some false from hw1],fun t ht=>?_,fun t h1 h2=>by simp only [h1,if_false]⟩
    by_cases hd:x.dst=some t
    · simp only [hd,if_true]
    · simp only [hd,if_false]
      rcases ht with ht | ht
      · exact absurd ht hd
      · exact (hg t (HI.temps_op ht)).symm
  · cases hs
theorem traceHD_spec {C:Calls'} {H:HCalls}:∀ {xs:List HI} {s:HS} {tr:List HS},traceHD C H s xs=some tr →
    ∃ (E:Nat→HS) (V:Nat→HV),E 0=s∧tr.length=xs.length + 1∧(∀ k,k ≤ xs.length→tr[k]? = some (E k))∧lastO tr=some (E xs.length) ∧ ∀ k x,xs[k]? = some x→(x.bar=true→stepH C H (E k) x=some (E (k + 1))) ∧
      (x.bar=false → ∃ d,x.dst=some d∧stepHD C (E k).2 (E k).1 x=some (d,V k)∧E (k + 1)=((E k).1.set d (V k),(E k).2))
  | [],s,tr,h=>by
    simp only [traceHD,Option.some.injEq] at h
    subst h
    refine ⟨fun _=>s,fun _=>.p .none,rfl,rfl,fun k hk=>?_,rfl,fun k x hx=>by simp at hx⟩
    simp only [List.length_nil,Nat.le_zero_eq] at hk
    subst hk;rfl
  | y :: r, s, tr,h=>by
    have lastCons:∀ (t:List HS) (z:HS),lastO t=some z→lastO (s :: t)=some z:=fun t z hz=>by
      cases t with
      | nil=>cases hz
      | cons a b=>exact hz
    simp only [traceHD] at h
    split at h
    · rename_i hb
      split at h
      · rename_i s1 h1
        simp only [Option.map_eq_some_iff] at h
        obtain ⟨t,ht,rfl⟩:=h
        obtain ⟨E,V,h0,hl,hat,hn,hs⟩:=traceHD_spec ht
        refine ⟨fun k=>match k with | 0=>s | k + 1=>E k,fun k=>match k with | 0=>.p .none | k + 1=>V k,rfl,by simp [hl],fun k hk=>?_,lastCons _ _ hn,fun k x hx=>?_⟩
        · cases k with
          | zero=>rfl
          | succ k=>simpa using hat k (by simpa using hk)
        · cases k with
          | zero =>
            simp only [List.getElem?_cons_zero,Option.some.injEq] at hx
            subst hx
            exact ⟨fun _=>by rw [h1];simp only [h0],fun h=>by rw [hb] at h;cases h⟩
          | succ k=>exact hs k x (by simpa using hx)
      · cases h
    · rename_i hb
      split at h
      · rename_i d v h1
        simp only [Option.map_eq_some_iff] at h
        obtain ⟨t,ht,rfl⟩:=h
        obtain ⟨E,V,h0,hl,hat,hn,hs⟩:=traceHD_spec ht
        refine ⟨fun k=>match k with | 0=>s | k + 1=>E k,fun k=>match k with | 0=>v | k + 1=>V k,rfl,by simp [hl],fun k hk=>?_,lastCons _ _ hn,fun k x hx=>?_⟩
        · cases k with
          | zero=>rfl
          | succ k=>simpa using hat k (by simpa using hk)
        · cases k with
          | zero =>
            simp only [List.getElem?_cons_zero,Option.some.injEq] at hx
            subst hx
            refine ⟨fun h=>absurd h hb,fun _=>⟨d,?_,h1,h0⟩⟩
            unfold stepHD at h1
            cases hd:y.dst with
            | none=>rw [hd] at h1;cases h1
            | some d' =>
              rw [hd] at h1
              simp only at h1
              split at h1
              · simp only [Option.map_eq_some_iff,Prod.mk.injEq] at h1;obtain ⟨_,_,h1,_⟩:=h1;rw [h1]
              · simp only [Option.some.injEq,Prod.mk.injEq] at h1;rw [h1.1]
              · cases h1
          | succ k=>exact hs k x (by simpa using hx)
      · cases h
theorem stableAll_at {tr:List HS}:∀ {ss:List HS} {os:List HI},stableAll tr ss os=true → ∀ (k:Nat) (s:HS) (o:HI),ss[k]? = some s→os[k]? = some o→stableOp tr s o=true
  | [],os,h,k,s,o,hs,ho=>by simp at hs
  | s0 :: ss,[],h,k,s,o,hs,ho=>by simp at ho
  | s0 :: ss,o0 :: os,h,k,s,o,hs,ho=>by
    simp only [stableAll,Bool.and_eq_true] at h
    cases k with
    | zero =>
      simp only [List.getElem?_cons_zero,Option.some.injEq] at hs ho
      subst hs;subst ho;exact h.1
    | succ k=>exact stableAll_at h.2 k s o (by simpa using hs) (by simpa using ho)
structure DrawFactsH (ops:List Oper) (xs:List HI) (B:List Nat):Prop where
  mask:∀ i o,ops[i]? = some o→B.getD i 0=maskE B o
  low:∀ i o,ops[i]? = some o → ∀ e ∈ o.after.toList,Region.binds .any e=true→e.on < i
  dst:∀ (i:Nat) (x:HI),xs[i]? = some x→x.bar=true ∨ ∃ d,x.dst=some d
  uniq:∀ i j d,j < i→i < ops.length→dstAtH xs i=some d→dstAtH xs j ≠ some d
  see:∀ (i j:Nat) (x y:HI) (t:Nat),j < i→xs[i]? = some x→xs[j]? = some y→t ∈ x.temps→y.dst=some t→(B.getD i 0).testBit j=true
  seen:∀ (i j:Nat) (x y:HI) (t:Nat),j < i→xs[i]? = some x→xs[j]? = some y→t ∈ y.temps→x.dst=some t→(B.getD i 0).testBit j=true
  row:∀ (i j:Nat) (x y:HI),j < i→xs[i]? = some x→xs[j]? = some y→x.bar=true→(y.bar=true ∨ (y.op.reads=true∧i ∉ y.loose))→(B.getD i 0).testBit j=true
  rd:∀ (i j:Nat) (x y:HI),j < i→xs[i]? = some x→xs[j]? = some y→x.bar=false→x.op.reads=true→y.bar=true→j ∉ x.loose→(B.getD i 0).testBit j=true
  both:∀ (i j:Nat) (x y:HI) (t k:Nat),j < i→xs[i]? = some x→xs[j]? = some y→x.bar=true→y.bar=false→t ∈ x.op.temps→t ∈ y.temps→k < ops.length→dstAtH xs k=some t→(B.getD i 0).testBit j=true
  both':∀ (i j:Nat) (x y:HI) (t k:Nat),j < i→xs[i]? = some x→xs[j]? = some y→x.bar=false→y.bar=true→t ∈ x.temps→t ∈ y.op.temps→k < ops.length→dstAtH xs k=some t→(B.getD i 0).testBit j=true
theorem drawOkH_facts {ops:List Oper} {xs:List HI} (h:drawOkH ops xs=true) (hlen:xs.length=ops.length):DrawFactsH ops xs (masksGo ops []):=by
  simp only [drawOkH,List.all_eq_true,List.mem_range] at h
  have at_:∀ i,i < ops.length → ∃ o x,ops[i]? = some o∧xs[i]? = some x:=fun i hi=>⟨ops[i],xs[i],by simp [hi],by simp [show i < xs.length by omega]⟩
  have lt:∀ {i x},xs[i]? = some x→i < ops.length:=fun {i x} hx=>by have:=(List.getElem?_eq_some_iff.1 hx).1;omega
  have key : ∀ i o x,ops[i]? = some o→xs[i]? = some x→((masksGo ops []).getD i 0=maskE (masksGo ops []) o)∧(∀ e ∈ o.after.toList,Region.binds .any e=true→e.on < i)∧(x.bar=true ∨ x.dst.isSome=true) ∧
      ∀ j y,j < i→xs[j]? = some y→((∀ d,x.dst=some d→dstAtH xs j ≠ some d)∧(∀ t ∈ x.temps,y.dst=some t→((masksGo ops []).getD i 0).testBit j=true)∧(∀ t ∈ y.temps,x.dst=some t→((masksGo ops []).getD i 0).testBit j=true) ∧
        (x.bar=true→(y.bar=true ∨ (y.op.reads=true∧i ∉ y.loose))→((masksGo ops []).getD i 0).testBit j=true)∧(x.bar=false→x.op.reads=true→y.bar=true→j ∉ x.loose→((masksGo ops []).getD i 0).testBit j=true) ∧
        (x.bar=true→y.bar=false → ∀ t ∈ x.op.temps,t ∈ y.temps → ∀ k,k < ops.length→dstAtH xs k=some t→((masksGo ops []).getD i 0).testBit j=true) ∧
        (x.bar=false→y.bar=true → ∀ t ∈ x.temps,t ∈ y.op.temps → ∀ k,k < ops.length→dstAtH xs k=some t→((masksGo ops []).getD i 0).testBit j=true)):=by
    intro i o x ho hx
    have:=h i (lt hx)
    rw [ho,hx] at this
    simp only [Bool.and_eq_true,beq_iff_eq,List.all_eq_true,Bool.or_eq_true,Bool.not_eq_true',decide_eq_true_eq,List.mem_range] at this
    obtain ⟨⟨⟨h1,h2⟩,h3⟩,h4⟩:=this
    refine ⟨h1,fun e he hb=>?_,h4,fun j y hj hy=>?_⟩
    · rcases h2 e he with h | h
      · rw [hb] at h;cases h
      · exact h
    · have := h3 j hj
      rw [hy] at this
      simp only [Bool.and_eq_true] at this
      obtain ⟨⟨⟨⟨h5,h6,h7⟩,h8⟩,h9⟩,h10⟩:=this
      refine ⟨fun d hd=>?_,fun t ht hd=>?_,fun t ht hd=>?_,fun hb hy'=>?_,fun hb hr hy' hl=>?_,fun hb hy' t ht ht' k hk hkd=>?_,fun hb hy' t ht ht' k hk hkd=>?_⟩
      · rw [hd] at h5;simpa using h5
      · simp only [List.all_eq_true,Bool.or_eq_true,bne_iff_ne,ne_eq] at h6
        rcases h6 t ht with h | h
        · exact absurd hd h
        · exact h
      · simp only [List.all_eq_true,Bool.or_eq_true,bne_iff_ne,ne_eq] at h7
        rcases h7 t ht with h | h
        · exact absurd hd h
        · exact h
      · rw [hb] at h8
        simp only [if_true,Bool.or_eq_true,Bool.not_eq_true',Bool.or_eq_false_iff,Bool.and_eq_false_iff,List.contains_eq_mem,Bool.not_eq_false',decide_eq_true_eq] at h8
        rcases h8 with h | h
        · rcases hy' with h' | ⟨h',h''⟩
          · rw [h.1] at h';cases h'
          · rcases h.2 with h3 | h3
            · rw [h3] at h';cases h'
            · exact absurd h3 h''
        · exact h
      · rw [hb] at h8
        simp only [Bool.false_eq_true,if_false,Bool.or_eq_true,Bool.not_eq_true',Bool.and_eq_false_iff,List.contains_eq_mem,Bool.not_eq_false',decide_eq_true_eq] at h8
        rcases h8 with ((h | h) | h) | h
        · rw [h] at hr;cases hr
        · rw [h] at hy';cases hy'
        · exact absurd h hl
        · exact h
      · rw [hb,hy'] at h9
        rw [if_pos (by simp)] at h9
        simp only [List.all_eq_true,Bool.or_eq_true,Bool.not_eq_true',List.contains_eq_mem,decide_eq_false_iff_not,List.any_eq_false,List.mem_range,beq_iff_eq] at h9
        rcases h9 t ht with (h | h) | h
        · exact absurd ht' h
        · exact absurd hkd (h k hk)
        · exact h
      · rw [hb,hy'] at h10
        rw [if_pos (by simp)] at h10
        simp only [List.all_eq_true,Bool.or_eq_true,Bool.not_eq_true',List.contains_eq_mem,decide_eq_false_iff_not,List.any_eq_false,List.mem_range,beq_iff_eq] at h10
        rcases h10 t ht' with (h | h) | h
        · exact absurd ht h
        · exact absurd hkd (h k hk)
        · exact h
  refine ⟨fun i o ho=>?_,fun i o ho=>?_,fun i x hx=>?_,fun i j d hj hi hd=>?_,fun i j x y t hj hx hy=>?_,fun i j x y t hj hx hy=>?_,fun i j x y hj hx hy=>?_,fun i j x y hj hx hy=>?_,fun i j x y t k hj hx hy hb hb' ht ht' hk hkd=>?_,fun i j x y t k hj hx hy hb hb' ht ht' hk hkd=>?_⟩
  · obtain ⟨_,x,_,hx⟩:=at_ i (List.getElem?_eq_some_iff.1 ho).1
    exact (key i o x ho hx).1
  · obtain ⟨_,x,_,hx⟩:=at_ i (List.getElem?_eq_some_iff.1 ho).1
    exact (key i o x ho hx).2.1
  · obtain ⟨o,_,ho,_⟩:=at_ i (lt hx)
    rcases (key i o x ho hx).2.2.1 with h | h
    · exact .inl h
    · exact .inr (Option.isSome_iff_exists.1 h)
  · obtain ⟨o,x,ho,hx⟩:=at_ i hi
    obtain ⟨_,y,_,hy⟩:=at_ j (by omega)
    simp only [dstAtH,hx,Option.bind_some] at hd
    exact ((key i o x ho hx).2.2.2 j y hj hy).1 d hd
  · obtain ⟨o,_,ho,_⟩:=at_ i (lt hx)
    exact fun ht=>((key i o x ho hx).2.2.2 j y hj hy).2.1 t ht
  · obtain ⟨o,_,ho,_⟩:=at_ i (lt hx)
    exact fun ht=>((key i o x ho hx).2.2.2 j y hj hy).2.2.1 t ht
  · obtain ⟨o,_,ho,_⟩:=at_ i (lt hx)
    exact ((key i o x ho hx).2.2.2 j y hj hy).2.2.2.1
  · obtain ⟨o,_,ho,_⟩:=at_ i (lt hx)
    exact ((key i o x ho hx).2.2.2 j y hj hy).2.2.2.2.1
  · obtain ⟨o,_,ho,_⟩:=at_ i (lt hx)
    exact ((key i o x ho hx).2.2.2 j y hj hy).2.2.2.2.2.1 hb hb' t ht ht' k hk hkd
  · obtain ⟨o,_,ho,_⟩:=at_ i (lt hx)
    exact ((key i o x ho hx).2.2.2 j y hj hy).2.2.2.2.2.2 hb hb' t ht ht' k hk hkd
theorem DrawFactsH.reach {ops:List Oper} {xs:List HI} {B:List Nat} (F:DrawFactsH ops xs B) {lst:Nat→Prop}
    (hcl:∀ i o,lst i→ops[i]? = some o → ∀ e ∈ o.after.toList,Region.binds .any e=true→lst e.on) :
    ∀ (k i:Nat) (o:Oper),i < k→ops[i]? = some o→(∀ e ∈ o.after.toList,Region.binds .any e=true→lst e.on) → ∀ j,(B.getD i 0).testBit j=true→lst j
  | 0,i,o,hi,_,_,j,_=>by omega
  | k + 1,i,o,hi,ho,he,j,hj=>by
    rw [F.mask i o ho] at hj
    obtain ⟨e,hm,hb,h⟩:=maskE_bit hj
    rcases h with rfl | h
    · exact he e hm hb
    · have hlow:=F.low i o ho e hm hb
      obtain ⟨hi',_⟩:=List.getElem?_eq_some_iff.1 ho
      have ho':ops[e.on]? = some (ops[e.on]'(by omega)):=by simp [show e.on < ops.length by omega]
      exact F.reach hcl k e.on _ (by omega) ho' (hcl e.on _ (he e hm hb) ho') j h
theorem trHIs_get {P:Program} {okD:Nat→Bool} {ops:Array Oper} {bars:Nat→Bool × List Nat}:∀ {l:List Oper} {i:Nat} {xs:List HI},trHIs P okD ops bars i l=some xs→xs.length=l.length ∧ ∀ k (hk:k < l.length) (hk':k < xs.length),trHI P okD ops l[k] (bars (i + k))=some xs[k]
  | [],i,xs,h=>by simp [trHIs] at h;subst h;exact ⟨rfl,fun k hk=>by simp at hk⟩
  | o :: l,i,xs,h=>by
    simp only [trHIs] at h
    split at h
    · rename_i x ys hx hys
      obtain rfl:=Option.some.inj h
      obtain ⟨h1,h2⟩:=trHIs_get hys
      refine ⟨by simp [h1],fun k hk hk'=>?_⟩
      cases k with
      | zero=>simpa using hx
      | succ k =>
        have:=h2 k (by simpa using hk) (by simpa using hk')
        rw [show i + 1 + k=i + (k + 1) by omega] at this
        simpa using this
    · cases h
end Go.Ab
namespace Go.Ab
open Go
set_option linter.unusedVariables false
set_option linter.unusedSimpArgs false
open Classical in
noncomputable def GH (n:Nat) (D:Nat→Option Nat) (V:Nat→HV) (gc g0:Nat→HV) (c:Nat) (lst:Nat→Bool) (t:Nat):HV :=
  if h:∃ k,k < n∧D k=some t then (if lst (Classical.choose h)=true then (if Classical.choose h < c then gc t else V (Classical.choose h)) else g0 t) else gc t
section
variable {n:Nat} {D:Nat→Option Nat} {V:Nat→HV} {gc g0:Nat→HV} {c:Nat} {lst:Nat→Bool}
theorem GH_at (uniq:∀ k j t,k < n→j < n→D k=some t→D j=some t→k=j) {k t:Nat} (hk:k < n) (hD:D k=some t):GH n D V gc g0 c lst t=if lst k=true then (if k < c then gc t else V k) else g0 t:=by
  have h:∃ k,k < n∧D k=some t:=⟨k,hk,hD⟩
  have e:Classical.choose h=k:=uniq _ _ t (Classical.choose_spec h).1 hk (Classical.choose_spec h).2 hD
  simp only [GH,h,dif_pos,e]
theorem GH_not {t:Nat} (h:¬ ∃ k,k < n∧D k=some t):GH n D V gc g0 c lst t=gc t:=by
  simp only [GH,h,dif_neg,not_false_iff]
end
section
variable {P:Program} {X:HCtx} {C:Calls'} {H:HCalls} {okD:Nat→Bool}
theorem stepHD_sound {ops:Array Oper} {o:Oper} {x:HI} {g:Nat→HV} {E:HEnv} {st st':HSt} {d:Nat} {v:HV} {a:Act} {w:World} {Q:Exit→Act→World→Prop} {bar:Bool × List Nat}
    (hX:X.Good) (hC:CallOk P C) (hok:∀ d,okD d=true→d < X.n) (S:X.St (g,st) a w) (ht:trHI P okD ops o bar=some x) (hag:∀ t ∈ x.temps,g t=E.get t) (hst:readAt st (lookHG E.get) x.op=readAt st' (lookHG E.get) x.op) (h:stepHD C st' E x=some (d,v)) :
    x.dst=some d∧((Region.wanted o (yielded ops a.tmps)=true∧o.wp P a w (fun a' w'=>X.St (fun t=>if t=d then v else g t,st) a' w') Q) ∨
      (Region.wanted o (yielded ops a.tmps)=false∧X.St (fun t=>if t=d then v else g t,st) (a.put o.dst undef) w)):=by
  obtain ⟨h1,h2,h3,h4,h5,h6⟩:=trHI_some ht
  have hwants:wantsG (fun t=>toP (g t)) x.guard=wantsG (fun t=>toP (E.get t)) x.guard:=wantsG_congr fun d b e=>hag d (HI.temps_guard e)
  obtain ⟨L,A,I,E0⟩:=S
  unfold stepHD at h
  split at h
  · rename_i d' hxd
    have hodst:o.dst=some d':=by rw [← h3];exact hxd
    have hdn:d' < X.n:=hok d' (h5 d' hodst)
    split at h
    · rename_i hw
      rw [← hwants] at hw
      have hwant:=wants_sound (o:=o) (ops:=ops) I.inv h2 hw
      simp only [Option.map_eq_some_iff,Prod.mk.injEq] at h
      obtain ⟨v',hv,rfl,rfl⟩:=h
      obtain ⟨l1,l2⟩:=looks_of (g:=g) (g':=E.get) (x:=x.op) fun t ht=>hag t (HI.temps_op ht)
      have hv':evHP C (lookHG g) (lookPG g) st x.op=some v':=by
        rw [evHP_congr l1 l2,evHP_store hst]
        exact hv
      exact ⟨hxd,.inl ⟨hwant,St_step (s':=(fun t=>if t=d' then v' else g t,st)) hX hX.2 E0 (evHP_step (Q:=Q) hC I hX.1 h1 hodst hdn hv')⟩⟩
    · rename_i hw
      rw [← hwants] at hw
      have hwant:=wants_sound (o:=o) (ops:=ops) I.inv h2 hw
      simp only [Option.some.injEq,Prod.mk.injEq] at h
      obtain ⟨rfl,rfl⟩:=h
      refine ⟨hxd,.inr ⟨hwant,L,A,?_,E0⟩⟩
      rw [hodst]
      exact I.put hX.1 hdn I.ok (.refl _ _ _) (.refl _ _ _) (.inl (.p _ _ rfl (.tup _ [] _ rfl (by simp))))
    · cases h
  · cases h
theorem all_fresh:∀ (e:HEnv),e.all (fun x=>!isFresh x.2)=true → ∀ t,isFresh (e.get t)=false
  | [],_,t=>rfl
  | (k,v) :: r,h,t=>by
    simp only [List.all_cons,Bool.and_eq_true,Bool.not_eq_true'] at h
    simp only [HEnv.get]
    split
    · exact h.1
    · exact all_fresh r h.2 t
theorem draw_okH (hX : X.Good) (hC:CallOk P C) (hH:HCallOk P H) (hok:∀ d,okD d=true→d < X.n):DrawOkH P X C H okD:=by
  intro ops xs bars s s' a0 w0 Q ht hdr h St0 hQ
  obtain ⟨hlen,hget⟩:=trHIs_get ht
  have F:=drawOkH_facts hdr hlen
  generalize hB:masksGo ops.toList []=B at F
  have hsz:ops.toList.length=ops.size:=by simp
  have hxl:xs.length=ops.size:=by rw [hlen];simp
  have hoat:∀ i,i < ops.size → ∃ o,ops[i]? = some o∧ops.toList[i]? = some o:=fun i hi=>⟨ops[i],by simp [hi],by simp [hi]⟩
  have hxat:∀ i,i < ops.size → ∃ x,xs[i]? = some x:=fun i hi=>⟨xs[i]'(by omega),by simp [show i < xs.length by omega]⟩
  have htr:∀ i o x,ops[i]? = some o→xs[i]? = some x→trHI P okD ops o (bars i)=some x:=fun i o x ho hx=>by
    obtain ⟨hi,rfl⟩:=List.getElem?_eq_some_iff.1 hx
    have hi2:i < ops.size:=by omega
    have:=hget i (by simpa using hi2) hi
    simp only [Nat.zero_add,Array.getElem_toList] at this
    simp only [hi2,getElem?_pos,Option.some.injEq] at ho
    rw [← ho];exact this
  unfold regHD at h
  split at h
  case isFalse=>cases h
  rename_i hfr
  have hfr:=all_fresh _ hfr
  split at h
  case h_2=>cases h
  rename_i tr htr0
  split at h
  case isFalse=>cases h
  rename_i hstab
  obtain ⟨E,V,hE0,htl,hEat,hElast,hE⟩:=traceHD_spec htr0
  have hEn:E xs.length=s':=by rw [hElast] at h;exact Option.some.inj h
  have St1:X.St ((E 0).1.get,(E 0).2) a0 w0:=by
    obtain ⟨h1,h2⟩:=hland_G (s.1.map (·.1)) s
    rw [hE0,h1,h2]
    exact HCtx.St.land hX _ St0
  rw [← hE0] at hfr
  rw [hxl] at hEn
  let isB:Nat→Bool:=fun i=>match xs[i]? with | some x=>x.bar | Option.none=>false
  have isBat:∀ {i:Nat} {x:HI},xs[i]? = some x→isB i=x.bar:=fun {i x} hx=>by simp only [isB,hx]
  let D:Nat→Option Nat:=dstAtH xs
  have Dat:∀ {i:Nat} {x:HI},xs[i]? = some x→D i=x.dst:=fun {i x} hx=>by simp only [D,dstAtH,hx,Option.bind_some]
  have uniq:∀ k j t,k < ops.size→j < ops.size→D k=some t→D j=some t→k=j:=by
    intro k j t hk hj h1 h2
    rcases Nat.lt_trichotomy k j with hlt | heq | hlt
    · exact absurd h1 (F.uniq j k t hlt (by simpa using hj) h2)
    · exact heq
    · exact absurd h2 (F.uniq k j t hlt (by simpa using hk) h1)
  have one:∀ (k t:Nat),k < ops.size→D k ≠ some t→(∀ (x:HI),xs[k]? = some x→x.bar=true→t ∈ x.op.temps→isFresh ((E k).1.get t)=false)→(E (k + 1)).1.get t=(E k).1.get t:=by
    intro k t hk hd hu
    obtain ⟨x,hx⟩:=hxat k hk
    have hd':x.dst ≠ some t:=by rw [← Dat hx];exact hd
    obtain ⟨h1,h2⟩:=hE k x hx
    cases hb:x.bar with
    | true =>
      have h3:=stepH_G (h1 hb)
      unfold stepG at h3
      split at h3
      · simp only [Option.map_eq_some_iff,Prod.mk.injEq] at h3
        obtain ⟨r,_,h4,_⟩:=h3
        rw [← h4]
        simp only [hd',if_false]
        by_cases htt:t ∈ x.op.temps
        · exact hlandG_keep _ (hu x hx hb htt)
        · exact (hlandG_congr (T:=fun _=>True) x.op.temps (g:=(E k).1.get) (g':=(E k).1.get) (st:=(E k).2) (fun _ _=>trivial) fun _ _=>rfl).2.2 t htt
      · simp only [Option.some.injEq,Prod.mk.injEq] at h3
        rw [← h3.1]
        simp only [hd',if_false]
      · cases h3
    | false =>
      obtain ⟨d,h3,_,h4⟩:=h2 hb
      rw [h4,hget_set]
      rw [h3] at hd'
      rw [if_neg fun e=>hd' (by rw [e])]
  have stay:∀ (m k t:Nat),k + m ≤ ops.size→(∀ q,k ≤ q→q < k + m→D q ≠ some t ∧ ∀ (x:HI),xs[q]? = some x→x.bar=true→t ∉ x.op.temps)→(E (k + m)).1.get t=(E k).1.get t:=by
    intro m
    induction m with
    | zero=>intro k t _ _;rfl
    | succ m ih =>
      intro k t hk hq
      rw [← Nat.add_assoc,one (k + m) t (by omega) (hq (k + m) (by omega) (by omega)).1 fun x hx hb htt=>absurd htt ((hq (k + m) (by omega) (by omega)).2 x hx hb)]
      exact ih k t (by omega) fun q h1 h2=>hq q h1 (by omega)
  have stay':∀ (k k' t:Nat),k ≤ k' → k' ≤ ops.size→(∀ q,k ≤ q→q < k' → D q ≠ some t ∧ ∀ (x:HI),xs[q]? = some x→x.bar=true→t ∉ x.op.temps)→(E k').1.get t=(E k).1.get t:=fun k k' t h1 h2 hq=>by
    have:=stay (k' - k) k t (by omega) fun q h3 h4=>hq q h3 (by omega)
    rwa [show k + (k' - k)=k' by omega] at this
  have early:∀ (k t:Nat),k ≤ ops.size→(∀ q,q < k→D q ≠ some t)→(E k).1.get t=(E 0).1.get t:=by
    intro k
    induction k with
    | zero=>intro t _ _;rfl
    | succ k ih =>
      intro t hk hq
      have h1:=ih t (by omega) fun q hq'=>hq q (by omega)
      rw [one k t (by omega) (hq k (by omega)) fun x _ _ _=>by rw [h1];exact hfr t,h1]
  have notMade:∀ (k t:Nat),k ≤ ops.size→(¬ ∃ q,q < ops.size∧D q=some t)→(E k).1.get t=(E 0).1.get t:=fun k t hk hn=>early k t hk fun q hq h=>hn ⟨q,by omega,h⟩
  have blk1:∀ k,k < ops.size→isB k=false→(E (k + 1)).2=(E k).2:=fun k hk hb=>by
    obtain ⟨x,hx⟩:=hxat k hk
    rw [isBat hx] at hb
    obtain ⟨d,_,_,h4⟩:=(hE k x hx).2 hb
    rw [h4]
  have blkS:∀ m k,k + m ≤ ops.size→(∀ q,k ≤ q→q < k + m→isB q=false)→(E (k + m)).2=(E k).2:=by
    intro m
    induction m with
    | zero=>intro k _ _;rfl
    | succ m ih =>
      intro k hk hq
      rw [← Nat.add_assoc,blk1 (k + m) (by omega) (hq _ (by omega) (by omega))]
      exact ih k (by omega) fun q h1 h2=>hq q h1 (by omega)
  have blkSame:∀ k k',k ≤ k' → k' ≤ ops.size→(∀ q,k ≤ q→q < k' → isB q=false)→(E k').2=(E k).2:=fun k k' h1 h2 hq=>by
    have:=blkS (k' - k) k (by omega) fun q h3 h4=>hq q h3 (by omega)
    rwa [show k + (k' - k)=k' by omega] at this
  have made:∀ (j t:Nat),j < ops.size→D j=some t→isB j=false→(E (j + 1)).1.get t=V j:=fun j t hj hd hb=>by
    obtain ⟨x,hx⟩:=hxat j hj
    rw [isBat hx] at hb
    obtain ⟨d,h3,_,h4⟩:=(hE j x hx).2 hb
    rw [Dat hx,h3] at hd
    rw [h4,hget_set,if_pos (Option.some.inj hd).symm]
  let G:=fun c lst=>GH ops.size D V (E c).1.get (E 0).1.get c lst
  let cnt:=fun (listed:Array Bool)=>(List.range ops.size).countP fun i=>!listed.getD i false
  have cnt_set:∀ (listed:Array Bool) (i:Nat),listed.size=ops.size→i < ops.size→listed.getD i false=false→cnt (listed.setIfInBounds i true) < cnt listed:=fun listed i hs hi hl=>by
    refine cnt_lt _ (fun k hk=>?_) (List.mem_range.2 hi) (by simp [hl]) (by rw [getD_set (by omega)];simp)
    rw [getD_set (by omega)] at hk
    split at hk
    · simp at hk
    · exact hk
  have cnt_zero:∀ (listed:Array Bool),cnt listed=0 → ∀ i,i < ops.size→listed.getD i false=true:=fun listed h0 i hi=>by
    have:=List.countP_eq_zero.1 h0 i (List.mem_range.2 hi)
    simpa using this
  have fin:∀ (listed:Array Bool) (c:Nat) (a:Act) (w:World),(∀ i,i < ops.size→listed.getD i false=true)→c ≤ ops.size→(∀ k,k < ops.size→isB k=true→(listed.getD k false=true ↔ k < c))→X.St (G c (fun j=>listed.getD j false),(E c).2) a w→Q .normal a w:=by
    intro listed c a w hall hc hcb S
    have nb:∀ q,c ≤ q→q < ops.size→isB q=false:=fun q h1 h2=>by
      cases hb:isB q
      · rfl
      · have:=(hcb q h2 hb).1 (hall q h2);omega
    rw [← hEn] at hQ
    refine hQ a w ?_
    rw [blkSame c ops.size hc (Nat.le_refl _) nb]
    refine S.congr fun t=>?_
    have useFree:∀ (k:Nat),c ≤ k → ∀ (q:Nat),k ≤ q→q < ops.size → ∀ (x:HI),xs[q]? = some x→x.bar=true→t ∉ x.op.temps:=fun k hk q h1 h2 x hx hb=>by
      have:=nb q (by omega) h2
      rw [isBat hx,hb] at this;cases this
    by_cases hx:∃ k,k < ops.size∧D k=some t
    · obtain ⟨j,hj,hd⟩:=hx
      rw [show G c (fun j=>listed.getD j false) t=_ from GH_at uniq hj hd,if_pos (hall j hj)]
      split
      · rename_i hjc
        exact stay' c ops.size t hc (Nat.le_refl _) fun q h1 h2=>⟨fun h3=>by have:=uniq q j t h2 hj h3 hd;omega,useFree c (Nat.le_refl _) q h1 h2⟩
      · rename_i hjc
        rw [← made j t hj hd (nb j (by omega) hj)]
        exact stay' (j + 1) ops.size t (by omega) (Nat.le_refl _) fun q h1 h2=>⟨fun h3=>by have:=uniq q j t h2 hj h3 hd;omega,useFree (j + 1) (by omega) q h1 h2⟩
    · rw [show G c (fun j=>listed.getD j false) t=_ from GH_not hx,notMade _ t (Nat.le_refl _) hx,notMade _ t hc hx]
  have main : ∀ (fuel : Nat) (listed:Array Bool) (c:Nat) (a:Act) (w:World),listed.size=ops.size→(∀ i o,listed.getD i false=true→ops.toList[i]? = some o → ∀ ed ∈ o.after.toList,Region.binds .any ed=true→listed.getD ed.on false=true) →
      c ≤ ops.size→(∀ k,k < ops.size→isB k=true→(listed.getD k false=true ↔ k < c))→cnt listed ≤ fuel→X.St (G c (fun j=>listed.getD j false),(E c).2) a w→wpAny P .any ops Q fuel listed a w:=by
    intro fuel
    induction fuel with
    | zero =>
      intro listed c a w hs hcl hc hcb hcnt S
      have hz:=cnt_zero listed (by omega)
      refine ⟨?_,fin listed c a w hz hc hcb S⟩
      cases hr:Region.ready .any ops listed with
      | nil=>rfl
      | cons i r =>
        have:i ∈ Region.ready .any ops listed:=by rw [hr];simp
        obtain ⟨h1,h2,_⟩:=ready_iff.1 this
        rw [getD_tf (by omega),hz i h1] at h2;cases h2
    | succ fuel ih =>
      intro listed c a w hs hcl hc hcb hcnt S
      refine ⟨fun hr=>?_,fun i hi=>?_⟩
      ·
        have hall:∀ m,m < ops.size→listed.getD m false=true:=by
          intro m
          induction m using Nat.strongRecOn with
          | _ m ihm =>
            intro hm
            cases hh:listed.getD m false with
            | true=>rfl
            | false =>
              exfalso
              obtain ⟨o,ho,ho2⟩:=hoat m hm
              have:m ∈ Region.ready .any ops listed:=ready_iff.2 ⟨hm,by rw [getD_tf (by omega)];exact hh,o,ho,fun ed he hb=>ihm ed.on (F.low m o ho2 ed he hb) (by have:=F.low m o ho2 ed he hb;omega)⟩
              rw [hr] at this;cases this
        exact fin listed c a w hall hc hcb S
      · obtain ⟨h1, h2,o,ho,hed⟩:=ready_iff.1 hi
        obtain ⟨o',ho',ho2⟩:=hoat i h1
        rw [ho] at ho'
        obtain rfl:=Option.some.inj ho'
        rw [getD_tf (by omega)] at h2
        obtain ⟨x,hx⟩:=hxat i h1
        have hreach:∀ j,(B.getD i 0).testBit j=true→listed.getD j false=true:=F.reach (lst:=fun k=>listed.getD k false=true) (fun k ok hk hok=>hcl k ok hk hok) (i + 1) i o (by omega) ho2 hed
        have hreach':∀ k,listed.getD k false=true→k < ops.size → ∀ j,(B.getD k 0).testBit j=true→listed.getD j false=true:=fun k hk hk2 j hj=>by
          obtain ⟨ok,_,hok⟩:=hoat k hk2
          exact F.reach (lst:=fun k=>listed.getD k false=true) (fun k ok hk hok=>hcl k ok hk hok) (k + 1) k ok (by omega) hok (hcl k ok hk hok) j hj
        have nolist:∀ k,k < ops.size→(B.getD k 0).testBit i=true→listed.getD k false=false:=fun k hk hb=>by
          cases hh:listed.getD k false with
          | false=>rfl
          | true=>have:=hreach' k hh hk i hb;rw [h2] at this;cases this
        have useB:∀ t ∈ x.temps,x.bar=false→(∃ k,k < ops.size∧D k=some t) → ∀ (q:Nat) (y:HI),xs[q]? = some y→y.bar=true→t ∈ y.op.temps→(q < i→q < c)∧(i < q→c ≤ q):=fun t htx hxb hpr q y hy hyb hty=>by
          have hq:q < ops.size:=by have:=(List.getElem?_eq_some_iff.1 hy).1;omega
          obtain ⟨k,hk,hkd⟩:=hpr
          refine ⟨fun hqi=>?_,fun hqi=>?_⟩
          · have:=hreach q (F.both' i q x y t k hqi hx hy hxb hyb htx hty (by simpa using hk) hkd)
            exact (hcb q hq (by rw [isBat hy];exact hyb)).1 this
          · have:=nolist q hq (F.both q i y x t k hqi hy hx hyb hxb hty htx (by simpa using hk) hkd)
            rcases Nat.lt_or_ge q c with hlt | hge
            · have h3:=(hcb q hq (by rw [isBat hy];exact hyb)).2 hlt
              rw [h3] at this;cases this
            · exact hge
        have barNext:x.bar=true→c ≤ i ∧ ∀ q,c ≤ q→q < i→isB q=false:=fun hxb=>by
          refine ⟨?_,fun q h3 h4=>?_⟩
          · rcases Nat.lt_or_ge i c with hlt | hge
            · have:=(hcb i h1 (by rw [isBat hx];exact hxb)).2 hlt
              rw [h2] at this;cases this
            · exact hge
          · cases hb:isB q with
            | false=>rfl
            | true =>
              obtain ⟨y,hy⟩:=hxat q (by omega)
              have hyb:y.bar=true:=by rw [← isBat hy];exact hb
              have:=(hcb q (by omega) hb).1 (hreach q (F.row i q x y h4 hx hy hxb (.inl hyb)))
              omega
        have looks : ∀ t ∈ x.temps,G c (fun j=>listed.getD j false) t=(E i).1.get t:=by
          intro t htx
          by_cases hpr:∃ k,k < ops.size∧D k=some t
          · have hpr' := hpr
            obtain ⟨j,hj,hd⟩:=hpr
            obtain ⟨y,hy⟩:=hxat j hj
            have hyd:y.dst=some t:=by rw [← Dat hy];exact hd
            rw [show G c (fun j=>listed.getD j false) t=_ from GH_at uniq hj hd]
            have notYet:listed.getD j false=false→i ≤ j→(if listed.getD j false=true then (if j < c then (E c).1.get t else V j) else (E 0).1.get t)=(E i).1.get t:=fun h3 h4=>by
              rw [if_neg (by rw [h3];simp)]
              exact (early i t (by omega) fun q hq h5=>by have:=uniq q j t (by omega) hj h5 hd;omega).symm
            rcases Nat.lt_trichotomy j i with hji | hji | hji
            · have hlj:=hreach j (F.see i j x y t hji hx hy htx hyd)
              rw [if_pos hlj]
              have range:∀ (k k':Nat),j < k→k ≤ k' → k' ≤ ops.size→(∀ q,k ≤ q→q < k' → ∀ (y:HI),xs[q]? = some y→y.bar=true→t ∉ y.op.temps)→(E k').1.get t=(E k).1.get t:=fun k k' h3 h4 h5 h6 =>
                stay' k k' t h4 h5 fun q h7 h8=>⟨fun h9=>by have:=uniq q j t (by omega) hj h9 hd;omega,h6 q h7 h8⟩
              cases hxb:x.bar with
              | true =>
                obtain ⟨hci,hnb⟩:=barNext hxb
                have free:∀ (q:Nat),c ≤ q→q < i → ∀ (y:HI),xs[q]? = some y→y.bar=true→t ∉ y.op.temps:=fun q h3 h4 y hy hyb=>by
                  have:=hnb q h3 h4
                  rw [isBat hy,hyb] at this;cases this
                split
                · rename_i hjc;exact (range c i hjc hci (by omega) free).symm
                · rename_i hjc
                  rw [← made j t hj hd (hnb j (by omega) hji)]
                  exact (range (j + 1) i (by omega) (by omega) (by omega) fun q h3 h4=>free q (by omega) h4).symm
              | false =>
                have hu:=useB t htx hxb hpr'
                have free:∀ (q:Nat),c ≤ q→q < i → ∀ (y:HI),xs[q]? = some y→y.bar=true→t ∉ y.op.temps:=fun q h3 h4 y hy hyb hty=>by
                  have:=(hu q y hy hyb hty).1 h4;omega
                split
                · rename_i hjc
                  rcases Nat.le_total c i with h3 | h3
                  · exact (range c i hjc h3 (by omega) free).symm
                  · refine range i c hji h3 hc fun q h4 h5 y hy hyb hty=>?_
                    by_cases hqi:q=i
                    · subst hqi
                      rw [hx] at hy
                      simp only [Option.some.injEq] at hy
                      subst hy
                      rw [hxb] at hyb;cases hyb
                    · have:=(hu q y hy hyb hty).2 (by omega);omega
                · rename_i hjc
                  have hjb:isB j=false:=by
                    cases hb:isB j with
                    | false=>rfl
                    | true=>have:=(hcb j hj hb).1 hlj;omega
                  rw [← made j t hj hd hjb]
                  exact (range (j + 1) i (by omega) (by omega) (by omega) fun q h3 h4=>free q (by omega) h4).symm
            · subst hji;exact notYet h2 (Nat.le_refl _)
            · exact notYet (nolist j hj (F.seen j i y x t hji hy hx htx hyd)) (by omega)
          · rw [show G c (fun j=>listed.getD j false) t=_ from GH_not hpr,notMade c t hc hpr,notMade i t (by omega) hpr]
        have hcl':∀ k ok,(listed.setIfInBounds i true).getD k false=true→ops.toList[k]? = some ok → ∀ ed ∈ ok.after.toList,Region.binds .any ed=true→(listed.setIfInBounds i true).getD ed.on false=true:=fun k ok hk hok ed he hb=>by
          rw [getD_set (by omega)] at hk ⊢
          by_cases hkk:k=i
          · subst hkk
            rw [ho2] at hok
            obtain rfl:=Option.some.inj hok
            rw [if_neg (by have:=F.low k _ ho2 ed he hb;omega)]
            exact hed ed he hb
          · rw [if_neg hkk] at hk
            split
            · rfl
            · exact hcl k ok hk hok ed he hb
        have hcnt':cnt (listed.setIfInBounds i true) ≤ fuel:=by have:=cnt_set listed i hs h1 h2;omega
        unfold wpOp
        rw [ho]
        simp only
        cases hxb:x.bar with
        | false =>
          obtain ⟨d,hxd,hsd,hEi⟩:=(hE i x hx).2 hxb
          have hcb':∀ k,k < ops.size→isB k=true→((listed.setIfInBounds i true).getD k false=true ↔ k < c):=fun k hk hb=>by
            rw [getD_set (by omega),if_neg (fun e=>by subst e;rw [isBat hx,hxb] at hb;cases hb)]
            exact hcb k hk hb
          have hst:readAt (E c).2 (lookHG (E i).1.get) x.op=readAt (E i).2 (lookHG (E i).1.get) x.op:=by
            by_cases hr:x.op.reads=true
            case neg=>rw [readAt_none (by simpa using hr),readAt_none (by simpa using hr)]
            have hso:=stableAll_at hstab i (E i) x (hEat i (by omega)) hx
            have loose:∀ q,q ∈ x.loose→q < ops.size→readAt (E (q + 1)).2 (lookHG (E i).1.get) x.op=readAt (E q).2 (lookHG (E i).1.get) x.op:=fun q hq hq2=>by
              simp only [stableOp,List.all_eq_true] at hso
              have:=hso q hq
              rw [hEat q (by omega),hEat (q + 1) (by omega)] at this
              exact (eqHO_eq this).symm
            have below:∀ q,q < i→isB q=true→q ∉ x.loose→q < c:=fun q hq hb hl=>by
              obtain ⟨y,hy⟩:=hxat q (by omega)
              have hyb:y.bar=true:=by rw [← isBat hy];exact hb
              exact (hcb q (by omega) hb).1 (hreach q (F.rd i q x y hq hx hy hxb hr hyb hl))
            have above:∀ q,i < q→q < ops.size→isB q=true→q ∉ x.loose→c ≤ q:=fun q hq hq2 hb hl=>by
              obtain ⟨y,hy⟩:=hxat q hq2
              have hyb:y.bar=true:=by rw [← isBat hy];exact hb
              have:=nolist q hq2 (F.row q i y x hq hy hx hyb (.inr ⟨hr,hl⟩))
              rcases Nat.lt_or_ge q c with hlt | hge
              · have h3:=(hcb q hq2 hb).2 hlt;rw [h3] at this;cases this
              · exact hge
            have go:∀ (m k:Nat),k + m ≤ ops.size→(∀ q,k ≤ q→q < k + m→isB q=true→q ∈ x.loose)→readAt (E (k + m)).2 (lookHG (E i).1.get) x.op=readAt (E k).2 (lookHG (E i).1.get) x.op:=by
              intro m
              induction m with
              | zero=>intro k _ _;rfl
              | succ m ih =>
                intro k hk hq
                rw [← ih k (by omega) fun q h1 h2=>hq q h1 (by omega),← Nat.add_assoc]
                cases hb:isB (k + m) with
                | false=>rw [blk1 (k + m) (by omega) hb]
                | true=>exact loose (k + m) (hq _ (by omega) (by omega) hb) (by omega)
            rcases Nat.le_total c i with h3 | h3
            · have:=go (i - c) c (by omega) fun q h4 h5 hb=>by
                apply Classical.byContradiction
                intro hl
                have:=below q (by omega) hb hl;omega
              rw [show c + (i - c)=i by omega] at this
              exact this.symm
            · have:=go (c - i) i (by omega) fun q h4 h5 hb=>by
                apply Classical.byContradiction
                intro hl
                by_cases hqi:q=i
                · subst hqi;rw [isBat hx,hxb] at hb;cases hb
                · have:=above q (by omega) (by omega) hb hl;omega
              rw [show i + (c - i)=c by omega] at this
              exact this
          have hnew:∀ t,G c (fun j=>(listed.setIfInBounds i true).getD j false) t=if t=d then V i else G c (fun j=>listed.getD j false) t:=fun t=>by
            by_cases htd:t=d
            · subst htd
              have hDi:D i=some t:=by rw [Dat hx];exact hxd
              rw [if_pos rfl,show G c (fun j=>(listed.setIfInBounds i true).getD j false) t=_ from GH_at uniq h1 hDi,if_pos (by rw [getD_set (by omega)];simp)]
              split
              · rename_i hic
                rw [← made i t h1 hDi (by rw [isBat hx];exact hxb)]
                refine stay' (i + 1) c t (by omega) hc fun q h3 h4=>⟨fun h5=>by have:=uniq q i t (by omega) h1 h5 hDi;omega,fun y hy hyb hty=>?_⟩
                have:=nolist q (by omega) (F.see q i y x t (by omega) hy hx (HI.temps_op hty) hxd)
                have h6:=(hcb q (by omega) (by rw [isBat hy];exact hyb)).2 h4
                rw [h6] at this;cases this
              · rfl
            · rw [if_neg htd]
              by_cases hpr:∃ k,k < ops.size∧D k=some t
              · obtain ⟨j,hj,hd⟩:=hpr
                have hji:j ≠ i:=by
                  rintro rfl
                  rw [Dat hx,hxd] at hd
                  exact htd (Option.some.inj hd).symm
                rw [show G c (fun j=>(listed.setIfInBounds i true).getD j false) t=_ from GH_at uniq hj hd,show G c (fun j=>listed.getD j false) t=_ from GH_at uniq hj hd]
                simp only [getD_set (show i < listed.size by omega),if_neg hji]
              · rw [show G c (fun j=>(listed.setIfInBounds i true).getD j false) t=_ from GH_not hpr,show G c (fun j=>listed.getD j false) t=_ from GH_not hpr]
          have next:∀ a' w',X.St (fun t=>if t=d then V i else G c (fun j=>listed.getD j false) t,(E c).2) a' w' → wpAny P .any ops Q fuel (listed.setIfInBounds i true) a' w':=fun a' w' S' =>
            ih _ c a' w' (by simpa using hs) hcl' hc hcb' hcnt' (S'.congr hnew)
          obtain ⟨_,hsd⟩:=stepHD_sound (Q:=Q) hX hC hok S (htr i o x ho hx) looks hst hsd
          rcases hsd with ⟨hw,hss⟩ | ⟨hw,hss⟩
          · rw [if_pos hw];exact .inl (Oper.wp_mono (fun a' w' hh=>next a' w' hh) hss)
          · rw [if_neg (by rw [hw];simp)];exact next _ _ hss
        | true =>
          obtain ⟨hci,hnb⟩:=barNext hxb
          have hst:(E i).2=(E c).2:=blkSame c i hci (by omega) hnb
          have hs1:=stepH_G ((hE i x hx).1 hxb)
          rw [hst] at hs1
          obtain ⟨g',hs2,hg1,hg2⟩:=stepG_congr (g':=G c (fun j=>listed.getD j false)) (fun t ht=>(looks t ht).symm) hs1
          have hcb':∀ k,k < ops.size→isB k=true→((listed.setIfInBounds i true).getD k false=true ↔ k < i + 1):=fun k hk hb=>by
            rw [getD_set (by omega)]
            by_cases hki:k=i
            · subst hki;simp
            · rw [if_neg hki,hcb k hk hb]
              refine ⟨fun h3=>by omega,fun h3=>?_⟩
              rcases Nat.lt_or_ge k c with hlt | hge
              · exact hlt
              · have:=hnb k hge (by omega);rw [this] at hb;cases hb
          have hnew : ∀ t,G (i + 1) (fun j=>(listed.setIfInBounds i true).getD j false) t=g' t:=fun t=>by
            by_cases hin:x.dst=some t ∨ t ∈ x.op.temps
            · rw [hg1 t hin]
              by_cases hpr:∃ k,k < ops.size∧D k=some t
              · obtain ⟨j,hj,hd⟩:=hpr
                obtain ⟨y,hy⟩:=hxat j hj
                have hyd:y.dst=some t:=by rw [← Dat hy];exact hd
                rw [show G (i + 1) (fun j=>(listed.setIfInBounds i true).getD j false) t=_ from GH_at uniq hj hd]
                have hji:j ≤ i ∨ ((listed.setIfInBounds i true).getD j false=false∧i < j):=by
                  rcases Nat.lt_or_ge i j with hlt | hge
                  · right
                    refine ⟨?_,hlt⟩
                    rw [getD_set (by omega),if_neg (by omega)]
                    rcases hin with hin | hin
                    · have:=uniq i j t h1 hj (by rw [Dat hx];exact hin) hd;omega
                    · exact nolist j hj (F.seen j i y x t hlt hy hx (HI.temps_op hin) hyd)
                  · exact .inl hge
                rcases hji with hji | ⟨hji,hji2⟩
                · have hlj:(listed.setIfInBounds i true).getD j false=true:=by
                    rw [getD_set (by omega)]
                    split
                    · rfl
                    · rename_i hne
                      rcases hin with hin | hin
                      · have:=uniq i j t h1 hj (by rw [Dat hx];exact hin) hd;omega
                      · exact hreach j (F.see i j x y t (by omega) hx hy (HI.temps_op hin) hyd)
                  rw [if_pos hlj,if_pos (by omega)]
                · rw [if_neg (by rw [hji];simp)]
                  exact (early (i + 1) t (by omega) fun q hq h5=>by have:=uniq q j t (by omega) hj h5 hd;omega).symm
              · exact GH_not hpr
            · have hn1:x.dst ≠ some t:=fun h=>hin (.inl h)
              have hn2:t ∉ x.op.temps:=fun h=>hin (.inr h)
              rw [hg2 t hn1 hn2]
              have free:∀ (q:Nat),c ≤ q→q < i + 1 → ∀ (y:HI),xs[q]? = some y→y.bar=true→t ∉ y.op.temps:=fun q h3 h4 y hy hyb=>by
                by_cases hqi:q=i
                · subst hqi
                  rw [hx] at hy
                  simp only [Option.some.injEq] at hy
                  subst hy;exact hn2
                · have:=hnb q h3 (by omega)
                  rw [isBat hy,hyb] at this;cases this
              by_cases hpr:∃ k,k < ops.size∧D k=some t
              · obtain ⟨j,hj,hd⟩:=hpr
                have hji:j ≠ i:=by
                  rintro rfl
                  rw [Dat hx] at hd
                  exact hn1 hd
                rw [show G (i + 1) (fun j=>(listed.setIfInBounds i true).getD j false) t=_ from GH_at uniq hj hd,show G c (fun j=>listed.getD j false) t=_ from GH_at uniq hj hd]
                simp only [getD_set (show i < listed.size by omega),if_neg hji]
                split
                · rename_i hlj
                  have range:∀ (k k':Nat),j < k→k ≤ k' → k' ≤ ops.size→(∀ q,k ≤ q→q < k' → ∀ (y:HI),xs[q]? = some y→y.bar=true→t ∉ y.op.temps)→(E k').1.get t=(E k).1.get t:=fun k k' h3 h4 h5 h6 =>
                    stay' k k' t h4 h5 fun q h7 h8=>⟨fun h9=>by have:=uniq q j t (by omega) hj h9 hd;omega,h6 q h7 h8⟩
                  by_cases hjc:j < c
                  · rw [if_pos (by omega),if_pos hjc]
                    exact range c (i + 1) hjc (by omega) (by omega) free
                  · rw [if_neg hjc]
                    split
                    · rename_i hji2
                      rw [← made j t hj hd (hnb j (by omega) (by omega))]
                      exact range (j + 1) (i + 1) (by omega) (by omega) (by omega) fun q h3 h4=>free q (by omega) h4
                    · rfl
                · rfl
              · rw [show G (i + 1) (fun j=>(listed.setIfInBounds i true).getD j false) t=_ from GH_not hpr,show G c (fun j=>listed.getD j false) t=_ from GH_not hpr,notMade c t hc hpr,notMade (i + 1) t (by omega) hpr]
          have next:∀ a' w',X.St (g',(E (i + 1)).2) a' w' → wpAny P .any ops Q fuel (listed.setIfInBounds i true) a' w':=fun a' w' S' =>
            ih _ (i + 1) a' w' (by simpa using hs) hcl' (by omega) hcb' hcnt' (S'.congr hnew)
          rcases stepG_sound (Q:=Q) hX hC hH hok S (htr i o x ho hx) hs2 with ⟨hw,hss⟩ | ⟨hw,hss⟩
          · rw [if_pos hw];exact .inl (Oper.wp_mono (fun a' w' hh=>next a' w' hh) hss)
          · rw [if_neg (by rw [hw];simp)];exact next _ _ hss
  refine main ops.size (Array.replicate ops.size false) 0 a0 w0 (by simp) (fun i o hl=>?_) (Nat.zero_le _) (fun k hk hb=>?_) ?_ (St1.congr fun t=>?_)
  · exfalso
    have:(Array.replicate ops.size false).getD i false=false:=by
      simp only [Array.getD]
      split <;> simp
    rw [this] at hl;cases hl
  · have:(Array.replicate ops.size false).getD k false=false:=by
      simp only [Array.getD]
      split <;> simp
    rw [this];simp
  · have:∀ (l:List Nat) (p:Nat→Bool),l.countP p ≤ l.length:=fun l p=>List.countP_le_length
    exact Nat.le_trans (this _ _) (by simp)
  · have hf:∀ i,(Array.replicate ops.size false).getD i false=false:=fun i=>by
      simp only [Array.getD]
      split <;> simp
    by_cases hpr:∃ k,k < ops.size∧D k=some t
    · obtain ⟨j,hj,hd⟩:=hpr
      rw [show G 0 (fun j=>(Array.replicate ops.size false).getD j false) t=_ from GH_at uniq hj hd,if_neg (by rw [hf];simp)]
    · exact GH_not hpr
end
end Go.Ab
namespace Go.Ab
open Go
set_option linter.unusedVariables false
set_option linter.unusedSimpArgs false
section
variable {P:Program} {n:Nat} {w:World} {L:LM} {A:AM} {st:HSt} {a:Act}
theorem resH1_sound {e:HEnv} (I:HInv n w L A st a e.get) {r:ResultVar} {x:XR} (ht:trR P r=some x) {v:HV} (h:resH1 (e,st) x=some v) :
    ∃ u,(oneR a.tmps r).run P w = .ok u w∧RepH w L A v u:=by
  cases r with
  | tmp t =>
    simp only [trR,Option.some.injEq] at ht
    subst ht
    simp only [resH1,Option.some.injEq] at h
    subst h
    exact ⟨a.eval (.tmp t),by simp [oneR,Act.eval],(I.rep t).vis⟩
  | cell t ty =>
    simp only [trR,Option.bind_eq_some_iff] at ht
    obtain ⟨agg,ha,sz,hz,ht⟩:=ht
    split at ht
    · rename_i h1
      obtain rfl:=Option.some.inj ht
      simp only [resH1] at h
      split at h
      · rename_i i k e0
        split at h
        · rename_i cs hcs
          have H:=(I.rep t).vis
          rw [e0] at H
          obtain ⟨b,j,u',h2,h3,h4⟩:=run_loadH (b:=0) I.ok ha hz h1 H hcs h
          have e1:a.tmps.getD t undef=a.eval (.tmp t):=rfl
          exact ⟨u',by simp [oneR,e1,h2,asAddr,h3],h4⟩
        · cases h
      · cases h
    · cases ht
theorem resHL_sound {e:HEnv} (I:HInv n w L A st a e.get):∀ {rs:List ResultVar} {xs:List XR} {ys:List HV},trRs P rs=some xs→resHL (e,st) xs=some ys →
    ∃ us,ys.length=rs.length∧us.length=rs.length∧(rs.mapM (oneR a.tmps)).run P w = .ok us w ∧ ∀ k (hk:k < ys.length) (hk':k < us.length),RepH w L A ys[k] us[k]
  | [],xs,ys,ht,h=>by
    simp only [trRs,Option.some.injEq] at ht
    subst ht
    simp only [resHL,Option.some.injEq] at h
    subst h
    exact ⟨[],rfl,rfl,by simp,fun k hk=>by simp at hk⟩
  | r :: rs,xs,ys,ht,h=>by
    simp only [trRs,Option.bind_eq_some_iff,Option.map_eq_some_iff] at ht
    obtain ⟨x,hx,xs',hxs,rfl⟩:=ht
    simp only [resHL] at h
    split at h
    · rename_i v vs hv hvs
      simp only [Option.some.injEq] at h
      subst h
      obtain ⟨u,hr,V⟩:=resH1_sound (P:=P) I hx hv
      obtain ⟨us,h1,h2,h3,h4⟩:=resHL_sound I hxs hvs
      refine ⟨u :: us,by simp [h1],by simp [h2],by simp [List.mapM_cons,hr,h3],fun k hk hk'=>?_⟩
      cases k with
      | zero=>exact V
      | succ k=>simpa using h4 k (by simpa using hk) (by simpa using hk')
    · cases h
def TOkH (P:Program) (T:Nat→Option HF):Prop :=
  ∀ f x, T f = some x → ∃ fn code hints, P.funcs[f]? = some fn ∧ (fn.name == "runtime.NumGoroutine") = false ∧ fn.body = some code ∧ x.np ≤ fn.ntmps ∧ fn.ntmps ≤ HK ∧
    trHC P (fun d=>decide (d < fn.ntmps)) code hints=some (x.body,[])∧trRs P fn.results.toList=some x.res
theorem paramsH_get:∀ (ws:List HV) (i t:Nat),(paramsH i ws).get t=if i ≤ t∧t < i + ws.length then ws.getD (t - i) (.p .none) else .p .none
  | [],i,t=>by simp [paramsH,HEnv.get]
  | v :: r,i,t=>by
    simp only [paramsH,HEnv.get,paramsH_get r (i + 1) t,List.length_cons]
    by_cases h:t=i
    · subst h;simp
    · rw [if_neg h]
      by_cases h2:i + 1 ≤ t∧t < i + 1 + r.length
      · rw [if_pos h2,if_pos (by omega),show t - i=(t - (i + 1)) + 1 by omega];simp
      · rw [if_neg h2,if_neg (by omega)]
theorem enteredH {args:Array Value} {ws:List HV} {nt:Nat} (hsz:args.size=ws.length) (hnt:ws.length ≤ nt) (O:HOk w L A st) (H:∀ i (hi:i < ws.length),RepH w L A ws[i] (args.getD i undef)) :
    HInv nt w L A st { tmps:=args ++ Array.replicate (nt - args.size) undef,defers:=[] } (paramsH 0 ws).get:=by
  refine ⟨O,fun t=>?_,rfl,by simp;omega,fun t ht=>?_⟩
  · rw [paramsH_get]
    by_cases h:0 ≤ t∧t < 0 + ws.length
    · rw [if_pos h]
      have ht:t < ws.length:=by omega
      have e1:Act.eval { tmps:=args ++ Array.replicate (nt - args.size) undef,defers:=[] } (.tmp t)=args.getD t undef:=by
        simp [Act.eval,Array.getD,Array.getElem_append,show t < args.size by omega,show t < args.size + (nt - args.size) by omega]
      rw [e1,Nat.sub_zero,show ws.getD t (.p .none)=ws[t] by simp [ht]]
      exact .inl (H t ht)
    · rw [if_neg h];exact .inl (.none _)
  · rw [paramsH_get,if_neg (by omega)]
theorem evHF_sound (hm:P.follows .mixedOrders=true) {C:Calls'} (hC:CallOk P C) {K:HCalls} (hK:HCallOk P K) {T:Nat→Option HF} (hT:TOkH P T):∀ n,HCallOk P (evHF C K T n)
  | 0=>fun f ws st r st' h=>by simp [evHF] at h
  | n + 1 => fun f ws st r st' h=>by
    have ih:=evHF_sound hm hC hK hT n
    simp only [evHF] at h
    split at h
    · rename_i rk hk
      obtain rfl:=Option.some.inj h
      exact hK f ws st r st' hk
    split at h
    · rename_i x hx
      split at h
      · rename_i hlen
        obtain ⟨fn,code,hints,hf,hname,hbody,hnp,hnt,htr,htrr⟩:=hT f x hx
        refine ⟨⟨fn,hf,hname,by rw [hbody];rfl⟩,fun args w L A hsz O bd Hargs=>?_⟩
        have I0:=enteredH (nt:=fn.ntmps) hsz (by omega) O Hargs
        generalize ha0:({ tmps:=args ++ Array.replicate (fn.ntmps - args.size) undef,defers:=[] }:Act)=a0 at I0
        let X:HCtx:={ n:=fn.ntmps,w0:=w,L0:=L,A0:=A,st0:=st }
        have hX:X.Good:=⟨hnt,O⟩
        have hok:∀ d,decide (d < fn.ntmps)=true→d < X.n:=fun d hd=>by simpa using hd
        have S0:X.St ((paramsH 0 ws).get,st) a0 w:=⟨L,A,I0,.refl _ _ _⟩
        have fin:∀ (s:HS) vs a' w',resHL (hland s (x.res.map resT)) x.res=some vs→r=tupHOf vs→st' = (hland s (x.res.map resT)).2→X.St (s.1.get,s.2) a' w' → a'.defers=[] ∧ ∃ v,(results fn a'.tmps).run P w' = .ok v w' ∧ HRetOk w L A r st' v w':=by
          intro s vs a' w' hres hr hs' S
          obtain ⟨h1,h2⟩:=hland_G (x.res.map resT) s
          obtain ⟨L1,A1,I1,E1⟩:=HCtx.St.land hX (x.res.map resT) S
          rw [← h1,← h2] at I1
          obtain ⟨us,hl1,hl2,hrun,H2⟩:=resHL_sound I1 htrr hres
          refine ⟨I1.df,_,results_run hrun,?_⟩
          obtain ⟨Oc,Ec⟩:=I1.ok.cut
          subst hr;subst hs'
          refine ⟨_,A1,Oc,fun b j q p i h=>(cutL_own h).2,?_,E1.tr O Ec⟩
          have hvu:vs.length=us.length:=by omega
          have H3:∀ k (hk:k < vs.length) (hk':k < us.length),RepH w' (fun b j=>cutL (L1 b j)) A1 vs[k] us[k]:=fun k hk hk'=>(H2 k hk hk').evo Ec I1.ok.wf
          by_cases h1:us.length=1
          · rw [dif_pos h1]
            obtain ⟨u,rfl⟩:=List.length_eq_one_iff.1 h1
            obtain ⟨v,rfl⟩:=List.length_eq_one_iff.1 (hvu.trans h1)
            exact H3 0 (by simp) (by simp)
          · rw [dif_neg h1]
            have ht:tupHOf vs=mkTup vs:=by
              match vs,hvu with
              | [],_=>rfl
              | [v],hv=>exact absurd hv.symm h1
              | _ :: _ :: _,_=>rfl
            rw [ht]
            refine RepH.mkTup (by simp [hvu]) fun k hk=>?_
            have:=H3 k hk (by omega)
            have e5:us.toArray.getD k undef=us[k]'(by omega):=by simp [Array.getD,show k < us.length by omega]
            rw [e5];exact this
        refine calls_of_wp hf hbody ?_
        rw [ha0]
        split at h
        · cases h
        · rename_i ex s1 hne hev
          simp only [Option.map_eq_some_iff,Prod.mk.injEq] at h
          obtain ⟨vs,hres,hr,ho⟩:=h
          refine (evHC_sound hX hC ih hm hok (draw_okH hX hC ih hok) n code hints [] x.body _ _ _ a0 w _ htr hev S0 fun a' w' S=>?_).1
          have:=fin s1 vs a' w' hres hr.symm ho.symm S
          cases ex with
          | norm=>exact this
          | ret=>exact this
          | exit id=>exact absurd rfl (hne _)
        · cases h
      · cases h
    · cases h
end
end Go.Ab
namespace Go.Ab
open Go
set_option linter.unusedVariables false
set_option linter.unusedSimpArgs false
def hintsH:HC→List HHint
  | .skip=>[]
  | .reg ops _ k=>[⟨k,ops.map fun o=>(o.bar,o.loose),false⟩]
  | .seq a b=>hintsH a ++ hintsH b
  | .cond (.k .none) _ _ _=>[⟨[],[],true⟩]
  | .cond _ a b k=>hintsH a ++ (hintsH b ++ [⟨k,[],false⟩])
  | .block _ b k=>hintsH b ++ [⟨k,[],false⟩]
  | .loop b k=>hintsH b ++ [⟨k,[],false⟩]
  | .exit _ k=>[⟨k,[],false⟩]
  | .ret=>[]
def OkH1 (P:Program) (f:Nat) (x:HF):Prop :=
  ∃ fn code hints, P.funcs[f]? = some fn ∧ (fn.name == "runtime.NumGoroutine") = false ∧ fn.body = some code ∧ x.np ≤ fn.ntmps ∧ fn.ntmps ≤ HK ∧
    trHC P (fun d=>decide (d < fn.ntmps)) code hints=some (x.body,[])∧trRs P fn.results.toList=some x.res
def lookH:Nat→List (Nat × HF)→Option HF
  | _,[]=>Option.none
  | f,(k,x) :: r=>if f=k then some x else lookH f r
def AllOk (P:Program):List (Nat × HF)→Prop
  | []=>True
  | (k,x) :: r=>OkH1 P k x∧AllOk P r
theorem tok_of {P:Program}:∀ {l:List (Nat × HF)},AllOk P l→TOkH P (fun f=>lookH f l)
  | [],_,f,x,h=>by cases h
  | (k,y) :: r,ha,f,x,h=>by
    simp only [lookH] at h
    split at h
    · rename_i e
      obtain rfl:=Option.some.inj h
      subst e
      obtain ⟨fn,code,hints,h1⟩:=ha.1
      exact ⟨fn,code,hints,h1⟩
    · exact tok_of ha.2 f x h
end Go.Ab
namespace Go.Ab
open Go
set_option linter.unusedVariables false
set_option linter.unusedSimpArgs false
def HV.isP:HV→Bool
  | .p v=>v.loose
  | _=>false
def sealed (H:HCalls):HCalls:=fun f ws st =>
  if ws.all HV.isP then match H f ws [] with
    | some (.p v,_)=>if v.flat then some (.p v,st) else Option.none
    | _=>Option.none
  else Option.none
section
variable {P:Program}
theorem sealed_ok {H:HCalls} (hH:HCallOk P H):HCallOk P (sealed H):=by
  intro f ws st r st' h
  unfold sealed at h
  split at h
  case isFalse=>cases h
  rename_i hall
  split at h
  case h_2=>cases h
  rename_i v st1 hev
  split at h
  case isFalse=>cases h
  rename_i hflat
  simp only [Option.some.injEq,Prod.mk.injEq] at h
  obtain ⟨rfl,rfl⟩:=h
  obtain ⟨hfn,hcalls⟩:=hH f ws [] _ _ hev
  refine ⟨hfn,fun args w L A hsz O bd Hargs=>?_⟩
  have W0:=WF.outAll O.wf
  have O0:HOk w (fun b j=>outAll (L b j)) [] []:=by
    refine ⟨W0,rfl,fun b j r p i h _=>?_,fun a k h=>by simp at h,fun a b o m k h=>by simp at h,fun a a' b o m o' m' ks vs h=>by simp at h⟩
    cases e:L b j <;> simp [e,outAll] at h
  have shO:∀ b j,L b j = .sh→outAll (L b j) = .sh:=fun b j h=>by rw [h];rfl
  refine Calls.mono (hcalls args w _ [] hsz O0 (fun b j q p i h=>by cases e:L b j <;> simp [e,outAll] at h) fun i hi=>?_) fun en w' he=>?_
  · have h1:=List.all_eq_true.1 hall _ (List.getElem_mem hi)
    have h2:=Hargs i hi
    generalize ws[i]=x at h1 h2
    cases x with
    | p pv =>
      obtain ⟨h3,h4⟩:=h2.pv
      exact .p _ _ h3 (h4.frame (fun b j hr=>by rw [shO b j hr.shared,hr.shared]) (fun q hq=>by rw [loose_refs h3] at hq;cases hq) fun _ _ _=>rfl)
    | _=>simp [HV.isP] at h1
  · cases en with
    | panicked=>exact he.elim
    | outgrown=>exact he.elim
    | returned u =>
      obtain ⟨L',A',O',bd',Hr,E⟩:=he
      obtain ⟨hl,Hr⟩:=Hr.pv
      have blk:∀ b,b < w.heap.size→SameBlk (fun b j=>outAll (L b j)) b w.heap[b]? w'.heap[b]?:=fun b hb=>by
        rcases E.blk b hb with ⟨a,o,m,es,c,h,_⟩ | h
        · simp at h
        · exact h
      have blk':∀ b,b < w.heap.size→SameBlk L b w.heap[b]? w'.heap[b]?:=fun b hb=>(blk b hb).weaken fun j hj=>by
        rcases hj with hj | hj <;> simp [hj,outAll]
      let L2:LM:=fun b j=>if b < w.heap.size then L b j else .out
      have hin:∀ {b j},b < w.heap.size→L2 b j=L b j:=fun {b j} h=>by simp only [L2,h,if_true]
      have cell : ∀ b j,L b j ≠ .out→w'.cell? ⟨b,j,Option.none⟩=w.cell? ⟨b,j,Option.none⟩∧w'.frozen? ⟨b,j,Option.none⟩=w.frozen? ⟨b,j,Option.none⟩:=fun b j h=>by
        have hb:=O.wf.lt h
        obtain ⟨v,hv⟩:=O.wf.ex b j h
        have hs:=blk b hb
        cases e:w.heap[b]? with
        | none=>simp [World.cell?,e] at hv
        | some ob =>
          rw [e] at hs
          cases ob with
          | cells c t fr =>
            cases e':w'.heap[b]? with
            | none=>rw [e'] at hs;cases hs
            | some ob' =>
              rw [e'] at hs
              cases ob' with
              | cells c' t' fr' =>
                obtain ⟨rfl,rfl,h3,h4⟩:=hs
                refine ⟨?_,by simp [World.frozen?,e,e']⟩
                have:=h4 j (by cases e2:L b j <;> simp [e2,outAll])
                simp only [World.cell?,e,e']
                simpa using this
              | _=>cases hs
          | _=>simp [World.cell?,e] at hv
      have W:WF w' L2:=by
        refine ⟨fun b j b' j' r p i h h'=>?_,fun b j h=>?_,fun b j r p i h=>?_⟩
        · have hb:b < w.heap.size:=by apply Classical.byContradiction;intro hn;simp [L2,hn] at h
          have hb':b' < w.heap.size:=by apply Classical.byContradiction;intro hn;simp [L2,hn] at h'
          rw [hin hb] at h;rw [hin hb'] at h'
          exact O.wf.inj _ _ _ _ _ _ _ h h'
        · have hb:b < w.heap.size:=by apply Classical.byContradiction;intro hn;simp [L2,hn] at h
          rw [hin hb] at h
          obtain ⟨v,hv⟩:=O.wf.ex b j h
          exact ⟨v,by rw [(cell b j h).1,hv]⟩
        · have hb:b < w.heap.size:=by apply Classical.byContradiction;intro hn;simp [L2,hn] at h
          rw [hin hb] at h
          rw [(cell b j (by rw [h];simp)).2];exact O.wf.thaw _ _ _ _ _ h
      have E2:Evo w L A w' L2 A:=⟨E.os,E.tape,E.output,E.size,fun b j hb _=>hin hb,fun b hb=>.inr (blk' b hb),Nat.le_refl _,fun _ _=>.inl rfl,fun a b o m h _=>.inl ⟨a,o,m,h⟩⟩
      have Ex:Ext w L w' L2:=⟨E.os,E.tape,E.output,E.size,fun b j hb _=>hin hb,blk'⟩
      have G:Go1 w L w' L2:=⟨W,Ex,fun b j h=>hin (O.wf.lt (fun e=>by rw [e] at h;exact h)),fun b j h=>(cell b j (fun e=>by rw [e] at h;exact h)).1⟩
      have O2:HOk w' L2 A st:=O.grow G fun b j r p i h _=>by
        have hb:b < w.heap.size:=by apply Classical.byContradiction;intro hn;simp [L2,hn] at h
        rwa [hin hb] at h
      refine ⟨L2,A,O2,fun b j q p i h=>?_,.p _ _ hl (flat_rep Hr hflat),E2⟩
      have hb:b < w.heap.size:=by apply Classical.byContradiction;intro hn;simp [L2,hn] at h
      rw [hin hb] at h
      exact bd _ _ _ _ _ h
end
def HLe (H H':HCalls):Prop:=∀ f ws st r,H f ws st=some r→H' f ws st=some r
theorem HLe.refl (H:HCalls):HLe H H:=fun _ _ _ _ h=>h
section
variable {C:Calls'} {H H':HCalls}
theorem evHS_mono (h:HLe H H') {L:XO→HV} {st:HSt} {x:HOp} {r:HV × HSt} (hv:evHS H L st x=some r):evHS H' L st x=some r:=by
  cases x with
  | x o =>
    cases o
    case call f as ms=>simp only [evHS] at hv ⊢;exact h _ _ _ _ hv
    case callv f as =>
      simp only [evHS] at hv ⊢
      split at hv
      · exact h _ _ _ _ hv
      · exact h _ _ _ _ hv
      · exact h _ _ _ _ hv
      · cases hv
    all_goals exact hv
  | _=>exact hv
theorem stepHL_mono (h:HLe H H') {s s':HS} {o:HI} (hv:stepHL C H s o=some s'):stepHL C H' s o=some s':=by
  unfold stepHL at hv ⊢
  split at hv
  · rename_i v e;(try simp only [e]);exact hv
  · rename_i e
    (try simp only [e])
    split at hv
    · rename_i v st e2
      simp only [evHS_mono h e2];exact hv
    · cases hv
theorem stepH_mono (h:HLe H H') {s s':HS} {o:HI} (hv:stepH C H s o=some s'):stepH C H' s o=some s':=by
  unfold stepH at hv ⊢
  split at hv
  · rename_i e;(try simp only [e]);exact stepHL_mono h hv
  · rename_i e;(try simp only [e]);exact hv
  · cases hv
theorem stepsH_mono (h:HLe H H'):∀ {l:List HI} {s s':HS},stepsH C H s l=some s' → stepsH C H' s l=some s'
  | [],s,s',hv=>hv
  | o :: l,s,s',hv=>by
    simp only [stepsH] at hv ⊢
    split at hv
    · rename_i s1 e;simp only [stepH_mono h e];exact stepsH_mono h hv
    · cases hv
theorem traceHD_mono (h:HLe H H'):∀ {l:List HI} {s:HS} {tr:List HS},traceHD C H s l=some tr→traceHD C H' s l=some tr
  | [],s,tr,hv=>hv
  | o :: l,s,tr,hv=>by
    simp only [traceHD] at hv ⊢
    split at hv
    · rename_i hb
      rw [if_pos hb]
      split at hv
      · rename_i s1 e
        simp only [Option.map_eq_some_iff] at hv
        obtain ⟨t,ht,rfl⟩:=hv
        simp only [stepH_mono h e,traceHD_mono h ht,Option.map_some]
      · cases hv
    · rename_i hb
      rw [if_neg hb]
      split at hv
      · rename_i d v e
        simp only [Option.map_eq_some_iff] at hv
        obtain ⟨t,ht,rfl⟩:=hv
        simp only [e,traceHD_mono h ht,Option.map_some]
      · cases hv
theorem regHD_mono (h:HLe H H') {s s':HS} {l:List HI} (hv:regHD C H s l=some s'):regHD C H' s l=some s':=by
  unfold regHD at hv ⊢
  split at hv
  · rename_i hf
    rw [if_pos hf]
    split at hv
    · rename_i tr e;simp only [traceHD_mono h e];exact hv
    · cases hv
  · cases hv
theorem fgtH_inv {k:List Nat} {x:Option (Ex × HS)} {y:Ex × HS} (h:fgtH k x=some y):∃ z,x=some z ∧ ∀ x',x' = some z→fgtH k x' = some y:=by
  cases x with
  | none=>simp [fgtH] at h
  | some z=>exact ⟨z,rfl,fun x' e=>by rw [e];exact h⟩
theorem evHC_mono (h:HLe H H'):∀ {n m:Nat} {c:HC} {s:HS} {x:Ex × HS},n ≤ m→evHC C H n c s=some x→evHC C H' m c s=some x
  | 0,m,c,s,x,_,hv=>by simp [evHC] at hv
  | n + 1,0,c,s,x,hle,hv=>by omega
  | n + 1,m + 1,c,s,x,hle,hv=>by
    have ih:∀ {c:HC} {s:HS} {x:Ex × HS},evHC C H n c s=some x→evHC C H' m c s=some x:=fun hv=>evHC_mono h (by omega) hv
    cases c with
    | skip=>exact hv
    | reg ops draw keep =>
      simp only [evHC,Option.map_eq_some_iff] at hv ⊢
      obtain ⟨s1,h1,rfl⟩:=hv
      refine ⟨s1,?_,rfl⟩
      cases draw with
      | true=>simp only [if_true] at h1 ⊢;exact regHD_mono h h1
      | false=>simp only [Bool.false_eq_true,if_false] at h1 ⊢;exact stepsH_mono h h1
    | seq a b =>
      simp only [evHC] at hv ⊢
      split at hv
      · rename_i s1 e;simp only [ih e];exact ih hv
      · rename_i hno
        have:=ih hv
        rw [this]
        obtain ⟨ex,s1⟩:=x
        cases ex with
        | norm=>exact absurd hv (hno _)
        | _=>rfl
    | cond c a b k =>
      simp only [evHC] at hv ⊢
      obtain ⟨z,hz,hf⟩:=fgtH_inv hv
      refine hf _ ?_
      split at hz
      · rename_i e;(try simp only [e]);exact ih hz
      · rename_i e;(try simp only [e]);exact ih hz
      · cases hz
    | block id b k =>
      simp only [evHC] at hv ⊢
      cases hb:evHC C H n b s with
      | none=>rw [hb] at hv;simp [fgtH] at hv
      | some q=>rw [hb] at hv;rw [ih hb];exact hv
    | loop b k =>
      simp only [evHC] at hv ⊢
      cases hb:evHC C H n b s with
      | none=>rw [hb] at hv;simp [fgtH] at hv
      | some q =>
        rw [hb] at hv;rw [ih hb]
        obtain ⟨ex,s1⟩:=q
        cases ex with
        | norm=>simp only [fgtH] at hv ⊢;exact ih hv
        | exit id=>exact hv
        | ret=>exact hv
    | exit id k=>exact hv
    | ret=>exact hv
variable {K:HCalls} {T:Nat→Option HF}
theorem evHF_mono:∀ {n m:Nat},n ≤ m→HLe (evHF C K T n) (evHF C K T m)
  | 0,m,_,f,ws,st,r,h=>by simp [evHF] at h
  | n + 1,0,hle,f,ws,st,r,h=>by omega
  | n + 1, m + 1,hle,f,ws,st,r,h=>by
    simp only [evHF] at h ⊢
    split at h
    · rename_i k hk;(try simp only [hk]);exact h
    · rename_i hk
      (try simp only [hk])
      split at h
      · rename_i x hx
        (try simp only [hx])
        split at h
        · rename_i hl
          rw [if_pos hl]
          have hle':HLe (evHF C K T n) (evHF C K T m):=evHF_mono (by omega)
          cases hb:evHC C (evHF C K T n) n x.body (paramsH 0 ws,st) with
          | none=>rw [hb] at h;cases h
          | some q=>rw [hb] at h;rw [evHC_mono hle' (by omega) hb];exact h
        · cases h
      · cases h
def Ans (C:Calls') (K:HCalls) (T:Nat→Option HF) (f:Nat) (ws:List HV) (st:HSt) (r:HV) (st':HSt):Prop:=∃ n,evHF C K T n f ws st=some (r,st')
def Run (C:Calls') (K:HCalls) (T:Nat→Option HF) (c:HC) (s:HS) (ex:Ex) (s':HS):Prop:=∃ n,evHC C (evHF C K T n) n c s=some (ex,s')
def Seq (C:Calls') (K:HCalls) (T:Nat→Option HF) (s:HS) (ops:List HI) (s':HS):Prop:=∃ n,stepsH C (evHF C K T n) s ops=some s'
theorem Run.up {c:HC} {s s':HS} {ex:Ex} {n m:Nat} (hle:n ≤ m) (h:evHC C (evHF C K T n) n c s=some (ex,s')):evHC C (evHF C K T m) m c s=some (ex,s'):=evHC_mono (evHF_mono hle) hle h
theorem Ans.known {f:Nat} {ws:List HV} {st st':HSt} {r:HV} (h:K f ws st=some (r,st')):Ans C K T f ws st r st':=⟨1,by simp only [evHF,h]⟩
theorem Ans.intro {f:Nat} {x:HF} (hk:∀ ws st,K f ws st=Option.none) (hx:T f=some x) {ws:List HV} (hl:ws.length=x.np) {st:HSt} {ex:Ex} {s:HS} (hb:Run C K T x.body (paramsH 0 ws,st) ex s) (hex:∀ id,ex ≠ .exit id) {vs:List HV}
    (hr:resHL (hland s (x.res.map resT)) x.res=some vs) {r:HV} {st':HSt} (h1:r=tupHOf vs) (h2:st' = (hland s (x.res.map resT)).2):Ans C K T f ws st r st':=by
  obtain ⟨n,hn⟩:=hb
  refine ⟨n + 1,?_⟩
  subst h1;subst h2
  simp only [evHF,hk,hx,hl,if_true,hn]
  cases ex with
  | norm=>simp [hr]
  | ret=>simp [hr]
  | exit id=>exact absurd rfl (hex id)
theorem Run.skip {s:HS}:Run C K T .skip s .norm s:=⟨1,rfl⟩
theorem Run.ret {s:HS}:Run C K T .ret s .ret s:=⟨1,rfl⟩
theorem Run.exit {s:HS} {id:Nat} {k:List Nat}:Run C K T (.exit id k) s (.exit id) (s.1.keep k,s.2):=⟨1,rfl⟩
theorem Run.seq {a b:HC} {s s1 s2:HS} {ex:Ex} (h1:Run C K T a s .norm s1) (h2:Run C K T b s1 ex s2):Run C K T (.seq a b) s ex s2:=by
  obtain ⟨n,hn⟩:=h1
  obtain ⟨m,hm⟩:=h2
  refine ⟨max n m + 1,?_⟩
  have e1:=evHC_mono (evHF_mono (C:=C) (K:=K) (T:=T) (show n ≤ max n m + 1 by omega)) (show n ≤ max n m by omega) hn
  have e2:=evHC_mono (evHF_mono (C:=C) (K:=K) (T:=T) (show m ≤ max n m + 1 by omega)) (show m ≤ max n m by omega) hm
  simp only [evHC,e1,e2]
theorem Run.seqX {a b:HC} {s s1:HS} {ex:Ex} (h1:Run C K T a s ex s1) (hx:ex ≠ .norm):Run C K T (.seq a b) s ex s1:=by
  obtain ⟨n,hn⟩:=h1
  refine ⟨n + 1,?_⟩
  have e1:=evHC_mono (evHF_mono (C:=C) (K:=K) (T:=T) (show n ≤ n + 1 by omega)) (Nat.le_refl n) hn
  simp only [evHC,e1]
  cases ex with
  | norm=>exact absurd rfl hx
  | _=>rfl
def fgtS (k:List Nat) (ex:Ex) (s:HS):HS:=match ex with
  | .norm=>(s.1.keep k,s.2)
  | _=>s
theorem fgtH_S (k:List Nat) (ex:Ex) (s:HS):fgtH k (some (ex,s))=some (ex,fgtS k ex s):=by cases ex <;> rfl
def blockX (id:Nat):Ex→Ex
  | .exit id'=>if id' = id then .norm else .exit id'
  | e=>e
theorem Run.block {id:Nat} {b:HC} {k:List Nat} {s s1:HS} {ex:Ex} (h:Run C K T b s ex s1):Run C K T (.block id b k) s (blockX id ex) (fgtS k (blockX id ex) s1):=by
  obtain ⟨n,hn⟩:=h
  refine ⟨n + 1,?_⟩
  have e1:=evHC_mono (evHF_mono (C:=C) (K:=K) (T:=T) (show n ≤ n + 1 by omega)) (Nat.le_refl n) hn
  simp only [evHC,e1]
  cases ex with
  | norm=>rfl
  | ret=>rfl
  | exit id' =>
    by_cases hid:id' = id
    · simp only [hid,if_true,blockX];rfl
    · simp only [hid,if_false,blockX];rfl
theorem Run.loopX {b:HC} {k:List Nat} {s s1:HS} {ex:Ex} (h:Run C K T b s ex s1) (hx:ex ≠ .norm):Run C K T (.loop b k) s ex s1:=by
  obtain ⟨n,hn⟩:=h
  refine ⟨n + 1,?_⟩
  have e1:=evHC_mono (evHF_mono (C:=C) (K:=K) (T:=T) (show n ≤ n + 1 by omega)) (Nat.le_refl n) hn
  simp only [evHC,e1,fgtH_S]
  cases ex with
  | norm=>exact absurd rfl hx
  | _=>rfl
theorem Run.loopN {b:HC} {k:List Nat} {s s1 s2:HS} {ex:Ex} (h:Run C K T b s .norm s1) (h2:Run C K T (.loop b k) (s1.1.keep k,s1.2) ex s2):Run C K T (.loop b k) s ex s2:=by
  obtain ⟨n,hn⟩:=h
  obtain ⟨m,hm⟩:=h2
  refine ⟨max n m + 1,?_⟩
  have e1:=evHC_mono (evHF_mono (C:=C) (K:=K) (T:=T) (show n ≤ max n m + 1 by omega)) (show n ≤ max n m by omega) hn
  have e2:=evHC_mono (evHF_mono (C:=C) (K:=K) (T:=T) (show m ≤ max n m + 1 by omega)) (show m ≤ max n m by omega) hm
  simp only [evHC,e1,fgtH_S,fgtS,e2]
theorem Run.loop {b:HC} {k:List Nat} {ex:Ex} (I:HS→Prop) (Q:HS→Prop) (μ:HS→Nat)
    (step:∀ s,I s→(∃ s1,Run C K T b s ex s1∧ex ≠ .norm∧Q s1) ∨ ∃ s1,Run C K T b s .norm s1∧I (s1.1.keep k,s1.2)∧μ (s1.1.keep k,s1.2) < μ s):∀ s,I s → ∃ s',Run C K T (.loop b k) s ex s' ∧ Q s':=by
  intro s
  induction hn:μ s using Nat.strongRecOn generalizing s with
  | ind n ih =>
    intro hs
    rcases step s hs with ⟨s1,h1,h2,h3⟩ | ⟨s1,h1,h2,h3⟩
    · exact ⟨s1,.loopX h1 h2,h3⟩
    · obtain ⟨s',h4,h5⟩:=ih _ (by omega) _ rfl h2
      exact ⟨s',.loopN h1 h4,h5⟩
theorem Run.reg {ops:List HI} {keep:List Nat} {s s':HS} (h:Seq C K T s ops s'):Run C K T (.reg ops false keep) s .norm (s'.1.keep keep,s'.2):=by
  obtain ⟨n,hn⟩:=h
  refine ⟨n + 1,?_⟩
  have:=stepsH_mono (C:=C) (evHF_mono (C:=C) (K:=K) (T:=T) (show n ≤ n + 1 by omega)) hn
  simp only [evHC,Bool.false_eq_true,if_false,this,Option.map_some]
theorem Run.regD {ops:List HI} {keep:List Nat} {s s':HS} (h:∃ n,regHD C (evHF C K T n) s ops=some s'):Run C K T (.reg ops true keep) s .norm (s'.1.keep keep,s'.2):=by
  obtain ⟨n,hn⟩:=h
  refine ⟨n + 1,?_⟩
  have:=regHD_mono (C:=C) (evHF_mono (C:=C) (K:=K) (T:=T) (show n ≤ n + 1 by omega)) hn
  simp only [evHC,if_true,this,Option.map_some]
theorem Seq.nil {s:HS}:Seq C K T s [] s:=⟨0,rfl⟩
theorem Seq.cons {s s1 s':HS} {o:HI} {r:List HI} (h:∃ n,stepH C (evHF C K T n) s o=some s1) (h2:Seq C K T s1 r s'):Seq C K T s (o :: r) s':=by
  obtain ⟨n,hn⟩:=h
  obtain ⟨m,hm⟩:=h2
  refine ⟨max n m,?_⟩
  simp only [stepsH,stepH_mono (evHF_mono (C:=C) (K:=K) (T:=T) (show n ≤ max n m by omega)) hn]
  exact stepsH_mono (evHF_mono (C:=C) (K:=K) (T:=T) (show m ≤ max n m by omega)) hm
end
end Go.Ab
namespace Go.Ab
open Go
set_option linter.unusedVariables false
set_option linter.unusedSimpArgs false
def oel {α β:Type} (x:Option α) (f:α→β) (g:Unit→β):β:=match x with
  | some v=>f v
  | Option.none=>g ()
@[congr] theorem oel_congr {α β:Type} {x y:Option α} {f:α→β} {g:Unit→β} (h:x=y):oel x f g=oel y f g:=by rw [h]
theorem oel_some {α β:Type} {v:α} {f:α→β} {g:Unit→β}:oel (some v) f g=f v:=(rfl)
theorem oel_none {α β:Type} {f:α→β} {g:Unit→β}:oel Option.none f g=g ():=(rfl)
def bel {β:Type} (x:Bool) (f g:Unit→β):β:=match x with
  | true=>f ()
  | false=>g ()
@[congr] theorem bel_congr {β:Type} {x y:Bool} {f g:Unit→β} (h:x=y):bel x f g=bel y f g:=by rw [h]
theorem bel_true {β:Type} {f g:Unit→β}:bel true f g=f ():=(rfl)
theorem bel_false {β:Type} {f g:Unit→β}:bel false f g=g ():=(rfl)
def hvel {β:Type} (x:HV) (f g:Unit→Option β):Option β:=match x with
  | .p (.bool true)=>f ()
  | .p (.bool false)=>g ()
  | _=>Option.none
@[congr] theorem hvel_congr {β:Type} {x y:HV} {f g:Unit→Option β} (h:x=y):hvel x f g=hvel y f g:=by rw [h]
theorem hvel_true {β:Type} {f g:Unit→Option β}:hvel (.p (.bool true)) f g=f ():=(rfl)
theorem hvel_false {β:Type} {f g:Unit→Option β}:hvel (.p (.bool false)) f g=g ():=(rfl)
def exel (x:Option (Ex × HS)) (f:HS→Option (Ex × HS)):Option (Ex × HS):=match x with
  | some (.norm,s)=>f s
  | r=>r
@[congr] theorem exel_congr {x y:Option (Ex × HS)} {f:HS→Option (Ex × HS)} (h:x=y):exel x f=exel y f:=by rw [h]
theorem exel_norm {s:HS} {f:HS→Option (Ex × HS)}:exel (some (.norm,s)) f=f s:=(rfl)
theorem exel_ret {s:HS} {f:HS→Option (Ex × HS)}:exel (some (.ret,s)) f=some (.ret,s):=(rfl)
theorem exel_exit {s:HS} {i:Nat} {f:HS→Option (Ex × HS)}:exel (some (.exit i,s)) f=some (.exit i,s):=(rfl)
def retel {β:Type} (x:Option (Ex × HS)) (f:HS→Option β):Option β:=match x with
  | some (.exit _,_)=>Option.none
  | some (_,s)=>f s
  | Option.none=>Option.none
@[congr] theorem retel_congr {β:Type} {x y:Option (Ex × HS)} {f:HS→Option β} (h:x=y):retel x f=retel y f:=by rw [h]
theorem retel_norm {β:Type} {s:HS} {f:HS→Option β}:retel (some (.norm,s)) f=f s:=(rfl)
theorem retel_ret {β:Type} {s:HS} {f:HS→Option β}:retel (some (.ret,s)) f=f s:=(rfl)
theorem fgtH_norm {k:List Nat} {s:HS}:fgtH k (some (.norm,s))=some (.norm,(s.1.keep k,s.2)):=(rfl)
theorem fgtH_ret {k:List Nat} {s:HS}:fgtH k (some (.ret,s))=some (.ret,s):=(rfl)
theorem fgtH_exit {k:List Nat} {i:Nat} {s:HS}:fgtH k (some (.exit i,s))=some (.exit i,s):=(rfl)
def blkel (id:Nat):Option (Ex × HS)→Option (Ex × HS)
  | some (.exit id',s')=>if id' = id then some (.norm,s') else some (.exit id',s')
  | r=>r
theorem blkel_norm {id:Nat} {s:HS}:blkel id (some (.norm,s))=some (.norm,s):=(rfl)
theorem blkel_ret {id:Nat} {s:HS}:blkel id (some (.ret,s))=some (.ret,s):=(rfl)
theorem blkel_exit {id i:Nat} {s:HS}:blkel id (some (.exit i,s))=if i=id then some (.norm,s) else some (.exit i,s):=(rfl)
theorem get_nil {t:Nat}:HEnv.get [] t = .p .none:=(rfl)
theorem get_cons {k t:Nat} {v:HV} {r:HEnv}:HEnv.get ((k,v) :: r) t=if t=k then v else HEnv.get r t:=(rfl)
theorem set_nil {t:Nat} {v:HV}:HEnv.set [] t v=[(t,v)]:=(rfl)
theorem set_cons {k t:Nat} {x v:HV} {r:HEnv}:HEnv.set ((k,x) :: r) t v=if t < k then (t,v) :: (k,x) :: r else if t=k then (t,v) :: r else (k,x) :: HEnv.set r t v:=(rfl)
theorem keep_nil {l:List Nat}:HEnv.keep l []=[]:=(rfl)
theorem keep_cons {l:List Nat} {k:Nat} {x:HV} {r:HEnv}:HEnv.keep l ((k,x) :: r)=if l.contains k=true then (k,x) :: HEnv.keep l r else HEnv.keep l r:=(rfl)
theorem params_nil {i:Nat}:paramsH i []=[]:=(rfl)
theorem params_cons {i:Nat} {v:HV} {r:List HV}:paramsH i (v :: r)=(i,v) :: paramsH (i + 1) r:=(rfl)
theorem lookHG_t {g:Nat→HV} {n:Nat}:lookHG g (.t n)=vis (g n):=(rfl)
theorem lookHG_k {g:Nat→HV} {v:PV}:lookHG g (.k v) = .p v:=(rfl)
theorem lookHG_f {g:Nat→HV} {n:Nat}:lookHG g (.f n) = .p (.fn n []):=(rfl)
def alG (n:Nat):PV→PV
  | .agg cs=>.agg (alL n [] 0 cs)
  | .tup cs=>if noOwnL cs then .tup cs else .none
  | v=>al n [] v
theorem lookPG_t {g:Nat→HV} {n:Nat}:lookPG g (.t n)=alG n (toP (g n)):=by
  show lookG (fun t=>toP (g t)) (.t n)=_
  simp only [lookG]
  cases toP (g n) <;> rfl
theorem lookPG_k {g:Nat→HV} {v:PV}:lookPG g (.k v)=v:=(rfl)
theorem lookPG_f {g:Nat→HV} {n:Nat}:lookPG g (.f n) = .fn n []:=(rfl)
def wantsE (e:HEnv) (g:Option (Nat × Bool)):Option Bool:=wantsG (fun t=>toP (e.get t)) g
theorem wantsE_none {e:HEnv}:wantsE e Option.none=some true:=(rfl)
def wantB (want:Bool):PV→Option Bool
  | .bool b=>some (b == want)
  | .tup []=>some false
  | _=>Option.none
theorem wantsE_some {e:HEnv} {d:Nat} {b:Bool}:wantsE e (some (d,b))=wantB b (toP (e.get d)):=by
  simp only [wantsE,wantsG]
  cases toP (e.get d) with
  | tup cs=>cases cs <;> rfl
  | _=>rfl
theorem wantB_bool {w b:Bool}:wantB w (.bool b)=some (b == w):=(rfl)
theorem wantB_skip {w:Bool}:wantB w (.tup [])=some false:=(rfl)
section
variable {C:Calls'} {H K:HCalls} {T:Nat→Option HF}
theorem stepsH_nil {s:HS}:stepsH C H s []=some s:=(rfl)
theorem stepsH_cons {s:HS} {o:HI} {r:List HI}:stepsH C H s (o :: r)=oel (stepH C H s o) (fun s'=>stepsH C H s' r) (fun _=>Option.none):=by
  simp only [stepsH]
  cases stepH C H s o <;> rfl
theorem stepH_eq {e:HEnv} {st:HSt} {dst:Option Nat} {op:HOp} {g:Option (Nat × Bool)} {bar:Bool} {ls:List Nat}:stepH C H (e,st) ⟨dst,op,g,bar,ls⟩ =
    oel (wantsE e g) (fun b=>bel b (fun _=>stepHL C H (hland (e,st) op.temps) ⟨dst,op,g,bar,ls⟩) (fun _=>some (setH e dst (.p (.tup [])),st))) (fun _=>Option.none):=by
  simp only [stepH,wantsE]
  cases wantsG (fun t=>toP (e.get t)) g with
  | none=>rfl
  | some b=>cases b <;> rfl
theorem stepHL_eq {e:HEnv} {st:HSt} {dst:Option Nat} {op:HOp} {g:Option (Nat × Bool)} {bar:Bool} {ls:List Nat}:stepHL C H (e,st) ⟨dst,op,g,bar,ls⟩ =
    oel (evHP C (lookHG e.get) (lookPG e.get) st op) (fun v=>oel dst (fun d=>some (e.set d v,st)) (fun _=>Option.none))
      (fun _=>oel (evHS H (lookHG e.get) st op) (fun r=>some (setH e dst r.1,r.2)) (fun _=>Option.none)):=by
  simp only [stepHL]
  cases evHP C (lookHG e.get) (lookPG e.get) st op with
  | some v=>cases dst <;> rfl
  | none=>cases evHS H (lookHG e.get) st op <;> rfl
theorem evHP_x {L:XO→HV} {LP:XO→PV} {st:HSt} {o:XOp}:evHP C L LP st (.x o) =
    oel (evHX L st o) some (fun _=>oel (evP C LP (fun _ _=>.none) o) (fun v=>if (v.loose || fresh v)=true then some (.p v) else Option.none) (fun _=>evHN L o)):=by
  simp only [evHP]
  cases evHX L st o with
  | some v=>rfl
  | none=>cases evP C LP (fun _ _=>.none) o <;> rfl
theorem evHP_bm {L:XO→HV} {LP:XO→PV} {st:HSt} {f:Nat} {l:List XO}:evHP C L LP st (.bm f l)=some (.bm f (l.map L)):=(rfl)
theorem evHP_snil {L:XO→HV} {LP:XO→PV} {st:HSt} {n:Bool} {x:XO}:evHP C L LP st (.snil n x)=evHV L st (.snil n x):=(rfl)
theorem evHP_slc0 {L:XO→HV} {LP:XO→PV} {st:HSt} {x:XO}:evHP C L LP st (.slc0 x)=evHV L st (.slc0 x):=(rfl)
theorem evHP_copy {L:XO→HV} {LP:XO→PV} {st:HSt} {n:Nat} {d s:XO}:evHP C L LP st (.copy n d s)=Option.none:=(rfl)
variable {n:Nat}
theorem evHC_skip {s:HS}:evHC C H (n + 1) .skip s=some (.norm,s):=(rfl)
theorem evHC_ret {s:HS}:evHC C H (n + 1) .ret s=some (.ret,s):=(rfl)
theorem evHC_exit {s:HS} {i:Nat} {k:List Nat}:evHC C H (n + 1) (.exit i k) s=some (.exit i,(s.1.keep k,s.2)):=(rfl)
theorem evHC_reg {s:HS} {ops:List HI} {k:List Nat}:evHC C H (n + 1) (.reg ops false k) s=oel (stepsH C H s ops) (fun s'=>some (.norm,(s'.1.keep k,s'.2))) (fun _=>Option.none):=by
  simp only [evHC,Bool.false_eq_true,if_false]
  cases stepsH C H s ops <;> rfl
theorem evHC_regD {s:HS} {ops:List HI} {k:List Nat}:evHC C H (n + 1) (.reg ops true k) s=oel (regHD C H s ops) (fun s'=>some (.norm,(s'.1.keep k,s'.2))) (fun _=>Option.none):=by
  simp only [evHC,if_true]
  cases regHD C H s ops <;> rfl
theorem evHC_seq {s:HS} {a b:HC}:evHC C H (n + 1) (.seq a b) s=exel (evHC C H n a s) (fun s'=>evHC C H n b s'):=by
  simp only [evHC]
  cases evHC C H n a s with
  | none=>rfl
  | some r=>obtain ⟨ex,s'⟩:=r;cases ex <;> rfl
theorem evHC_cond {s:HS} {x:XO} {a b:HC} {k:List Nat}:evHC C H (n + 1) (.cond x a b k) s=fgtH k (hvel (lookHG s.1.get x) (fun _=>evHC C H n a s) (fun _=>evHC C H n b s)):=by
  simp only [evHC]
  congr 1
theorem evHC_block {s:HS} {i:Nat} {b:HC} {k:List Nat}:evHC C H (n + 1) (.block i b k) s=fgtH k (blkel i (evHC C H n b s)):=by
  simp only [evHC]
  congr 1
theorem evHC_loop {s:HS} {b:HC} {k:List Nat}:evHC C H (n + 1) (.loop b k) s=exel (fgtH k (evHC C H n b s)) (fun s'=>evHC C H n (.loop b k) s'):=by
  simp only [evHC]
  cases fgtH k (evHC C H n b s) with
  | none=>rfl
  | some r=>obtain ⟨ex,s'⟩:=r;cases ex <;> rfl
theorem evHF_eq {f:Nat} {args:List HV} {st:HSt}:evHF C K T (n + 1) f args st =
    oel (K f args st) some (fun _=>oel (T f) (fun x=>if args.length=x.np then
      retel (evHC C (evHF C K T n) n x.body (paramsH 0 args,st)) (fun s=>oel (resHL (hland s (x.res.map resT)) x.res) (fun vs=>some (tupHOf vs,(hland s (x.res.map resT)).2)) (fun _=>Option.none))
      else Option.none) (fun _=>Option.none)):=by
  simp only [evHF]
  cases K f args st with
  | some r=>rfl
  | none =>
    cases T f with
    | none=>rfl
    | some x =>
      show (if args.length=x.np then _ else _)=(if args.length=x.np then _ else _)
      by_cases h:args.length=x.np
      · rw [if_pos h,if_pos h]
        cases evHC C (evHF C K T n) n x.body (paramsH 0 args,st) with
        | none=>rfl
        | some r =>
          obtain ⟨ex,s⟩:=r
          cases ex with
          | exit i=>rfl
          | norm=>simp only [retel];cases resHL (hland s (x.res.map resT)) x.res <;> rfl
          | ret=>simp only [retel];cases resHL (hland s (x.res.map resT)) x.res <;> rfl
      · rw [if_neg h,if_neg h]
theorem regHD_eq {e:HEnv} {st:HSt} {ops:List HI}:regHD C H (e,st) ops =
    if (hland (e,st) (e.map (·.1))).1.all (fun x=>!isFresh x.2)=true then
      oel (traceHD C H (hland (e,st) (e.map (·.1))) ops) (fun tr=>if stableAll tr tr ops=true then lastO tr else Option.none) (fun _=>Option.none)
    else Option.none:=by
  simp only [regHD]
  split
  · cases traceHD C H (hland (e,st) (e.map (·.1))) ops <;> rfl
  · rfl
theorem traceHD_nil {s:HS}:traceHD C H s []=some [s]:=(rfl)
theorem traceHD_cons {e:HEnv} {st:HSt} {dst:Option Nat} {op:HOp} {g:Option (Nat × Bool)} {bar:Bool} {ls:List Nat} {r:List HI}:traceHD C H (e,st) (⟨dst,op,g,bar,ls⟩ :: r) =
    bel bar (fun _=>oel (stepH C H (e,st) ⟨dst,op,g,bar,ls⟩) (fun s'=>oel (traceHD C H s' r) (fun t=>some ((e,st) :: t)) (fun _=>Option.none)) (fun _=>Option.none))
      (fun _=>oel (stepHD C st e ⟨dst,op,g,bar,ls⟩) (fun p=>oel (traceHD C H (e.set p.1 p.2,st) r) (fun t=>some ((e,st) :: t)) (fun _=>Option.none)) (fun _=>Option.none)):=by
  simp only [traceHD]
  cases bar with
  | true =>
    simp only [if_true,bel]
    cases stepH C H (e,st) ⟨dst,op,g,true,ls⟩ with
    | none=>rfl
    | some s'=>cases hh:traceHD C H s' r <;> simp [oel,hh]
  | false =>
    simp only [Bool.false_eq_true,if_false,bel]
    cases stepHD C st e ⟨dst,op,g,false,ls⟩ with
    | none=>rfl
    | some s'=>obtain ⟨d,v⟩:=s';cases hh:traceHD C H (e.set d v,st) r <;> simp [oel,hh]
theorem stepHD_eq {e:HEnv} {st:HSt} {d:Nat} {op:HOp} {g:Option (Nat × Bool)} {bar:Bool} {ls:List Nat}:stepHD C st e ⟨some d,op,g,bar,ls⟩ =
    oel (wantsE e g) (fun b=>bel b (fun _=>oel (evHP C (lookHG e.get) (lookPG e.get) st op) (fun v=>some (d,v)) (fun _=>Option.none)) (fun _=>some (d,.p (.tup [])))) (fun _=>Option.none):=by
  simp only [stepHD,wantsE]
  cases wantsG (fun t=>toP (e.get t)) g with
  | none=>rfl
  | some b =>
    cases b with
    | false=>rfl
    | true=>simp only [oel,bel];cases evHP C (lookHG e.get) (lookPG e.get) st op <;> rfl
end
theorem fr_none:(PV.none ).free=false:=(rfl)
theorem fr_bool (b:Bool):(PV.bool b).free=true:=(rfl)
theorem fr_int (k:IntKind) (n:Int):(PV.int k n).free=true:=(rfl)
theorem fr_str (s:List UInt8):(PV.str s).free=true:=(rfl)
theorem fr_nilp:(PV.nilp ).free=true:=(rfl)
theorem fr_nils:(PV.nils ).free=true:=(rfl)
theorem fr_nilf:(PV.nilf ).free=true:=(rfl)
theorem fr_sl (n:Nat) (cs:List PV):(PV.sl n cs).free=true:=(rfl)
theorem fr_sp (cs:List PV):(PV.sp cs).free=true:=(rfl)
theorem fr_ref (r:Nat) (p:List Nat) (i n:Nat):(PV.ref r p i n).free=false:=(rfl)
theorem fr_view (r:Nat) (p:List Nat) (o l z:Nat):(PV.view r p o l z).free=false:=(rfl)
theorem fr_box (cs:List PV):(PV.box cs).free=false:=(rfl)
theorem fr_own (sz len:Nat) (cs:List PV):(PV.own sz len cs).free=false:=(rfl)
theorem fr_agg (cs:List PV):(PV.agg cs).free=false:=(rfl)
theorem fr_tup (cs:List PV):(PV.tup cs).free=false:=(rfl)
theorem fr_fn (f:Nat) (cs:List PV):(PV.fn f cs).free=false:=(rfl)
theorem getElem?_len {α:Type} (l r:List α) (k:Nat):(l ++ r)[l.length + k]? = r[k]?:=by
  rw [List.getElem?_append_right (by omega)];congr 1;omega
theorem getElem?_len0 {α:Type} (l r:List α):(l ++ r)[l.length]? = r[0]?:=by
  rw [List.getElem?_append_right (by omega)];congr 1;omega
theorem set_len0 {α:Type} (l r:List α) (x:α):(l ++ r).set l.length x=l ++ r.set 0 x:=by
  rw [List.set_append_right _ _ (by omega)];congr 2;omega
theorem set_len {α:Type} (l r:List α) (k:Nat) (x:α):(l ++ r).set (l.length + k) x=l ++ r.set k x:=by
  rw [List.set_append_right _ _ (by omega)];congr 2;omega
theorem len_app {α:Type} (l r:List α):(l ++ r).length=l.length + r.length:=List.length_append
def C0:Calls':=fun _ _=>Option.none
theorem C0_ok {P:Program}:CallOk P C0:=fun _ _ _ _ h=>by cases h
theorem evP_call0 {L:XO→PV} {S:Subs} {f:Nat} {as:List XO} {ms:List Nat}:evP C0 L S (.call f as ms)=Option.none:=by
  cases ms with
  | nil =>
    simp only [evP,C0]
    split <;> rfl
  | cons=>rfl
theorem evP_callv0 {L:XO→PV} {S:Subs} {x:XO} {as:List XO}:evP C0 L S (.callv x as)=Option.none:=by
  simp only [evP,C0]
  split
  · split <;> rfl
  · rfl
theorem evHF_in {C:Calls'} {K:HCalls} {T:Nat→Option HF} {n:Nat} {f:Nat} {args:List HV} {st:HSt} {x:HF} (hk:∀ ws st,K f ws st=Option.none) (hT:T f=some x) (hl:args.length=x.np) {r:Option (HV × HSt)}
    (h:retel (evHC C (evHF C K T n) n x.body (paramsH 0 args,st)) (fun s=>oel (resHL (hland s (x.res.map resT)) x.res) (fun vs=>some (tupHOf vs,(hland s (x.res.map resT)).2)) (fun _=>Option.none))=r):evHF C K T (n + 1) f args st=r:=by
  rw [evHF_eq,hk,hT,oel_none,oel_some,if_pos hl];exact h
end Go.Ab
namespace Go.Ab
open Go Go.ChangeShapes Go.WideShapes Go.ChangeAt Go.RowKit
set_option linter.unusedVariables false
set_option linter.unusedSimpArgs false
section
variable {H:Type} {enc:TypeId × Value→H} {P:Program} {w:World}
theorem looseL_of {cs:List PV} (h:∀ i (hi:i < cs.length),cs[i].free=true):PV.loose (.agg cs)=true:=by
  have h1:noOwnL cs=true:=noOwnL_of fun c hc=>by obtain ⟨i,hi,rfl⟩:=List.getElem_of_mem hc;exact free_noOwn (h i hi)
  have h2:refsL cs=[]:=refsL_nil fun i hi=>free_refs (h i hi)
  simp [PV.loose,noOwn,refs,h1,h2]
theorem arg_repH {n:Nat} {t:TypeId} {v:Value} {d:DataW H} {ps:List MemPlace} {base:Nat} {sp:Nat→Bool} {held:Bool} (hp:plainTy P n t=true) (hval:Value.okWide P w .any base t v) (h:DataW.Trod enc P w 0 sp held t v d ps) :
    ∃ pv,argPV P n t d=some pv∧(∀ hd,RepV w (allSh w) hd pv v)∧pv.loose=true:=by
  obtain ⟨fuel,hf⟩:=h
  obtain ⟨pvs,h1,h2,h3⟩:=trod_rep _ _ _ _ _ _ hp hf
  have agg:∀ cs,v = .agg cs→(∀ hd,RepV w (allSh w) hd (.agg pvs) v)∧PV.loose (.agg pvs)=true:=fun cs hv=>by
    subst hv
    have hl:cs.size=pvs.length:=by simpa [Value.cells] using h2.symm
    refine ⟨fun hd=>.agg _ _ _ hl fun i hi=>?_,looseL_of fun i hi=>(h3 i hi).2⟩
    have:=(h3 i hi).1.any (h3 i hi).2 (Hd.snoc hd i)
    simpa [Value.cells,Array.getD,List.getD,show i < cs.size by omega] using this
  have one:(∀ cs,v ≠ .agg cs) → ∃ x,pvs=[x]∧(∀ hd,RepV w (allSh w) hd x v)∧x.loose=true:=fun hv=>by
    have hc:v.cells = #[v]:=by cases v <;> first | rfl | exact absurd rfl (hv _)
    rw [hc] at h2 h3
    obtain ⟨x,rfl⟩:=List.length_eq_one_iff.1 (show pvs.length=1 by simpa using h2)
    have:=h3 0 (by simp)
    exact ⟨x,rfl,fun hd=>by simpa using this.1.any this.2 hd,free_loose (by simpa using this.2)⟩
  unfold argPV
  cases n with
  | zero=>simp [plainTy] at hp
  | succ n =>
    simp only [plainTy] at hp
    unfold Value.okWide at hval
    cases hu:P.underlying t with
    | none=>rw [hu] at hp;cases hp
    | some td =>
      rw [hu] at hp hval
      cases td with
      | struct fs =>
        obtain ⟨cs,hv,_⟩:=hval
        exact ⟨.agg pvs,by simp [h1],agg cs hv⟩
      | array m e =>
        obtain ⟨cs,hv,_⟩:=hval
        exact ⟨.agg pvs,by simp [h1],agg cs hv⟩
      | bool =>
        obtain ⟨x,rfl,hx⟩:=one (fun cs hv=>by subst hv;simp [Cell.okWide,hu,Cell.ok] at hval)
        exact ⟨x,by simp [h1],hx⟩
      | int k =>
        obtain ⟨x,rfl,hx⟩:=one (fun cs hv=>by subst hv;simp [Cell.okWide,hu,Cell.ok] at hval)
        exact ⟨x,by simp [h1],hx⟩
      | string =>
        obtain ⟨x,rfl,hx⟩:=one (fun cs hv=>by subst hv;simp [Cell.okWide,hu,Cell.ok] at hval)
        exact ⟨x,by simp [h1],hx⟩
      | slice e =>
        obtain ⟨x,rfl,hx⟩:=one (fun cs hv=>by subst hv;simp [Cell.okWide,hu,Cell.ok] at hval)
        exact ⟨x,by simp [h1],hx⟩
      | _=>cases hp
theorem args_repH {n:Nat} {base:Nat} {sp:Nat→Bool} {held:Bool}:∀ {ts:List TypeId} {vs:List Value} {ds:List (DataW H)} {ps:List MemPlace},ts.all (fun t=>plainTy P n t)=true →
    (∀ (j:Nat) t v,ts[j]? = some t→vs[j]? = some v→Value.okWide P w .any base t v)→DataW.TrodAll enc P w 0 sp held ts vs ds ps →
    ∃ ws,argsPV P n ts ds=some ws∧ws.length=vs.length∧vs.length=ts.length∧ds.length=ts.length ∧ ∀ i (hi:i < ws.length) (hi':i < vs.length),(∀ hd,RepV w (allSh w) hd ws[i] vs[i])∧ws[i].loose=true
  | [],vs,ds,ps,hp,hval,h=>by
    cases vs <;> cases ds <;> simp [DataW.TrodAll] at h
    exact ⟨[],rfl,rfl,rfl,rfl,fun i hi=>by simp at hi⟩
  | t :: ts,vs,ds,ps,hp,hval,h=>by
    obtain ⟨v,vs',d,ds',p,q,rfl,rfl,rfl,h1,h2⟩:=trodAll_cons h
    simp only [List.all_cons,Bool.and_eq_true] at hp
    obtain ⟨pv,h3,h4,h5⟩:=arg_repH hp.1 (hval 0 t v rfl rfl) h1
    obtain ⟨ws,h6,h7,h8,h9,h10⟩:=args_repH hp.2 (fun j t' v' ht hv=>hval (j + 1) t' v' (by simpa using ht) (by simpa using hv)) h2
    refine ⟨pv :: ws,by simp [argsPV,h3,h6],by simp [h7],by simp [h8],by simp [h9],fun i hi hi'=>?_⟩
    cases i with
    | zero=>exact ⟨h4,h5⟩
    | succ i=>exact h10 i (by simpa using hi) (by simpa using hi')
theorem law_contractH {HC:HCalls} (hH:HCallOk P HC) (hl:laidOutB P=true) {f:Nat} {fn:Func} {rt:TypeId} (hr:fn.resultTypes = #[rt]) (hrt:P.underlying rt=some .bool)
    {ts:List TypeId} {N:Nat} (hps:fn.params.toList=ts) (hplain:ts.all (fun t=>plainTy P N t)=true) (hread:ts.all (fun t=>P.readableRec t && decide (t < P.types.size))=true)
    {s:ChangeSpec} (hvars:s.vars=[]) {args:Array Value} {ds gs:List (DataW H)} {before:List MemPlace} {base:Nat} (hs0:ds.length=ts.length→s.fn H ds = { results:=[.lit (.bool true)],args:=ds })
    (hval:∀ (j:Nat) t v,fn.params[j]? = some t→args[j]? = some v→Value.okWide P w .any base t v)
    (hW:DataW.Whole enc P fn.params.toList s.vars false w args.toList ds gs before)
    (hwt:(DataW.weightsEach P (fn.params.toList ++ s.plain.varTypes P) (ds ++ gs)).all (· ≤ reachBytes)=true)
    (law:∀ ws,(argsPV P N ts ds=some ws ∧ ∀ x ∈ DataW.weightsEach P ts ds,x ≤ reachBytes) → ∃ st',HC f (ws.map .p) []=some (.p (.bool true),st')) :
    Calls P f args w fun e w'=>∃ v,e = .returned v∧s.post enc P fn false true false false w args v w':=by
  have hW':=hW
  obtain ⟨p,q,hA,hV,rfl,hfz,hnd⟩:=hW
  rw [hps] at hA
  obtain ⟨ws,h1,h2,h3,h4,h5⟩:=args_repH hplain (fun j t v ht hv=>hval j t v (by rw [← hps] at ht;simpa using ht) (by simpa using hv)) hA
  have hs:=hs0 h4
  have hwt':∀ x ∈ DataW.weightsEach P ts ds,x ≤ reachBytes:=fun x hx=>by
    have:=List.all_eq_true.1 hwt x (by rw [hps];exact weightsEach_left h4 x hx)
    simpa using this
  obtain ⟨st',hev⟩:=law ws ⟨h1,hwt'⟩
  obtain ⟨_,hcall⟩:=hH f (ws.map .p) _ _ _ hev
  have hsz:args.size=(ws.map HV.p).length:=by simpa using h2.symm
  have O0:HOk w (allSh w) [] []:=by
    refine ⟨allSh_wf w,rfl,fun b j r p i h _=>?_,fun a k h=>by simp at h,fun a b o m k h=>by simp at h,fun a a' b o m o' m' ks vs h=>by simp at h⟩
    simp only [allSh] at h;split at h <;> cases h
  refine Calls.mono (hcall args w (allSh w) [] hsz O0 (fun b j q p i h=>by simp only [allSh] at h;split at h <;> cases h) fun i hi=>?_) fun e w' he=>?_
  · have hi0:i < ws.length:=by simpa using hi
    have hi':i < args.size:=by omega
    have:=h5 i hi0 (by simpa using hi')
    have h6:=this.1 Option.none
    have:RepH w (allSh w) [] (.p ws[i]) (args.getD i undef):=.p _ _ this.2 (by simpa [Array.getD,hi'] using h6)
    simpa using this
  · cases e with
    | returned v =>
      obtain ⟨L',A',O',_,HR,E0⟩:=he
      have E:Ext w (allSh w) w' L':=⟨E0.os,E0.tape,E0.output,E0.size,E0.lab,fun b hb=>by
        rcases E0.blk b hb with ⟨a,o,m,es,c,h,_⟩ | h
        · simp at h
        · exact h⟩
      have hb:=below_of_ext E
      obtain ⟨_,HR⟩:=HR.pv
      cases HR
      have hq:q=[]∧gs=[]:=by
        rw [hvars] at hV
        cases gs with
        | nil=>exact ⟨by simpa [DataW.TrodVars] using hV,rfl⟩
        | cons g gs=>simp [DataW.TrodVars] at hV
      obtain ⟨rfl,rfl⟩:=hq
      have hlt:∀ x ∈ p,x.block < w.heap.size:=fun x hx=>hW'.lt x (by simp [hx])
      refine ⟨_,rfl,ds,[],p ++ [],[],p,[],hW',?_,?_,?_,hb.frame _,fun h=>by cases h⟩
      · rw [List.append_nil,hs,hr]
        exact trodAll_mk1 (shut_bool hrt true)
      · rw [List.append_nil,hs,hps]
        exact trods_stay hl hread hA (fun x hx=>hb.same (hlt x hx)) (fun x hx=>by simpa using hlt x hx)
      · rw [List.append_nil,hs,hvars];rfl
    | panicked=>exact he.elim
    | outgrown=>exact he.elim
noncomputable def evHI (C:Calls') (K:HCalls) (T:Nat→Option HF):HCalls:=fun f ws st=>limO fun n=>evHF C K T n f ws st
theorem evHI_some {C:Calls'} {K:HCalls} {T:Nat→Option HF} {f:Nat} {ws:List HV} {st:HSt} {r:HV × HSt}:evHI C K T f ws st=some r ↔ ∃ n,evHF C K T n f ws st=some r :=
  limO_some fun n m x hn h=>evHF_mono hn _ _ _ _ h
theorem evHI_sound (hm:P.follows .mixedOrders=true) {C:Calls'} (hC:CallOk P C) {K:HCalls} (hK:HCallOk P K) {T:Nat→Option HF} (hT:TOkH P T):HCallOk P (evHI C K T):=by
  intro f ws st r st' h
  obtain ⟨n,hn⟩:=evHI_some.1 h
  exact evHF_sound hm hC hK hT n f ws st r st' hn
end
end Go.Ab
namespace Go.Ab
open Go
set_option linter.unusedVariables false
set_option maxRecDepth 100000
theorem rna0:type_of% (And.intro (And.intro (And.intro (And.intro (And.intro @evX_seq (And.intro @evX_block @evX_cond)) (And.intro (And.intro @evX_reg @evX_regD) (And.intro @evX_skip @evX_exit))) (And.intro (And.intro (And.intro @evX_ret @step.eq_1) (And.intro @steps.eq_1 @steps.eq_2)) (And.intro (And.intro @stepP.eq_1 @evP.eq_1) (And.intro @evP.eq_2 @evP.eq_3)))) (And.intro (And.intro (And.intro @evP.eq_4 (And.intro @evP.eq_5 @evP.eq_6)) (And.intro (And.intro @evP.eq_7 @evP.eq_8) (And.intro @evP.eq_9 @evP.eq_10))) (And.intro (And.intro (And.intro @evP.eq_11 @evP.eq_12) (And.intro @evP.eq_13 @evP.eq_14)) (And.intro (And.intro @evP.eq_15 @evP.eq_16) (And.intro @evP.eq_17 @evP.eq_18))))) (And.intro (And.intro (And.intro (And.intro @evP.eq_19 (And.intro @evP.eq_20 @evP.eq_21)) (And.intro (And.intro @evP.eq_22 @evP.eq_23) (And.intro @evP.eq_24 @evP.eq_25))) (And.intro (And.intro (And.intro @evP.eq_26 @evP.eq_27) (And.intro @evP.eq_28 @evP.eq_29)) (And.intro (And.intro @evP.eq_30 @evP.eq_31) (And.intro @evS.eq_1 @evS.eq_3)))) (And.intro (And.intro (And.intro @evS.eq_5 (And.intro @evS.eq_6 @evS.eq_9)) (And.intro (And.intro @evS.eq_11 @evS.eq_14) (And.intro @blocked.eq_1 @wants.eq_1))) (And.intro (And.intro (And.intro @wantsG.eq_1 @wantsG.eq_2) (And.intro @skipped.eq_1 @look.eq_1)) (And.intro (And.intro @lookG.eq_1 @lookG.eq_2) (And.intro @lookG.eq_3 @al.eq_1)))))):=(And.intro (And.intro (And.intro (And.intro (And.intro @evX_seq (And.intro @evX_block @evX_cond)) (And.intro (And.intro @evX_reg @evX_regD) (And.intro @evX_skip @evX_exit))) (And.intro (And.intro (And.intro @evX_ret @step.eq_1) (And.intro @steps.eq_1 @steps.eq_2)) (And.intro (And.intro @stepP.eq_1 @evP.eq_1) (And.intro @evP.eq_2 @evP.eq_3)))) (And.intro (And.intro (And.intro @evP.eq_4 (And.intro @evP.eq_5 @evP.eq_6)) (And.intro (And.intro @evP.eq_7 @evP.eq_8) (And.intro @evP.eq_9 @evP.eq_10))) (And.intro (And.intro (And.intro @evP.eq_11 @evP.eq_12) (And.intro @evP.eq_13 @evP.eq_14)) (And.intro (And.intro @evP.eq_15 @evP.eq_16) (And.intro @evP.eq_17 @evP.eq_18))))) (And.intro (And.intro (And.intro (And.intro @evP.eq_19 (And.intro @evP.eq_20 @evP.eq_21)) (And.intro (And.intro @evP.eq_22 @evP.eq_23) (And.intro @evP.eq_24 @evP.eq_25))) (And.intro (And.intro (And.intro @evP.eq_26 @evP.eq_27) (And.intro @evP.eq_28 @evP.eq_29)) (And.intro (And.intro @evP.eq_30 @evP.eq_31) (And.intro @evS.eq_1 @evS.eq_3)))) (And.intro (And.intro (And.intro @evS.eq_5 (And.intro @evS.eq_6 @evS.eq_9)) (And.intro (And.intro @evS.eq_11 @evS.eq_14) (And.intro @blocked.eq_1 @wants.eq_1))) (And.intro (And.intro (And.intro @wantsG.eq_1 @wantsG.eq_2) (And.intro @skipped.eq_1 @look.eq_1)) (And.intro (And.intro @lookG.eq_1 @lookG.eq_2) (And.intro @lookG.eq_3 @al.eq_1))))))
theorem rna1:type_of% (And.intro (And.intro (And.intro (And.intro (And.intro @al.eq_2 (And.intro @al.eq_3 @al.eq_4)) (And.intro (And.intro @al.eq_5 @al.eq_6) (And.intro @alL.eq_1 @alL.eq_2))) (And.intro (And.intro (And.intro @purge1.eq_1 @purge1.eq_2) (And.intro @purge1.eq_3 @purge1.eq_4)) (And.intro (And.intro @purge1.eq_5 @purgeL.eq_1) (And.intro @purgeL.eq_2 @Env.get.eq_1)))) (And.intro (And.intro (And.intro @Env.get.eq_2 (And.intro @Env.set.eq_1 @Env.set.eq_2)) (And.intro (And.intro @Env.keep.eq_1 @Env.keep.eq_2) (And.intro @Env.purgeBy.eq_1 @Env.purgeBy.eq_2))) (And.intro (And.intro (And.intro @Env.purge.eq_1 @Env.setD.eq_1) (And.intro @Env.sub.eq_1 @Env.upd.eq_1)) (And.intro (And.intro @sub.eq_1 @sub.eq_2) (And.intro @upd.eq_1 @upd.eq_2))))) (And.intro (And.intro (And.intro (And.intro @kids.eq_1 (And.intro @kids.eq_2 @kids.eq_3)) (And.intro (And.intro @kids.eq_4 @setKid.eq_1) (And.intro @setKid.eq_2 @setKid.eq_3))) (And.intro (And.intro (And.intro @setKid.eq_4 @frz.eq_1) (And.intro @frz.eq_2 @frz.eq_3)) (And.intro (And.intro @frz.eq_4 @frz.eq_5) (And.intro @frz.eq_6 @frz.eq_7)))) (And.intro (And.intro (And.intro @frz.eq_8 (And.intro @frz.eq_9 @frzL.eq_1)) (And.intro (And.intro @frzL.eq_2 @refs.eq_1) (And.intro @refs.eq_2 @refs.eq_3))) (And.intro (And.intro (And.intro @refs.eq_4 @refs.eq_5) (And.intro @refsL.eq_1 @refsL.eq_2)) (And.intro (And.intro @noOwn.eq_1 @noOwn.eq_2) (And.intro @noOwn.eq_3 @noOwn.eq_4)))))):=(And.intro (And.intro (And.intro (And.intro (And.intro @al.eq_2 (And.intro @al.eq_3 @al.eq_4)) (And.intro (And.intro @al.eq_5 @al.eq_6) (And.intro @alL.eq_1 @alL.eq_2))) (And.intro (And.intro (And.intro @purge1.eq_1 @purge1.eq_2) (And.intro @purge1.eq_3 @purge1.eq_4)) (And.intro (And.intro @purge1.eq_5 @purgeL.eq_1) (And.intro @purgeL.eq_2 @Env.get.eq_1)))) (And.intro (And.intro (And.intro @Env.get.eq_2 (And.intro @Env.set.eq_1 @Env.set.eq_2)) (And.intro (And.intro @Env.keep.eq_1 @Env.keep.eq_2) (And.intro @Env.purgeBy.eq_1 @Env.purgeBy.eq_2))) (And.intro (And.intro (And.intro @Env.purge.eq_1 @Env.setD.eq_1) (And.intro @Env.sub.eq_1 @Env.upd.eq_1)) (And.intro (And.intro @sub.eq_1 @sub.eq_2) (And.intro @upd.eq_1 @upd.eq_2))))) (And.intro (And.intro (And.intro (And.intro @kids.eq_1 (And.intro @kids.eq_2 @kids.eq_3)) (And.intro (And.intro @kids.eq_4 @setKid.eq_1) (And.intro @setKid.eq_2 @setKid.eq_3))) (And.intro (And.intro (And.intro @setKid.eq_4 @frz.eq_1) (And.intro @frz.eq_2 @frz.eq_3)) (And.intro (And.intro @frz.eq_4 @frz.eq_5) (And.intro @frz.eq_6 @frz.eq_7)))) (And.intro (And.intro (And.intro @frz.eq_8 (And.intro @frz.eq_9 @frzL.eq_1)) (And.intro (And.intro @frzL.eq_2 @refs.eq_1) (And.intro @refs.eq_2 @refs.eq_3))) (And.intro (And.intro (And.intro @refs.eq_4 @refs.eq_5) (And.intro @refsL.eq_1 @refsL.eq_2)) (And.intro (And.intro @noOwn.eq_1 @noOwn.eq_2) (And.intro @noOwn.eq_3 @noOwn.eq_4))))))
theorem rna2:type_of% (And.intro (And.intro (And.intro (And.intro (And.intro @noOwn.eq_5 (And.intro @noOwnL.eq_1 @noOwnL.eq_2)) (And.intro (And.intro @PV.free.eq_1 @PV.free.eq_2) (And.intro @PV.free.eq_3 @PV.free.eq_4))) (And.intro (And.intro (And.intro @PV.free.eq_5 @PV.free.eq_6) (And.intro @PV.free.eq_7 @PV.free.eq_8)) (And.intro (And.intro @take1.eq_1 @take1.eq_2) (And.intro @takeL.eq_1 @takeL.eq_2)))) (And.intro (And.intro (And.intro @copy1.eq_1 (And.intro @copyL.eq_1 @copyL.eq_2)) (And.intro (And.intro @pass1.eq_1 @pass1.eq_2) (And.intro @pass1.eq_3 @passL.eq_1))) (And.intro (And.intro (And.intro @passL.eq_2 @share.eq_1) (And.intro @lend.eq_1 @lend.eq_2)) (And.intro (And.intro @lend1.eq_1 @lendL.eq_1) (And.intro @lendL.eq_2 @lend1L.eq_1))))) (And.intro (And.intro (And.intro (And.intro @lend1L.eq_2 (And.intro @give.eq_1 @give.eq_2)) (And.intro (And.intro @give.eq_3 @give.eq_4) (And.intro @resVal.eq_1 @resVal.eq_2))) (And.intro (And.intro (And.intro @resL.eq_1 @resL.eq_2) (And.intro @outsOf.eq_1 @outsOf.eq_2)) (And.intro (And.intro @tupOf.eq_1 @params.eq_1) (And.intro @params.eq_2 @stepD.eq_1)))) (And.intro (And.intro (And.intro @stepsD.eq_1 (And.intro @stepsD.eq_2 @regD.eq_1)) (And.intro (And.intro @dstsOf.eq_1 @dstsOf.eq_2) (And.intro @setCells.eq_1 @setCells.eq_2))) (And.intro (And.intro (And.intro @putObj.eq_1 @cells.eq_1) (And.intro @fillP.eq_1 @fillP.eq_2)) (And.intro (And.intro @rep.eq_1 @rep.eq_2) (And.intro @part.eq_1 @objCells.eq_1)))))):=(And.intro (And.intro (And.intro (And.intro (And.intro @noOwn.eq_5 (And.intro @noOwnL.eq_1 @noOwnL.eq_2)) (And.intro (And.intro @PV.free.eq_1 @PV.free.eq_2) (And.intro @PV.free.eq_3 @PV.free.eq_4))) (And.intro (And.intro (And.intro @PV.free.eq_5 @PV.free.eq_6) (And.intro @PV.free.eq_7 @PV.free.eq_8)) (And.intro (And.intro @take1.eq_1 @take1.eq_2) (And.intro @takeL.eq_1 @takeL.eq_2)))) (And.intro (And.intro (And.intro @copy1.eq_1 (And.intro @copyL.eq_1 @copyL.eq_2)) (And.intro (And.intro @pass1.eq_1 @pass1.eq_2) (And.intro @pass1.eq_3 @passL.eq_1))) (And.intro (And.intro (And.intro @passL.eq_2 @share.eq_1) (And.intro @lend.eq_1 @lend.eq_2)) (And.intro (And.intro @lend1.eq_1 @lendL.eq_1) (And.intro @lendL.eq_2 @lend1L.eq_1))))) (And.intro (And.intro (And.intro (And.intro @lend1L.eq_2 (And.intro @give.eq_1 @give.eq_2)) (And.intro (And.intro @give.eq_3 @give.eq_4) (And.intro @resVal.eq_1 @resVal.eq_2))) (And.intro (And.intro (And.intro @resL.eq_1 @resL.eq_2) (And.intro @outsOf.eq_1 @outsOf.eq_2)) (And.intro (And.intro @tupOf.eq_1 @params.eq_1) (And.intro @params.eq_2 @stepD.eq_1)))) (And.intro (And.intro (And.intro @stepsD.eq_1 (And.intro @stepsD.eq_2 @regD.eq_1)) (And.intro (And.intro @dstsOf.eq_1 @dstsOf.eq_2) (And.intro @setCells.eq_1 @setCells.eq_2))) (And.intro (And.intro (And.intro @putObj.eq_1 @cells.eq_1) (And.intro @fillP.eq_1 @fillP.eq_2)) (And.intro (And.intro @rep.eq_1 @rep.eq_2) (And.intro @part.eq_1 @objCells.eq_1))))))
theorem rna3:type_of% (And.intro (And.intro (And.intro (And.intro (And.intro @objCells.eq_2 (And.intro @pvBin.eq_1 @pvBin.eq_2)) (And.intro (And.intro @intBin.eq_1 @intBin.eq_2) (And.intro @intBin.eq_3 @intBin.eq_4))) (And.intro (And.intro (And.intro @intBin.eq_5 @intBin.eq_6) (And.intro @intBin.eq_7 @intBin.eq_8)) (And.intro (And.intro @intBin.eq_9 @intBin.eq_10) (And.intro @intBin.eq_11 @intBin.eq_12)))) (And.intro (And.intro (And.intro @intBin.eq_13 (And.intro @intBin.eq_14 @intBin.eq_15)) (And.intro (And.intro @intBin.eq_16 @intBin.eq_17) (And.intro @strBin.eq_1 @strBin.eq_2))) (And.intro (And.intro (And.intro @strBin.eq_3 @slCells.eq_1) (And.intro @slCells.eq_2 @slCells.eq_3)) (And.intro (And.intro @bnd.eq_1 @bnd.eq_2) (And.intro @refAt.eq_1 @refAt.eq_2))))) (And.intro (And.intro (And.intro (And.intro @waysOf.eq_1 (And.intro @und.eq_1 @deep.eq_1)) (And.intro (And.intro @canUpd.eq_1 @isT.eq_1) (And.intro @setO.eq_1 @setO.eq_2))) (And.intro (And.intro (And.intro @boxOnly.eq_1 @boxOnly.eq_2) (And.intro @purges.eq_1 @purges.eq_2)) (And.intro (And.intro @PV.lok.eq_1 @PV.lok.eq_2) (And.intro @eqCells.eq_1 @eqCells.eq_2)))) (And.intro (And.intro (And.intro @eqCells.eq_3 (And.intro @eqCells.eq_4 @pvBeq.eq_1)) (And.intro (And.intro @pvAeq.eq_1 @pvPeq.eq_1) (And.intro @pvPeq.eq_2 @pvPeq.eq_3))) (And.intro (And.intro (And.intro @pvPeq.eq_4 @pvPeq.eq_5) (And.intro @pvUn.eq_1 @pvUn.eq_2)) (And.intro (And.intro @PV.isNone.eq_1 @lent.eq_1) (And.intro @lent.eq_2 @lent.eq_3)))))):=(And.intro (And.intro (And.intro (And.intro (And.intro @objCells.eq_2 (And.intro @pvBin.eq_1 @pvBin.eq_2)) (And.intro (And.intro @intBin.eq_1 @intBin.eq_2) (And.intro @intBin.eq_3 @intBin.eq_4))) (And.intro (And.intro (And.intro @intBin.eq_5 @intBin.eq_6) (And.intro @intBin.eq_7 @intBin.eq_8)) (And.intro (And.intro @intBin.eq_9 @intBin.eq_10) (And.intro @intBin.eq_11 @intBin.eq_12)))) (And.intro (And.intro (And.intro @intBin.eq_13 (And.intro @intBin.eq_14 @intBin.eq_15)) (And.intro (And.intro @intBin.eq_16 @intBin.eq_17) (And.intro @strBin.eq_1 @strBin.eq_2))) (And.intro (And.intro (And.intro @strBin.eq_3 @slCells.eq_1) (And.intro @slCells.eq_2 @slCells.eq_3)) (And.intro (And.intro @bnd.eq_1 @bnd.eq_2) (And.intro @refAt.eq_1 @refAt.eq_2))))) (And.intro (And.intro (And.intro (And.intro @waysOf.eq_1 (And.intro @und.eq_1 @deep.eq_1)) (And.intro (And.intro @canUpd.eq_1 @isT.eq_1) (And.intro @setO.eq_1 @setO.eq_2))) (And.intro (And.intro (And.intro @boxOnly.eq_1 @boxOnly.eq_2) (And.intro @purges.eq_1 @purges.eq_2)) (And.intro (And.intro @PV.lok.eq_1 @PV.lok.eq_2) (And.intro @eqCells.eq_1 @eqCells.eq_2)))) (And.intro (And.intro (And.intro @eqCells.eq_3 (And.intro @eqCells.eq_4 @pvBeq.eq_1)) (And.intro (And.intro @pvAeq.eq_1 @pvPeq.eq_1) (And.intro @pvPeq.eq_2 @pvPeq.eq_3))) (And.intro (And.intro (And.intro @pvPeq.eq_4 @pvPeq.eq_5) (And.intro @pvUn.eq_1 @pvUn.eq_2)) (And.intro (And.intro @PV.isNone.eq_1 @lent.eq_1) (And.intro @lent.eq_2 @lent.eq_3))))))
theorem rna4:type_of% (And.intro (And.intro (And.intro (And.intro @PV.flat1.eq_1 @PV.flat1.eq_2) (And.intro @PV.flat1.eq_3 (And.intro @PV.flat.eq_1 @PV.flat.eq_2))) (And.intro (And.intro @norm1.eq_1 @lendCap.eq_1) (And.intro @lendCap.eq_2 (And.intro @PV.isCap.eq_1 @PV.isCap.eq_2)))) (And.intro (And.intro (And.intro @lendCaps.eq_1 @lendCaps.eq_2) (And.intro @packL.eq_1 (And.intro @fgt.eq_1 @seqK.eq_1))) (And.intro (And.intro @blockK.eq_1 (And.intro @condK.eq_1 @condK.eq_2)) (And.intro @PV.isView.eq_1 (And.intro @PV.isRef.eq_1 @bytesOf.eq_1))))):=(And.intro (And.intro (And.intro (And.intro @PV.flat1.eq_1 @PV.flat1.eq_2) (And.intro @PV.flat1.eq_3 (And.intro @PV.flat.eq_1 @PV.flat.eq_2))) (And.intro (And.intro @norm1.eq_1 @lendCap.eq_1) (And.intro @lendCap.eq_2 (And.intro @PV.isCap.eq_1 @PV.isCap.eq_2)))) (And.intro (And.intro (And.intro @lendCaps.eq_1 @lendCaps.eq_2) (And.intro @packL.eq_1 (And.intro @fgt.eq_1 @seqK.eq_1))) (And.intro (And.intro @blockK.eq_1 (And.intro @condK.eq_1 @condK.eq_2)) (And.intro @PV.isView.eq_1 (And.intro @PV.isRef.eq_1 @bytesOf.eq_1)))))
theorem rnb0:(∀ (r:Nat) (p:List Nat) (b:Bool),al r p (.bool b)=(.bool b)) ∧
  (∀ (r:Nat) (p:List Nat) (k:IntKind) (n:Int),al r p (.int k n)=(.int k n)) ∧
  (∀ (r:Nat) (p:List Nat) (s:List UInt8),al r p (.str s)=(.str s)) ∧
  (∀ (r:Nat) (p:List Nat) ,al r p (.nilp)=(.nilp)) ∧
  (∀ (r:Nat) (p:List Nat) ,al r p (.nilf)=(.nilf)) ∧
  (∀ (r:Nat) (p:List Nat) (l:Nat) (c:List PV),al r p (.sl l c)=(.sl l c)) ∧
  (∀ (r:Nat) (p:List Nat) (c:List PV),al r p (.sp c)=(.sp c)) ∧
  (∀ (r:Nat) (p:List Nat) ,al r p (.nils)=(.nils)) ∧
  (∀ (r:Nat) (p:List Nat) ,al r p (PV.none)=(PV.none)) ∧
  (∀ (r:Nat) (p:List Nat) (r2:Nat) (p2:List Nat) (o l z:Nat),al r p (.view r2 p2 o l z)=(.view r2 p2 o l z)) ∧
  (∀ (r:Nat) (p:List Nat) (r2:Nat) (p2:List Nat) (i n:Nat),al r p (.ref r2 p2 i n)=(.ref r2 p2 i n)) ∧
  (∀ (f:Nat→List Nat→Bool) (b:Bool),purge1 f (.bool b)=(.bool b)) ∧
  (∀ (f:Nat→List Nat→Bool) (k:IntKind) (n:Int),purge1 f (.int k n)=(.int k n)) ∧
  (∀ (f:Nat→List Nat→Bool) (s:List UInt8),purge1 f (.str s)=(.str s)) ∧
  (∀ (f:Nat→List Nat→Bool) ,purge1 f (.nilp)=(.nilp)) ∧
  (∀ (f:Nat→List Nat→Bool) ,purge1 f (.nilf)=(.nilf)) ∧
  (∀ (f:Nat→List Nat→Bool) (l:Nat) (c:List PV),purge1 f (.sl l c)=(.sl l c)) ∧
  (∀ (f:Nat→List Nat→Bool) (c:List PV),purge1 f (.sp c)=(.sp c)) ∧
  (∀ (f:Nat→List Nat→Bool) ,purge1 f (.nils)=(.nils)) ∧
  (∀ (f:Nat→List Nat→Bool) ,purge1 f (PV.none)=(PV.none)) ∧
  (∀ (f:Nat→List Nat→Bool) (a l:Nat) (c:List PV),purge1 f (.own a l c)=(.own a l c)) ∧
  (∀ (f:Nat→List Nat→Bool) (c:List PV),purge1 f (.box c)=(.box c)) ∧
  (∀  (k:IntKind) (n:Int),kids (.int k n)=[]) ∧
  (∀  (b:Bool),frz (.bool b)=some (.bool b)) ∧
  (∀  (k:IntKind) (n:Int),frz (.int k n)=some (.int k n)) ∧
  (∀  (s:List UInt8),frz (.str s)=some (.str s)) ∧
  (frz (.nilp)=some (.nilp)) ∧
  (frz (.nilf)=some (.nilf)) ∧
  (∀  (l:Nat) (c:List PV),frz (.sl l c)=some (.sl l c)) ∧
  (∀  (c:List PV),frz (.sp c)=some (.sp c)) ∧
  (∀  (b:Bool),refs (.bool b)=[]) ∧
  (∀  (k:IntKind) (n:Int),refs (.int k n)=[]) ∧
  (∀  (s:List UInt8),refs (.str s)=[]) ∧
  (refs (.nilp)=[]) ∧
  (refs (.nilf)=[]) ∧
  (∀  (l:Nat) (c:List PV),refs (.sl l c)=[]) ∧
  (∀  (c:List PV),refs (.sp c)=[]) ∧
  (refs (.nils)=[]) ∧
  (refs (PV.none)=[]) ∧
  (∀  (a l:Nat) (c:List PV),refs (.own a l c)=[]) ∧
  (∀  (c:List PV),refs (.box c)=[]) ∧
  (∀ (ds:List Nat) (b:Bool),noRefs ds (.bool b)=true) ∧
  (∀ (ds:List Nat) (k:IntKind) (n:Int),noRefs ds (.int k n)=true) ∧
  (∀ (ds:List Nat) (s:List UInt8),noRefs ds (.str s)=true) ∧
  (∀ (ds:List Nat) ,noRefs ds (.nilp)=true) ∧
  (∀ (ds:List Nat) ,noRefs ds (.nilf)=true) ∧
  (∀ (ds:List Nat) (l:Nat) (c:List PV),noRefs ds (.sl l c)=true) ∧
  (∀ (ds:List Nat) (c:List PV),noRefs ds (.sp c)=true) ∧
  (∀ (ds:List Nat) ,noRefs ds (.nils)=true) ∧
  (∀ (ds:List Nat) ,noRefs ds (PV.none)=true) ∧
  (∀ (ds:List Nat) (a l:Nat) (c:List PV),noRefs ds (.own a l c)=true) ∧
  (∀ (ds:List Nat) (c:List PV),noRefs ds (.box c)=true) ∧
  (∀ (ds:List Nat) (r:Nat) (p:List Nat) (i n:Nat),noRefs ds (.ref r p i n)=(!ds.contains r && true)) ∧
  (∀ (ds:List Nat) (r:Nat) (p:List Nat) (o l z:Nat),noRefs ds (.view r p o l z)=(!ds.contains r && true)) ∧
  (∀ (ds:List Nat),noRefs ds (.tup [])=true) ∧
  (∀  (b:Bool),noOwn (.bool b)=true) ∧
  (∀  (k:IntKind) (n:Int),noOwn (.int k n)=true) ∧
  (∀  (s:List UInt8),noOwn (.str s)=true) ∧
  (noOwn (.nilp)=true) ∧
  (noOwn (.nilf)=true):=by
  refine ⟨?_,?_,?_,?_,?_,?_,?_,?_,?_,?_,?_,?_,?_,?_,?_,?_,?_,?_,?_,?_,?_,?_,?_,?_,?_,?_,?_,?_,?_,?_,?_,?_,?_,?_,?_,?_,?_,?_,?_,?_,?_,?_,?_,?_,?_,?_,?_,?_,?_,?_,?_,?_,?_,?_,?_,?_,?_,?_,?_,?_⟩ <;> intros <;> rfl
theorem rnb1:(∀  (l:Nat) (c:List PV),noOwn (.sl l c)=true) ∧
  (∀  (c:List PV),noOwn (.sp c)=true) ∧
  (noOwn (.nils)=true) ∧
  (noOwn (PV.none)=true) ∧
  (∀  (r2:Nat) (p2:List Nat) (o l z:Nat),noOwn (.view r2 p2 o l z)=true) ∧
  (∀  (r2:Nat) (p2:List Nat) (i n:Nat),noOwn (.ref r2 p2 i n)=true) ∧
  (∀  (b:Bool),PV.free (.bool b)=true) ∧
  (∀  (k:IntKind) (n:Int),PV.free (.int k n)=true) ∧
  (∀  (s:List UInt8),PV.free (.str s)=true) ∧
  (PV.free (.nilp)=true) ∧
  (PV.free (.nilf)=true) ∧
  (∀  (l:Nat) (c:List PV),PV.free (.sl l c)=true) ∧
  (∀  (c:List PV),PV.free (.sp c)=true) ∧
  (PV.free (.nils)=true) ∧
  (∀ (e:Env) (b:Bool),take1 e (.bool b)=some ((.bool b),e)) ∧
  (∀ (e:Env) (k:IntKind) (n:Int),take1 e (.int k n)=some ((.int k n),e)) ∧
  (∀ (e:Env) (s:List UInt8),take1 e (.str s)=some ((.str s),e)) ∧
  (∀ (e:Env) ,take1 e (.nilp)=some ((.nilp),e)) ∧
  (∀ (e:Env) ,take1 e (.nilf)=some ((.nilf),e)) ∧
  (∀ (e:Env) (l:Nat) (c:List PV),take1 e (.sl l c)=some ((.sl l c),e)) ∧
  (∀ (e:Env) (c:List PV),take1 e (.sp c)=some ((.sp c),e)) ∧
  (∀ (e:Env) ,take1 e (.nils)=some ((.nils),e)) ∧
  (∀ (e:Env) (b:Bool),copy1 e (.bool b)=some ((.bool b),e)) ∧
  (∀ (e:Env) (k:IntKind) (n:Int),copy1 e (.int k n)=some ((.int k n),e)) ∧
  (∀ (e:Env) (s:List UInt8),copy1 e (.str s)=some ((.str s),e)) ∧
  (∀ (e:Env) ,copy1 e (.nilp)=some ((.nilp),e)) ∧
  (∀ (e:Env) ,copy1 e (.nilf)=some ((.nilf),e)) ∧
  (∀ (e:Env) (l:Nat) (c:List PV),copy1 e (.sl l c)=some ((.sl l c),e)) ∧
  (∀ (e:Env) (c:List PV),copy1 e (.sp c)=some ((.sp c),e)) ∧
  (∀ (e:Env) ,copy1 e (.nils)=some ((.nils),e)) ∧
  (∀ (e:Env) (b:Bool),pass1 e (.bool b)=some ((.bool b),e)) ∧
  (∀ (e:Env) (k:IntKind) (n:Int),pass1 e (.int k n)=some ((.int k n),e)) ∧
  (∀ (e:Env) (s:List UInt8),pass1 e (.str s)=some ((.str s),e)) ∧
  (∀ (e:Env) ,pass1 e (.nilp)=some ((.nilp),e)) ∧
  (∀ (e:Env) ,pass1 e (.nilf)=some ((.nilf),e)) ∧
  (∀ (e:Env) (l:Nat) (c:List PV),pass1 e (.sl l c)=some ((.sl l c),e)) ∧
  (∀ (e:Env) (c:List PV),pass1 e (.sp c)=some ((.sp c),e)) ∧
  (∀ (e:Env) ,pass1 e (.nils)=copy1 e (.nils)) ∧
  (∀ (e:Env) (r2:Nat) (p2:List Nat) (o l z:Nat),pass1 e (.view r2 p2 o l z)=copy1 e (.view r2 p2 o l z)) ∧
  (∀ (S:Subs) (b:Bool),lend1 S (.bool b)=some (.bool b)) ∧
  (∀ (S:Subs) (k:IntKind) (n:Int),lend1 S (.int k n)=some (.int k n)) ∧
  (∀ (S:Subs) (s:List UInt8),lend1 S (.str s)=some (.str s)) ∧
  (∀ (S:Subs) ,lend1 S (.nilp)=some (.nilp)) ∧
  (∀ (S:Subs) ,lend1 S (.nilf)=some (.nilf)) ∧
  (∀ (S:Subs) (l:Nat) (c:List PV),lend1 S (.sl l c)=some (.sl l c)) ∧
  (∀ (S:Subs) (c:List PV),lend1 S (.sp c)=some (.sp c)) ∧
  (∀ (S:Subs) ,lend1 S (.nils)=some (.nils)) ∧
  (∀ (S:Subs) (r2:Nat) (p2:List Nat) (i n:Nat),lend1 S (.ref r2 p2 i n)=none) ∧
  (∀ (S:Subs) (b:Bool),lend S (.bool b)=lend1 S (.bool b)) ∧
  (∀ (S:Subs) (k:IntKind) (n:Int),lend S (.int k n)=lend1 S (.int k n)) ∧
  (∀ (S:Subs) (s:List UInt8),lend S (.str s)=lend1 S (.str s)) ∧
  (∀ (S:Subs) ,lend S (.nilp)=lend1 S (.nilp)) ∧
  (∀ (S:Subs) ,lend S (.nilf)=lend1 S (.nilf)) ∧
  (∀ (S:Subs) (l:Nat) (c:List PV),lend S (.sl l c)=lend1 S (.sl l c)) ∧
  (∀ (S:Subs) (c:List PV),lend S (.sp c)=lend1 S (.sp c)) ∧
  (∀ (S:Subs) ,lend S (.nils)=lend1 S (.nils)) ∧
  (∀ (S:Subs) (r2:Nat) (p2:List Nat) (o l z:Nat),lend S (.view r2 p2 o l z)=lend1 S (.view r2 p2 o l z)) ∧
  (∀ (S:Subs) (r2:Nat) (p2:List Nat) (i n:Nat),lend S (.ref r2 p2 i n)=lend1 S (.ref r2 p2 i n)) ∧
  (∀ (kp:Bool) (e:Env) (b:Bool),give kp e (.bool b)=some ((.bool b),e)) ∧
  (∀ (kp:Bool) (e:Env) (k:IntKind) (n:Int),give kp e (.int k n)=some ((.int k n),e)):=by
  refine ⟨?_,?_,?_,?_,?_,?_,?_,?_,?_,?_,?_,?_,?_,?_,?_,?_,?_,?_,?_,?_,?_,?_,?_,?_,?_,?_,?_,?_,?_,?_,?_,?_,?_,?_,?_,?_,?_,?_,?_,?_,?_,?_,?_,?_,?_,?_,?_,?_,?_,?_,?_,?_,?_,?_,?_,?_,?_,?_,?_,?_⟩ <;> intros <;> rfl
theorem rnb2:(∀ (kp:Bool) (e:Env) (s:List UInt8),give kp e (.str s)=some ((.str s),e)) ∧
  (∀ (kp:Bool) (e:Env) ,give kp e (.nilp)=some ((.nilp),e)) ∧
  (∀ (kp:Bool) (e:Env) ,give kp e (.nilf)=some ((.nilf),e)) ∧
  (∀ (kp:Bool) (e:Env) (l:Nat) (c:List PV),give kp e (.sl l c)=some ((.sl l c),e)) ∧
  (∀ (kp:Bool) (e:Env) (c:List PV),give kp e (.sp c)=some ((.sp c),e)) ∧
  (∀ (a b:PV) (r:List PV),tupOf (a :: b :: r) = .tup (a :: b :: r)) ∧
  (tupOf [] = .tup []) ∧
  (∀  (b:Bool),objCells (.bool b)=Option.none) ∧
  (∀  (k:IntKind) (n:Int),objCells (.int k n)=Option.none) ∧
  (∀  (s:List UInt8),objCells (.str s)=Option.none) ∧
  (objCells (.nilp)=Option.none) ∧
  (objCells (.nilf)=Option.none) ∧
  (∀  (l:Nat) (c:List PV),objCells (.sl l c)=Option.none) ∧
  (∀  (c:List PV),objCells (.sp c)=Option.none) ∧
  (objCells (.nils)=Option.none) ∧
  (objCells (PV.none)=Option.none) ∧
  (∀  (b:Bool),cells (.bool b)=[(.bool b)]) ∧
  (∀  (k:IntKind) (n:Int),cells (.int k n)=[(.int k n)]) ∧
  (∀  (s:List UInt8),cells (.str s)=[(.str s)]) ∧
  (cells (.nilp)=[(.nilp)]) ∧
  (cells (.nilf)=[(.nilf)]) ∧
  (∀  (l:Nat) (c:List PV),cells (.sl l c)=[(.sl l c)]) ∧
  (∀  (c:List PV),cells (.sp c)=[(.sp c)]) ∧
  (cells (.nils)=[(.nils)]) ∧
  (∀  (r2:Nat) (p2:List Nat) (o l z:Nat),cells (.view r2 p2 o l z)=[(.view r2 p2 o l z)]) ∧
  (∀  (r2:Nat) (p2:List Nat) (i n:Nat),cells (.ref r2 p2 i n)=[(.ref r2 p2 i n)]) ∧
  (∀  (b:Bool),waysOf (.bool b)=refs (.bool b)) ∧
  (∀  (k:IntKind) (n:Int),waysOf (.int k n)=refs (.int k n)) ∧
  (∀  (s:List UInt8),waysOf (.str s)=refs (.str s)) ∧
  (waysOf (.nilp)=refs (.nilp)) ∧
  (waysOf (.nilf)=refs (.nilf)) ∧
  (∀  (l:Nat) (c:List PV),waysOf (.sl l c)=refs (.sl l c)) ∧
  (∀  (c:List PV),waysOf (.sp c)=refs (.sp c)) ∧
  (waysOf (.nils)=refs (.nils)) ∧
  (∀  (r2:Nat) (p2:List Nat) (o l z:Nat),waysOf (.view r2 p2 o l z)=refs (.view r2 p2 o l z)) ∧
  (∀ (c:List PV),waysOf (.agg c)=refsL c) ∧
  (∀ (f:Nat) (c:List PV),waysOf (.fn f c)=refsL c) ∧
  (∀ (a:Nat) (l:List Nat),(a :: l).isPrefixOf []=false) ∧
  (∀ (a b:Nat) (l m:List Nat),(a :: l).isPrefixOf (b :: m)=(a == b && l.isPrefixOf m)) ∧
  (∀ (a:PV × List PV),(some a).isNone=false) ∧
  (∀  (b:Bool),boxOnly (.bool b)=PV.none) ∧
  (∀  (k:IntKind) (n:Int),boxOnly (.int k n)=PV.none) ∧
  (∀  (s:List UInt8),boxOnly (.str s)=PV.none) ∧
  (boxOnly (.nilp)=PV.none) ∧
  (boxOnly (.nilf)=PV.none) ∧
  (∀  (l:Nat) (c:List PV),boxOnly (.sl l c)=PV.none) ∧
  (∀  (c:List PV),boxOnly (.sp c)=PV.none) ∧
  (boxOnly (.nils)=PV.none) ∧
  (boxOnly (PV.none)=PV.none) ∧
  (∀  (r2:Nat) (p2:List Nat) (o l z:Nat),boxOnly (.view r2 p2 o l z)=PV.none) ∧
  (∀  (r2:Nat) (p2:List Nat) (i n:Nat),boxOnly (.ref r2 p2 i n)=PV.none) ∧
  (∀ (c:List PV),boxOnly (.agg c) = .none) ∧
  (∀ (c:List PV),boxOnly (.tup c) = .none) ∧
  (∀  (b:Bool),PV.lok (.bool b)=true) ∧
  (∀  (k:IntKind) (n:Int),PV.lok (.int k n)=true) ∧
  (∀  (s:List UInt8),PV.lok (.str s)=true) ∧
  (PV.lok (.nilp)=true) ∧
  (PV.lok (.nilf)=true) ∧
  (∀  (l:Nat) (c:List PV),PV.lok (.sl l c)=true) ∧
  (∀  (c:List PV),PV.lok (.sp c)=true):=by
  refine ⟨?_,?_,?_,?_,?_,?_,?_,?_,?_,?_,?_,?_,?_,?_,?_,?_,?_,?_,?_,?_,?_,?_,?_,?_,?_,?_,?_,?_,?_,?_,?_,?_,?_,?_,?_,?_,?_,?_,?_,?_,?_,?_,?_,?_,?_,?_,?_,?_,?_,?_,?_,?_,?_,?_,?_,?_,?_,?_,?_,?_⟩ <;> intros <;> rfl
theorem rnb3:(PV.lok (.nils)=true) ∧
  (∀  (b:Bool),PV.isNone (.bool b)=false) ∧
  (∀  (k:IntKind) (n:Int),PV.isNone (.int k n)=false) ∧
  (∀  (s:List UInt8),PV.isNone (.str s)=false) ∧
  (PV.isNone (.nilp)=false) ∧
  (PV.isNone (.nilf)=false) ∧
  (∀  (l:Nat) (c:List PV),PV.isNone (.sl l c)=false) ∧
  (∀  (c:List PV),PV.isNone (.sp c)=false) ∧
  (PV.isNone (.nils)=false) ∧
  (∀  (r2:Nat) (p2:List Nat) (o l z:Nat),PV.isNone (.view r2 p2 o l z)=false) ∧
  (∀  (r2:Nat) (p2:List Nat) (i n:Nat),PV.isNone (.ref r2 p2 i n)=false) ∧
  (∀ (c:List PV),PV.isNone (.agg c)=false) ∧
  (∀ (c:List PV),PV.isRef (.sp c)=false) ∧
  (∀ (C:Calls') (L:XO→PV) (S:Subs) (f:XO) (x:List XO),blocked C L S (.callv f x)=false) ∧
  (∀  (b:Bool),PV.isView (.bool b)=false) ∧
  (∀  (k:IntKind) (n:Int),PV.isView (.int k n)=false) ∧
  (∀  (s:List UInt8),PV.isView (.str s)=false) ∧
  (PV.isView (.nilp)=false) ∧
  (PV.isView (.nilf)=false) ∧
  (∀  (l:Nat) (c:List PV),PV.isView (.sl l c)=false) ∧
  (∀  (c:List PV),PV.isView (.sp c)=false) ∧
  (PV.isView (.nils)=false) ∧
  (∀  (b:Bool),lent (.bool b)=false) ∧
  (∀  (k:IntKind) (n:Int),lent (.int k n)=false) ∧
  (∀  (s:List UInt8),lent (.str s)=false) ∧
  (lent (.nilp)=false) ∧
  (lent (.nilf)=false) ∧
  (∀  (l:Nat) (c:List PV),lent (.sl l c)=false) ∧
  (∀  (c:List PV),lent (.sp c)=false) ∧
  (lent (.nils)=false) ∧
  (∀  (r2:Nat) (p2:List Nat) (i n:Nat),lent (.ref r2 p2 i n)=false) ∧
  (PV.flat1 (.nilp)=false) ∧
  (∀  (l:Nat) (c:List PV),PV.flat1 (.sl l c)=false) ∧
  (∀  (c:List PV),PV.flat1 (.sp c)=false) ∧
  (∀  (b:Bool),PV.flat (.bool b)=PV.flat1 (.bool b)) ∧
  (∀  (k:IntKind) (n:Int),PV.flat (.int k n)=PV.flat1 (.int k n)) ∧
  (∀  (s:List UInt8),PV.flat (.str s)=PV.flat1 (.str s)) ∧
  (PV.flat (.nilp)=PV.flat1 (.nilp)) ∧
  (PV.flat (.nilf)=PV.flat1 (.nilf)) ∧
  (∀  (l:Nat) (c:List PV),PV.flat (.sl l c)=PV.flat1 (.sl l c)) ∧
  (∀  (c:List PV),PV.flat (.sp c)=PV.flat1 (.sp c)) ∧
  (∀  (b:Bool),norm1 (.bool b)=(.bool b)) ∧
  (∀  (k:IntKind) (n:Int),norm1 (.int k n)=(.int k n)) ∧
  (∀  (s:List UInt8),norm1 (.str s)=(.str s)) ∧
  (norm1 (.nilp)=(.nilp)) ∧
  (norm1 (.nilf)=(.nilf)) ∧
  (∀  (l:Nat) (c:List PV),norm1 (.sl l c)=(.sl l c)) ∧
  (∀  (c:List PV),norm1 (.sp c)=(.sp c)) ∧
  (∀ (ws:List PV),argsIn false ws=ws.map normA) ∧
  (∀ (ws:List PV),argsIn true ws=ws) ∧
  (∀  (b:Bool),normA (.bool b)=(.bool b)) ∧
  (∀  (k:IntKind) (n:Int),normA (.int k n)=(.int k n)) ∧
  (∀  (s:List UInt8),normA (.str s)=(.str s)) ∧
  (normA (.nilp)=(.nilp)) ∧
  (normA (.nilf)=(.nilf)) ∧
  (∀  (l:Nat) (c:List PV),normA (.sl l c)=(.sl l c)) ∧
  (∀  (c:List PV),normA (.sp c)=(.sp c)) ∧
  (∀  (r2:Nat) (p2:List Nat) (o l z:Nat),normA (.view r2 p2 o l z)=(.view r2 p2 o l z)) ∧
  (∀  (r2:Nat) (p2:List Nat) (i n:Nat),normA (.ref r2 p2 i n)=(.ref r2 p2 i n)) ∧
  (∀  (a l:Nat) (c:List PV),normA (.own a l c)=(.own a l c)):=by
  refine ⟨?_,?_,?_,?_,?_,?_,?_,?_,?_,?_,?_,?_,?_,?_,?_,?_,?_,?_,?_,?_,?_,?_,?_,?_,?_,?_,?_,?_,?_,?_,?_,?_,?_,?_,?_,?_,?_,?_,?_,?_,?_,?_,?_,?_,?_,?_,?_,?_,?_,?_,?_,?_,?_,?_,?_,?_,?_,?_,?_,?_⟩ <;> intros <;> rfl
theorem rnb4:(∀  (c:List PV),normA (.box c)=(.box c)) ∧
  (normA .nils = .sl 0 []) ∧
  (∀ (c:List PV),normA (.agg c) = .agg (c.map norm1)) ∧
  (∀ (f:Nat) (c:List PV),normA (.fn f c) = .fn f c) ∧
  (∀ (e:Env) (vs:List PV),rowAt e [] vs=Option.none) ∧
  (∀ (e:Env) (k:Nat) (m:List Nat) (vs:List PV),rowAt e (k :: m) vs=(match vs[k]? with | some (.view q p off len z)=>(match e.sub q p with | .own sz n cs=>if off=0∧len=n∧z=sz then some (k,q,p,sz,n,cs) else Option.none | _=>Option.none) | _=>Option.none)) ∧
  (∀ (r:List PV) (b:Bool),refAt ((.bool b) :: r)=(refAt r).map fun (k,q)=>(k + 1,q)) ∧
  (∀ (r:List PV) (k:IntKind) (n:Int),refAt ((.int k n) :: r)=(refAt r).map fun (k,q)=>(k + 1,q)) ∧
  (∀ (r:List PV) (s:List UInt8),refAt ((.str s) :: r)=(refAt r).map fun (k,q)=>(k + 1,q)) ∧
  (∀ (r:List PV) ,refAt ((.nilp) :: r)=(refAt r).map fun (k,q)=>(k + 1,q)) ∧
  (∀ (r:List PV) ,refAt ((.nilf) :: r)=(refAt r).map fun (k,q)=>(k + 1,q)) ∧
  (∀ (r:List PV) (l:Nat) (c:List PV),refAt ((.sl l c) :: r)=(refAt r).map fun (k,q)=>(k + 1,q)) ∧
  (∀ (r:List PV) (c:List PV),refAt ((.sp c) :: r)=(refAt r).map fun (k,q)=>(k + 1,q)) ∧
  (∀ (r:List PV) ,refAt ((.nils) :: r)=(refAt r).map fun (k,q)=>(k + 1,q)) ∧
  (∀ (c r:List PV),refAt (.agg c :: r)=(refAt r).map fun (k,q)=>(k + 1,q)) ∧
  (∀ (C:Calls') (L:XO→PV) (S:Subs) (x:XO),evP C L S (.asg x)=Option.none) ∧
  (∀ (C:Calls') (L:XO→PV) (S:Subs) (n:Nat) (x y:XO),evP C L S (.store n x y)=Option.none) ∧
  (∀ (C:Calls') (L:XO→PV) (S:Subs) (x:XO),blocked C L S (.asg x)=false) ∧
  (∀ (C:Calls') (L:XO→PV) (S:Subs) (n:Nat) (x y:XO),blocked C L S (.store n x y)=false) ∧
  (∀ (C:Calls') (L:XO→PV) (S:Subs) (n m:Nat) (x y:XO),blocked C L S (.app n m x y)=false) ∧
  (∀ (C:Calls') (L:XO→PV) (S:Subs) (x:XO) (n:Nat),blocked C L S (.ext x n)=false) ∧
  (∀ (C:Calls') (L:XO→PV) (S:Subs) (n m:Nat) (z:List PV) (p:List (Nat × Nat × XO)),blocked C L S (.bsl n m z p)=false) ∧
  (∀ (C:Calls') (L:XO→PV) (S:Subs) (x:XO),blocked C L S (.box x)=false) ∧
  (∀ (k:IntKind) (x y:Int),intBits .and k x y=some (bAnd k x y)) ∧
  (∀ (k:IntKind) (x y:Int),intBits .or k x y=some (bOr k x y)) ∧
  (∀ (k:IntKind) (x y:Int),intBits .xor k x y=some (bXor k x y)) ∧
  (IntKind.bits .i8=8) ∧
  (IntKind.bits .u8=8) ∧
  (IntKind.bits .i16=16) ∧
  (IntKind.bits .u16=16) ∧
  (IntKind.bits .i32=32) ∧
  (IntKind.bits .u32=32) ∧
  (IntKind.bits .i64=64) ∧
  (IntKind.bits .u64=64) ∧
  ((true == true)=true) ∧
  ((true == false)=false) ∧
  ((false == true)=false) ∧
  ((false == false)=true) ∧
  (∀ (id:Nat) (e:Env) (k:Env→Option (Ex × Env)),seqK (some (.exit id,e)) k=some (.exit id,e)) ∧
  (∀ (e:Env) (k:Env→Option (Ex × Env)),seqK (some (.ret,e)) k=some (.ret,e)) ∧
  (∀ (i:Nat) (e:Env),blockK i (some (.norm,e))=some (.norm,e)) ∧
  (∀ (i:Nat) (e:Env),blockK i (some (.ret,e))=some (.ret,e)) ∧
  (∀ (l:List Nat) (i:Nat) (e:Env),fgt l (some (.exit i,e))=some (.exit i,e)) ∧
  (∀ (l:List Nat) (e:Env),fgt l (some (.ret,e))=some (.ret,e)) ∧
  (∀ (x:XF) (ws:List PV) (e:Env),retK x ws (some (.ret,e))=(resL x.keep e x.res).map fun (vs,e')=>(tupOf vs,outsOf x.prot e' 0 ws)) ∧
  (∀ (x:XF) (ws:List PV) (e:Env),retK x ws (some (.norm,e))=(resL x.keep e x.res).map fun (vs,e')=>(tupOf vs,outsOf x.prot e' 0 ws)) ∧
  (∀ (d:Nat) (w:Bool) (g:Nat→PV),wantsG g (some (d,w))=(match g d with | .bool b=>some (b == w) | .tup []=>some false | _=>Option.none)):=by
  refine ⟨?_,?_,?_,?_,?_,?_,?_,?_,?_,?_,?_,?_,?_,?_,?_,?_,?_,?_,?_,?_,?_,?_,?_,?_,?_,?_,?_,?_,?_,?_,?_,?_,?_,?_,?_,?_,?_,?_,?_,?_,?_,?_,?_,?_,?_,?_,?_⟩ <;> intros <;> rfl
theorem rn:type_of% (And.intro (And.intro (And.intro rna0 rna1) (And.intro rna2 (And.intro rna3 rna4))) (And.intro (And.intro rnb0 rnb1) (And.intro rnb2 (And.intro rnb3 rnb4)))):=(And.intro (And.intro (And.intro rna0 rna1) (And.intro rna2 (And.intro rna3 rna4))) (And.intro (And.intro rnb0 rnb1) (And.intro rnb2 (And.intro rnb3 rnb4))))
theorem nzg:(∀ (k:IntKind) (xs:List Int),(xs.flatMap (cint k)).length=xs.length * 1)∧(∀ (xs:List Bool),(xs.flatMap cbool).length=xs.length * 1)∧(∀ (xs:List Str),(xs.flatMap cstr).length=xs.length * 1)∧(∀ (α:Type) (c:α→List PV) (xs:List (List α)),(xs.flatMap (csl c)).length=xs.length * 1) ∧
  (∀ (k:IntKind) (xs:List Int),frzL (xs.flatMap (cint k))=some (xs.flatMap (cint k)))∧(∀ (xs:List Bool),frzL (xs.flatMap cbool)=some (xs.flatMap cbool))∧(∀ (xs:List Str),frzL (xs.flatMap cstr)=some (xs.flatMap cstr))∧(∀ (α:Type) (c:α→List PV) (xs:List (List α)),frzL (xs.flatMap (csl c))=some (xs.flatMap (csl c))) ∧
  (∀ (k:IntKind) (xs:List Int),(xs.flatMap (cint k)).all PV.free=true)∧(∀ (xs:List Bool),(xs.flatMap cbool).all PV.free=true)∧(∀ (xs:List Str),(xs.flatMap cstr).all PV.free=true)∧(∀ (α:Type) (c:α→List PV) (xs:List (List α)),(xs.flatMap (csl c)).all PV.free=true) ∧
  (∀ (k:IntKind) (xs:List Int),(xs.flatMap (cint k)).take (xs.length * 1)=xs.flatMap (cint k))∧(∀ (xs:List Bool),(xs.flatMap cbool).take (xs.length * 1)=xs.flatMap cbool)∧(∀ (xs:List Str),(xs.flatMap cstr).take (xs.length * 1)=xs.flatMap cstr)∧(∀ (α:Type) (c:α→List PV) (xs:List (List α)),(xs.flatMap (csl c)).take (xs.length * 1)=xs.flatMap (csl c)) ∧
  (∀ (k:IntKind) (ds:List Nat) (xs:List Int),(xs.flatMap (cint k)).all (noRefs ds)=true)∧(∀ (ds:List Nat) (xs:List Bool),(xs.flatMap cbool).all (noRefs ds)=true)∧(∀ (ds:List Nat) (xs:List Str),(xs.flatMap cstr).all (noRefs ds)=true)∧(∀ (α:Type) (c:α→List PV) (ds:List Nat) (xs:List (List α)),(xs.flatMap (csl c)).all (noRefs ds)=true)∧(∀ n:Nat,(n=n * 1)=True) ∧
  (∀ (α:Type) (c:α→List PV) (sz:Nat) (xs:List (List α)),(xs.flatMap (cow sz c)).length=xs.length * 1)∧(∀ (α:Type) (c:α→List PV) (sz:Nat) (xs:List (List α)),(xs.flatMap (cow sz c)).take (xs.length * 1)=xs.flatMap (cow sz c))∧(∀ (sz:Nat) (k:IntKind) (xs:List (List Int)),frzL (xs.flatMap (cow sz (cint k)))=some (xs.flatMap (csl (cint k)))) :=
  ⟨fun k=>enl_len (sz_int k),enl_len sz_bool,enl_len sz_str,fun _ c=>enl_len (sz_sl c),fun k=>enl_frz (fz_int k),enl_frz fz_bool,enl_frz fz_str,fun _ c=>enl_frz (fz_sl c),fun k=>enl_free (fz_int k),enl_free fz_bool,enl_free fz_str,fun _ c=>enl_free (fz_sl c),fun k=>enl_take (sz_int k),enl_take sz_bool,enl_take sz_str,fun _ c=>enl_take (sz_sl c),fun k=>enl_noRefs (fz_int k),enl_noRefs fz_bool,enl_noRefs fz_str,fun _ c=>enl_noRefs (fz_sl c),fun n=>by simp,fun _ c sz=>enl_len (sz_cow sz c),fun _ c sz=>enl_take (sz_cow sz c),fun sz k=>enl_frz_cow (fz_int k)⟩
theorem nzc:((0:Nat):Int)=0∧((1:Nat):Int)=1∧((2:Nat):Int)=2∧((3:Nat):Int)=3∧((4:Nat):Int)=4∧((5:Nat):Int)=5∧((6:Nat):Int)=6∧((7:Nat):Int)=7∧((8:Nat):Int)=8∧((9:Nat):Int)=9∧((10:Nat):Int)=10∧((11:Nat):Int)=11∧((12:Nat):Int)=12∧((13:Nat):Int)=13∧((14:Nat):Int)=14∧((15:Nat):Int)=15∧((16:Nat):Int)=16:=⟨rfl,rfl,rfl,rfl,rfl,rfl,rfl,rfl,rfl,rfl,rfl,rfl,rfl,rfl,rfl,rfl,rfl⟩
theorem nzt:(∀ (σ ρ β:Type) (f:σ→β) (g:ρ→β) (s:σ),stpK f g (.next s)=f s)∧(∀ (σ ρ β:Type) (f:σ→β) (g:ρ→β) (r:ρ),stpK f g (.stop r)=g r):=⟨fun _ _ _ _ _ _=>rfl,fun _ _ _ _ _ _=>rfl⟩
theorem nz:type_of% (And.intro (And.intro (And.intro (And.intro (And.intro (And.intro nzg nzc) (And.intro nzt (And.intro @List.length_nil.{0} @List.flatMap_nil.{0,0}))) (And.intro (And.intro @mkOwn_nil (And.intro @mkOwn_succ @mkView_nil)) (And.intro @mkView_succ (And.intro @List.length_cons.{0} @List.flatMap_cons.{0,0})))) (And.intro (And.intro (And.intro @List.length_set.{0} @List.append_nil.{0}) (And.intro @List.cons_append.{0} (And.intro @List.nil_append.{0} @Nat.zero_add))) (And.intro (And.intro @Nat.zero_mul (And.intro @List.drop_zero.{0} @Nat.le_refl)) (And.intro @eq_self.{1} (And.intro @and_true @true_and))))) (And.intro (And.intro (And.intro (And.intro @and_self @ne_eq.{1}) (And.intro @not_true_eq_false (And.intro @not_false_eq_true @or_false))) (And.intro (And.intro @false_or (And.intro @or_self @Bool.or_true)) (And.intro @Bool.true_or (And.intro @Bool.or_false @Bool.false_or)))) (And.intro (And.intro (And.intro @Bool.and_true @Bool.true_and) (And.intro @Bool.and_false (And.intro @Bool.false_and @Bool.not_true))) (And.intro (And.intro @Bool.not_false (And.intro @List.isEmpty_nil.{0} @List.all_cons.{0})) (And.intro @List.all_nil.{0} (And.intro @List.any_cons.{0} @List.any_nil.{0})))))) (And.intro (And.intro (And.intro (And.intro (And.intro @List.map_cons.{0,0} @List.map_nil.{0,0}) (And.intro @List.getElem?_cons_zero.{0} (And.intro @List.getElem?_cons_succ.{0} @List.set_cons_zero.{0}))) (And.intro (And.intro @List.set_cons_succ.{0} (And.intro @List.take_succ_cons.{0} @List.take_zero.{0})) (And.intro @List.drop_succ_cons.{0} (And.intro @List.take_nil.{0} @List.drop_nil.{0})))) (And.intro (And.intro (And.intro @Bool.not_eq_false @Bool.not_eq_true) (And.intro @Bool.true_eq_false (And.intro @beq_self_eq_true.{0} @lim_eq))) (And.intro (And.intro @refs_mkOwn (And.intro @noRefs_mkOwn @noRefs_agg)) (And.intro @noRefs_fn (And.intro @eit_true @eit_false))))) (And.intro (And.intro (And.intro (And.intro @refs_eit @noRefs_eit) (And.intro @purge1_eit (And.intro @cow.eq_1 @purge1_mkOwn))) (And.intro (And.intro @noOwnL_int (And.intro @purgeL_int @alL_int)) (And.intro @refsL_int (And.intro @bytesOf_enl @cint.eq_1)))) (And.intro (And.intro (And.intro @cbool.eq_1 (And.intro @cstr.eq_1 @csl.eq_1)) (And.intro @decide_true (And.intro @decide_false @Option.bind_some.{0,0}))) (And.intro (And.intro @List.isPrefixOf_nil_left.{0} (And.intro @Bool.false_xor @Bool.true_xor)) (And.intro @List.length_append.{0} (And.intro @List.replicate_zero.{0} @List.flatMap_append.{0,0}))))))):=(And.intro (And.intro (And.intro (And.intro (And.intro (And.intro nzg nzc) (And.intro nzt (And.intro @List.length_nil.{0} @List.flatMap_nil.{0,0}))) (And.intro (And.intro @mkOwn_nil (And.intro @mkOwn_succ @mkView_nil)) (And.intro @mkView_succ (And.intro @List.length_cons.{0} @List.flatMap_cons.{0,0})))) (And.intro (And.intro (And.intro @List.length_set.{0} @List.append_nil.{0}) (And.intro @List.cons_append.{0} (And.intro @List.nil_append.{0} @Nat.zero_add))) (And.intro (And.intro @Nat.zero_mul (And.intro @List.drop_zero.{0} @Nat.le_refl)) (And.intro @eq_self.{1} (And.intro @and_true @true_and))))) (And.intro (And.intro (And.intro (And.intro @and_self @ne_eq.{1}) (And.intro @not_true_eq_false (And.intro @not_false_eq_true @or_false))) (And.intro (And.intro @false_or (And.intro @or_self @Bool.or_true)) (And.intro @Bool.true_or (And.intro @Bool.or_false @Bool.false_or)))) (And.intro (And.intro (And.intro @Bool.and_true @Bool.true_and) (And.intro @Bool.and_false (And.intro @Bool.false_and @Bool.not_true))) (And.intro (And.intro @Bool.not_false (And.intro @List.isEmpty_nil.{0} @List.all_cons.{0})) (And.intro @List.all_nil.{0} (And.intro @List.any_cons.{0} @List.any_nil.{0})))))) (And.intro (And.intro (And.intro (And.intro (And.intro @List.map_cons.{0,0} @List.map_nil.{0,0}) (And.intro @List.getElem?_cons_zero.{0} (And.intro @List.getElem?_cons_succ.{0} @List.set_cons_zero.{0}))) (And.intro (And.intro @List.set_cons_succ.{0} (And.intro @List.take_succ_cons.{0} @List.take_zero.{0})) (And.intro @List.drop_succ_cons.{0} (And.intro @List.take_nil.{0} @List.drop_nil.{0})))) (And.intro (And.intro (And.intro @Bool.not_eq_false @Bool.not_eq_true) (And.intro @Bool.true_eq_false (And.intro @beq_self_eq_true.{0} @lim_eq))) (And.intro (And.intro @refs_mkOwn (And.intro @noRefs_mkOwn @noRefs_agg)) (And.intro @noRefs_fn (And.intro @eit_true @eit_false))))) (And.intro (And.intro (And.intro (And.intro @refs_eit @noRefs_eit) (And.intro @purge1_eit (And.intro @cow.eq_1 @purge1_mkOwn))) (And.intro (And.intro @noOwnL_int (And.intro @purgeL_int @alL_int)) (And.intro @refsL_int (And.intro @bytesOf_enl @cint.eq_1)))) (And.intro (And.intro (And.intro @cbool.eq_1 (And.intro @cstr.eq_1 @csl.eq_1)) (And.intro @decide_true (And.intro @decide_false @Option.bind_some.{0,0}))) (And.intro (And.intro @List.isPrefixOf_nil_left.{0} (And.intro @Bool.false_xor @Bool.true_xor)) (And.intro @List.length_append.{0} (And.intro @List.replicate_zero.{0} @List.flatMap_append.{0,0})))))))
end Go.Ab
namespace Go.Ab
open Go
set_option linter.unusedVariables false
set_option linter.unusedSimpArgs false
set_option maxRecDepth 100000
set_option maxHeartbeats 4000000
structure Shape where
  Slots:Int
  Mask:Int
  deriving DecidableEq
instance:Inhabited Shape:=⟨⟨default,default⟩⟩
def cShape (x:Shape):List PV:=[.int .i64 x.Slots,.int .i64 x.Mask]
theorem szShape:Sz cShape 2:=fun _=>rfl
theorem fzShape:Fz cShape:=fun _=>⟨rfl,rfl⟩
theorem nzShape:type_of% (And.intro @cShape.eq_1 (And.intro (enl_len szShape) (And.intro (enl_frz fzShape) (And.intro (enl_free fzShape) (And.intro (enl_take szShape) (And.intro (enl_purge fzShape) (And.intro (enl_al fzShape) (And.intro (enl_refs fzShape) ((enl_noRefs fzShape)))))))))):=And.intro @cShape.eq_1 (And.intro (enl_len szShape) (And.intro (enl_frz fzShape) (And.intro (enl_free fzShape) (And.intro (enl_take szShape) (And.intro (enl_purge fzShape) (And.intro (enl_al fzShape) (And.intro (enl_refs fzShape) ((enl_noRefs fzShape)))))))))
structure r26_Object where
  At:Int
  Shape:Shape
  Slots:List Int
  deriving DecidableEq
instance:Inhabited r26_Object:=⟨⟨default,default,default⟩⟩
def cr26_Object (x:r26_Object):List PV:=[.int .i64 x.At,.int .i64 x.Shape.Slots,.int .i64 x.Shape.Mask,.sl x.Slots.length (x.Slots.flatMap (cint .i64))]
theorem szr26_Object:Sz cr26_Object 4:=fun _=>rfl
theorem fzr26_Object:Fz cr26_Object:=fun _=>⟨rfl,rfl⟩
theorem nzr26_Object:type_of% (And.intro @cr26_Object.eq_1 (And.intro (enl_len szr26_Object) (And.intro (enl_frz fzr26_Object) (And.intro (enl_free fzr26_Object) (And.intro (enl_take szr26_Object) (And.intro (enl_purge fzr26_Object) (And.intro (enl_al fzr26_Object) (And.intro (enl_refs fzr26_Object) ((enl_noRefs fzr26_Object)))))))))):=And.intro @cr26_Object.eq_1 (And.intro (enl_len szr26_Object) (And.intro (enl_frz fzr26_Object) (And.intro (enl_free fzr26_Object) (And.intro (enl_take szr26_Object) (And.intro (enl_purge fzr26_Object) (And.intro (enl_al fzr26_Object) (And.intro (enl_refs fzr26_Object) ((enl_noRefs fzr26_Object)))))))))
structure Area where
  Lo:Int
  Hi:Int
  Next:Int
  deriving DecidableEq
instance:Inhabited Area:=⟨⟨default,default,default⟩⟩
def cArea (x:Area):List PV:=[.int .i64 x.Lo,.int .i64 x.Hi,.int .i64 x.Next]
theorem szArea:Sz cArea 3:=fun _=>rfl
theorem fzArea:Fz cArea:=fun _=>⟨rfl,rfl⟩
theorem nzArea:type_of% (And.intro @cArea.eq_1 (And.intro (enl_len szArea) (And.intro (enl_frz fzArea) (And.intro (enl_free fzArea) (And.intro (enl_take szArea) (And.intro (enl_purge fzArea) (And.intro (enl_al fzArea) (And.intro (enl_refs fzArea) ((enl_noRefs fzArea)))))))))):=And.intro @cArea.eq_1 (And.intro (enl_len szArea) (And.intro (enl_frz fzArea) (And.intro (enl_free fzArea) (And.intro (enl_take szArea) (And.intro (enl_purge fzArea) (And.intro (enl_al fzArea) (And.intro (enl_refs fzArea) ((enl_noRefs fzArea)))))))))
structure l26_Op where
  Kind:Int
  Area:Int
  Id:Int
  Slot:Int
  N:Int
  Mask:Int
  deriving DecidableEq
instance:Inhabited l26_Op:=⟨⟨default,default,default,default,default,default⟩⟩
def cl26_Op (x:l26_Op):List PV:=[.int .i64 x.Kind,.int .u8 x.Area,.int .u8 x.Id,.int .u8 x.Slot,.int .u8 x.N,.int .u16 x.Mask]
theorem szl26_Op:Sz cl26_Op 6:=fun _=>rfl
noncomputable def r03_power_l1_b (p0:Int) (out1:Int) (i2:Int):Option (Stp (Int × Int) Int) :=
  if decide (i2 < p0) then
    some (.next (IntKind.wrap .i64 (out1 * 2),IntKind.wrap .i64 (i2 + 1)))
  else
    some (.stop out1)
noncomputable def r03_power_l1 (p0:Int) (s:Int × Int):Option Int:=runL (fun s=>r03_power_l1_b p0 s.1 s.2) s
noncomputable def r03_power (p0:Int):Option Int :=
  (r03_power_l1 p0 (1,0)).bind fun out3 =>
  some out3
noncomputable def r03_Pointer (p0:Shape) (p1:Int):Option Bool :=
  if ((decide (p1 < 0)) || (decide (p0.Slots ≤ p1))) then
    some false
  else
    (r03_power p1).bind fun r2 =>
    if decide (r2=0) then
      Option.none
    else
      some ((Int.tmod (IntKind.wrap .i64 (Int.tdiv p0.Mask r2)) 2) == 1)
noncomputable def l12_Shape_l5_b (p0:Int) (m1:Int) (i2:Int):Option (Stp (Int × Int) Int) :=
  if decide ((IntKind.wrap .i64 (Int.tmod (IntKind.wrap .u64 p0) 17)) < i2) then
    if decide ((IntKind.wrap .i64 (i2 - 1)) < 0) then
      Option.none
    else
      some (.next ((if decide ((IntKind.wrap .i64 (1 * 2 ^ (min (IntKind.wrap .i64 (i2 - 1)).toNat 64))) ≤ m1) then IntKind.wrap .i64 (m1 - (IntKind.wrap .i64 (1 * 2 ^ (min (IntKind.wrap .i64 (i2 - 1)).toNat 64)))) else m1),IntKind.wrap .i64 (i2 - 1)))
  else
    some (.stop m1)
noncomputable def l12_Shape_l5 (p0:Int) (s:Int × Int):Option Int:=runL (fun s=>l12_Shape_l5_b p0 s.1 s.2) s
noncomputable def l12_Shape (p0:Int) (p1:Int):Option Shape :=
  (l12_Shape_l5 p0 (IntKind.wrap .i64 p1,16)).bind fun m4 =>
  some (⟨IntKind.wrap .i64 (Int.tmod (IntKind.wrap .u64 p0) 17),m4⟩:Shape)
noncomputable def shape_Check (p0:Shape):Option Int :=
  if ((decide (p0.Slots < 0)) || (((decide (16 < p0.Slots)) || (((decide (p0.Mask < 0)) || (decide ((IntKind.wrap .i64 (1 * 2 ^ (min p0.Slots.toNat 64))) ≤ p0.Mask))))))) then
    some 16
  else
    some 0
noncomputable def shape_Of (p0:Int):Option (Shape × Int) :=
  if ((decide (p0 < 0)) || (decide (2097152 ≤ p0))) then
    some ((⟨0,0⟩:Shape),16)
  else
    (shape_Check ((⟨bAnd .i64 p0 31,Int.fdiv p0 (2 ^ (min (5:Int).toNat 64))⟩:Shape))).bind fun r2 =>
    if (r2 != 0) then
      some ((⟨0,0⟩:Shape),r2)
    else
      some ((⟨bAnd .i64 p0 31,Int.fdiv p0 (2 ^ (min (5:Int).toNat 64))⟩:Shape),0)
noncomputable def shape_Head (p0:Shape):Option Int :=
  some (bOr .i64 (IntKind.wrap .i64 (p0.Mask * 2 ^ (min (5:Int).toNat 64))) p0.Slots)
noncomputable def shape_bits:Option (List Int) :=
  some ([1,2,4,8,16,32,64,128,256,512,1024,2048,4096,8192,16384,32768])
noncomputable def shape_Pointer_j1 (p0:Shape) (p1:Int):Option Bool :=
  if decide (0 ≤ p1) then
    if decide (p1 < p0.Slots) then
      (shape_bits).bind fun r1 =>
      (ixa r1 16 p1).bind fun x_2 =>
      some ((bAnd .i64 p0.Mask x_2) != 0)
    else
      some false
  else
    some false
noncomputable def shape_Pointer (p0:Shape) (p1:Int):Option Bool :=
  (shape_Pointer_j1 p0 p1).bind fun v3 =>
  some v3
noncomputable def r26_Find_l1_b (p0:List r26_Object) (p1:Int) (i1:Int):Option (Stp Int (Stp Unit Int)) :=
  if decide (0 ≤ i1) then
    (ix p0 i1).bind fun x_2 =>
    if (x_2.At == p1) then
      some (.stop (.stop (i1)))
    else
      some (.next (IntKind.wrap .i64 (i1 - 1)))
  else
    some (.stop (.next ()))
noncomputable def r26_Find_l1 (p0:List r26_Object) (p1:Int) (s:Int):Option (Stp Unit Int):=runL (fun s=>r26_Find_l1_b p0 p1 s) s
noncomputable def r26_Find (p0:List r26_Object) (p1:Int):Option Int :=
  (r26_Find_l1 p0 p1 (IntKind.wrap .i64 (((p0.length:Int)) - 1))).bind fun
    | .next _ =>
      some (-1)
    | .stop v3 =>
      some v3
noncomputable def r26_Starts_j4 (p0:List r26_Object) (p1:Area) (out1:List Int) (v2:Int) (r3:Int):Option (List Int) :=
  if decide (0 ≤ r3) then
    (app out1 [v2] 8).bind fun l_4 =>
    some l_4
  else
    some out1
noncomputable def r26_Starts_l5_b (p0:List r26_Object) (p1:Area) (out1:List Int) (v2:Int):Option (Stp (List Int × Int) (List Int)) :=
  if decide (v2 < p1.Next) then
    (r26_Find p0 v2).bind fun r3 =>
    (r26_Starts_j4 p0 p1 out1 v2 r3).bind fun out5 =>
    some (.next (out5,IntKind.wrap .i64 (v2 + 1)))
  else
    some (.stop out1)
noncomputable def r26_Starts_l5 (p0:List r26_Object) (p1:Area) (s:List Int × Int):Option (List Int):=runL (fun s=>r26_Starts_l5_b p0 p1 s.1 s.2) s
noncomputable def r26_Starts (p0:List r26_Object) (p1:Area):Option (List Int) :=
  (r26_Starts_l5 p0 p1 ([],p1.Lo)).bind fun out6 =>
  some out6
noncomputable def r08_Has_l1_b (p0:List Int) (p1:Int) (i1:Int):Option (Stp Int (Stp Unit Unit)) :=
  if decide (i1 < ((p0.length:Int))) then
    (ix p0 i1).bind fun x_2 =>
    if (x_2 == p1) then
      some (.stop (.stop (())))
    else
      some (.next (IntKind.wrap .i64 (i1 + 1)))
  else
    some (.stop (.next ()))
noncomputable def r08_Has_l1 (p0:List Int) (p1:Int) (s:Int):Option (Stp Unit Unit):=runL (fun s=>r08_Has_l1_b p0 p1 s) s
noncomputable def r08_Has (p0:List Int) (p1:Int):Option Bool :=
  (r08_Has_l1 p0 p1 0).bind fun
    | .next _ =>
      some false
    | .stop _ =>
      some true
noncomputable def l26_roots_j4 (p0:List r26_Object) (p1:List Int) (out1:List Int) (i2:Int) (x_3:Int):Option (List Int) :=
  if decide ((Int.tmod (IntKind.wrap .i64 x_3) (IntKind.wrap .i64 (((p0.length:Int)) + 1))) < ((p0.length:Int))) then
    (ix p0 (Int.tmod (IntKind.wrap .i64 x_3) (IntKind.wrap .i64 (((p0.length:Int)) + 1)))).bind fun x_4 =>
    (app out1 [x_4.At] 8).bind fun l_5 =>
    some l_5
  else
    (app out1 [0] 8).bind fun l_6 =>
    some l_6
noncomputable def l26_roots_l5_b (p0:List r26_Object) (p1:List Int) (out1:List Int) (i2:Int):Option (Stp (List Int × Int) (List Int)) :=
  if decide (i2 < ((p1.length:Int))) then
    (ix p1 i2).bind fun x_3 =>
    if decide ((IntKind.wrap .i64 (((p0.length:Int)) + 1))=0) then
      Option.none
    else
      (l26_roots_j4 p0 p1 out1 i2 x_3).bind fun out7 =>
      some (.next (out7,IntKind.wrap .i64 (i2 + 1)))
  else
    some (.stop out1)
noncomputable def l26_roots_l5 (p0:List r26_Object) (p1:List Int) (s:List Int × Int):Option (List Int):=runL (fun s=>l26_roots_l5_b p0 p1 s.1 s.2) s
noncomputable def l26_roots (p0:List r26_Object) (p1:List Int):Option (List Int) :=
  (l26_roots_l5 p0 p1 ([],0)).bind fun out8 =>
  some out8
noncomputable def space_In (p0:Area) (p1:Int):Option Bool :=
  some ((decide (p0.Lo ≤ p1)) && (decide (p1 < p0.Next)))
end Go.Ab
