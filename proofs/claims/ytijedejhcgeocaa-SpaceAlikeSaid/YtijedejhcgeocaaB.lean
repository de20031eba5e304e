/-
  Texts of this seat: lemmas on the way to the statement.
-/
import Derived.Test.YtijedejhcgeocaaA
import Derived.Laws.AppendOwn
import Derived.Laws.BytesString
import Derived.Orders
import Derived.Tactics
namespace Go.Ab
open Go
set_option linter.unusedVariables false
set_option linter.unusedSimpArgs false
def explodeL (n m:Nat):Lab→Lab
  | .own q s i=>if q=n then (match s with | _ :: k :: s'=>if k < m then .own n (k :: s') i else .out | _=>.out) else .own q s i
  | l=>l
theorem explodeL_own {n m:Nat} {l:Lab} {q:Nat} {s:List Nat} {i:Nat} (h:explodeL n m l = .own q s i) :
    (∃ x k s',l = .own n (x :: k :: s') i∧q=n∧s=k :: s' ∧ k < m) ∨ (l = .own q s i∧q ≠ n):=by
  cases l with
  | out=>cases h
  | sh=>cases h
  | own q' s' i' =>
    simp only [explodeL] at h
    split at h
    · rename_i hq;subst hq
      split at h
      · rename_i x k s2
        split at h
        · rename_i hk
          simp only [Lab.own.injEq] at h
          obtain ⟨rfl,rfl,rfl⟩:=h
          exact .inl ⟨x,k,s2,rfl,rfl,rfl,hk⟩
        · cases h
      · cases h
    · rename_i hq
      simp only [Lab.own.injEq] at h
      obtain ⟨rfl,rfl,rfl⟩:=h
      exact .inr ⟨rfl,hq⟩
theorem explodeL_keep {n m q:Nat} (h:q ≠ n) (s:List Nat) (i:Nat):explodeL n m (.own q s i) = .own q s i:=by simp [explodeL,h]
section
variable {P:Program} {n m:Nat} {w:World} {L:LM} {a:Act} {e:Env}
theorem InvF.explode {g:Nat→PV} (I:InvF n 1 w L a g) {sz len:Nat} {cs:List PV} {u:Value} (H:RepV w L (some (n,[0])) (.own sz len cs) u) :
    InvF n cs.length w (fun b j=>explodeL n cs.length (L b j)) a g∧Ext w L w (fun b j=>explodeL n cs.length (L b j))∧(∀ v u,v.free=true→RepV w L Option.none v u→RepV w (fun b j=>explodeL n cs.length (L b j)) Option.none v u) ∧
    ∃ b cap,u = .slice (some ⟨b,0,Option.none⟩) len cap∧cs.length=len * sz∧len ≤ cap∧0 < cap * sz∧(∀ j,j < cap * sz→L b j = .own n [0] j) ∧
      ∀ i (hi:i < cs.length),RepV w (fun b j=>explodeL n cs.length (L b j)) (some (n,[i])) cs[i] (cv w b i)∧refs cs[i]=[]∧cs[i].cok=true:=by
  refine ⟨⟨⟨⟨fun b j b' j' q s i e1 e2=>?_,fun b j h=>I.wf.ex b j fun e=>h (by simp [e,explodeL]),fun b j q s i h=>?_⟩,fun t=>?_,I.df,I.sz⟩,fun b j q s i h=>?_,I.dom,I.nr⟩,Ext.relabel w L rfl rfl,fun v u hv H=>H.move (h':=Option.none) (σ:=explodeL n cs.length) rfl trivial (by simp [free_refs hv]),?_⟩
  · rcases explodeL_own e1 with ⟨x1,k1,s1,h1,h2,h3,h4⟩ | ⟨h1,h2⟩ <;> rcases explodeL_own e2 with ⟨x2,k2,s2,h5,h6,h7,h8⟩ | ⟨h5,h6⟩
    · have hx:∀ {b j x s i},L b j = .own n (x :: s) i→x=0:=by
        intro b j x s i h
        rcases I.bd _ _ _ _ _ h with h | ⟨_,k,s',h,hk⟩
        · omega
        · simp only [List.cons.injEq] at h;omega
      obtain rfl:=hx h1
      obtain rfl:=hx h5
      rw [h3] at h7
      simp only [List.cons.injEq] at h7
      obtain ⟨rfl,rfl⟩:=h7
      exact I.wf.inj _ _ _ _ _ _ _ h1 h5
    · exact absurd h2 h6
    · exact absurd h6 h2
    · exact I.wf.inj _ _ _ _ _ _ _ h1 h5
  · rcases explodeL_own h with ⟨_,_,_,h1,_⟩ | ⟨h1,_⟩
    · exact I.wf.thaw _ _ _ _ _ h1
    · exact I.wf.thaw _ _ _ _ _ h1
  · rcases Nat.lt_or_ge t n with ht | ht
    · exact (I.rep t).move (σ:=explodeL n cs.length) rfl (fun s i=>explodeL_keep (by omega) _ _) fun q hq i=>explodeL_keep (by have:=I.nr t q hq;omega) _ _
    · rw [I.dom t ht];exact .none _ _
  · rcases explodeL_own h with ⟨_,k,s',_,h2,h3,h4⟩ | ⟨h1,h2⟩
    · exact .inr ⟨h2,k,s',h3,h4⟩
    · rcases I.bd _ _ _ _ _ h1 with h | ⟨h,_⟩
      · exact .inl h
      · exact absurd h h2
  · cases H with
    | own _ _ _ _ _ b cap hn hl hp ho hk hc =>
      refine ⟨b,cap,rfl,hn,hl,hp,ho,fun i hi=>⟨?_,refs_cok (hk i hi),hk i hi⟩⟩
      refine (hc i hi).move (σ:=explodeL n cs.length) rfl (fun s k=>?_) (by simp [refs_cok (hk i hi)])
      simp [explodeL,hi]
theorem InvF.more {g:Nat→PV} (I:InvF n m w L a g) {m':Nat} (h:m ≤ m'):InvF n m' w L a g :=
  ⟨I.toInv,fun b j r p i hl=>by
    rcases I.bd b j r p i hl with h' | ⟨h',k,s,e,hk⟩
    · exact .inl h'
    · exact .inr ⟨h',k,s,e,by omega⟩,I.dom,I.nr⟩
theorem InvF.fly' (I:InvF n m w L a e.get) {r:Nat} {p:List Nat} {v:PV} {u:Value} (hs:Ab.sub (e.get r) p ≠ .none) (hrefs:refs v=[]) (hc:canUpd e r p=true) (H:RepV w L (some (r,p)) v u) :
    ∃ L',InvF n (m + 1) w L' a ((e.upd r p .none).purge r p).get∧RepV w L' (some (n,[m])) v u∧Ext w L w L' ∧ Later w L L' [(r,p)]:=by
  have hr:r < n:=I.lt (sub_ne (p:=p) hs)
  refine ⟨fun b j=>moveL r p n [m] (L b j),?_,?_,moved_ext,fun y uy Hy=>later_of Hy rfl fun l hl=>moveL_not hl⟩
  · refine I.reshape (σ:=moveL r p n [m]) rfl (fun l hl=>moveL_not hl) hr (hasP_of_sub _ _ hs) (fun _=>rfl) (by simp [refs]) hc (fun _ _=>.none _ _) (I.wf.moved fun b j s i _=>by simpa using I.noFly (Nat.le_refl m)) fun b j q s i h=>?_
    rcases moveL_cases (r:=r) (p:=p) (r':=n) (p':=[m]) (l:=L b j) with ⟨s1,i1,h1,h2⟩ | ⟨h1,h2⟩
    · rw [h2] at h
      simp only [Lab.own.injEq] at h
      obtain ⟨rfl,rfl,rfl⟩:=h
      exact .inr ⟨rfl,m,s1,rfl,by omega⟩
    · rw [h2] at h
      rcases I.bd _ _ _ _ _ h with h | ⟨h,k,s',h',h''⟩
      · exact .inl h
      · exact .inr ⟨h,k,s',h',by omega⟩
  · exact H.move (σ:=moveL r p n [m]) rfl (fun s i=>moveL_under) (by simp [hrefs])
theorem InvF.wroteFly {g:Nat→PV} {w':World} (I:InvF n 1 w L a g) {b lo:Nat} {vs:List Value} (W:Wrote w w' b lo vs) (hl:∀ k,k < vs.length→L b (lo + k) = .own n [0] (lo + k)) :
    InvF n 1 w' L a g∧Ext w L w' L ∧ ∀ h v u,RepV w L h v u→(∀ r p s,h=some (r,p)→p ++ s ≠ [0] ∨ r ≠ n)→RepV w' L h v u:=by
  have fr : ∀ h v u,RepV w L h v u→(∀ r p s,h=some (r,p)→p ++ s ≠ [0] ∨ r ≠ n)→RepV w' L h v u:=by
    intro h v u H hs
    refine H.frame (fun _ _ _=>rfl) (fun _ _ _ _ _ _=>rfl) fun b1 j1 hrel=>W.cell ?_
    by_cases hb1:b1=b
    · subst hb1
      refine .inr ?_
      by_cases hj:lo ≤ j1∧j1 < lo + vs.length
      · exfalso
        have:=hl (j1 - lo) (by omega)
        rw [show lo + (j1 - lo)=j1 by omega] at this
        rw [this] at hrel
        rcases hrel with h1 | ⟨r',p',s,k,h1,h2⟩
        · cases h1
        · simp only [Lab.own.injEq] at h2
          rcases hs _ _ s h1 with h3 | h3
          · exact h3 h2.2.1.symm
          · exact h3 h2.1.symm
      · omega
    · exact .inl hb1
  refine ⟨⟨⟨⟨I.wf.inj,fun b1 j1 h=>?_,fun b1 j1 q s i h=>by rw [W.frozen];exact I.wf.thaw _ _ _ _ _ h⟩,fun t=>?_,I.df,I.sz⟩,I.bd,I.dom,I.nr⟩,W.ext (fun j1 h1 h2=>?_) fun _ _ _=>rfl,fr⟩
  · obtain ⟨v,hv⟩:=I.wf.ex b1 j1 h
    exact W.ex hv
  · rcases Nat.lt_or_ge t n with ht | ht
    · refine fr _ _ _ (I.rep t) fun r p s h=>.inr ?_
      simp only [Option.some.injEq,Prod.mk.injEq] at h
      omega
    · rw [I.dom t ht];exact .none _ _
  · have:=hl (j1 - lo) (by omega)
    rw [show lo + (j1 - lo)=j1 by omega] at this
    exact ⟨_,_,_,this⟩
theorem slCells_run {g:Nat→PV} (I:Inv n w L a g) {S:Subs} (hS:SubsOk S g) {x:PV} {u:Value} (V:RepV w L Option.none x u) {k sz:Nat} {cs:List PV} (h:slCells S x=some (k,cs)) (hlen:cs.length=k * sz) :
    ∃ (xb:Option Addr) (xc:Nat) (vs:List Value),u = .slice xb k xc∧vs.length=cs.length∧(∀ w':World,w'.heap=w.heap→(Builtin.firstCells sz k u).run P w' = .ok vs.toArray w') ∧
      ∀ i (hi:i < cs.length),(cs[i].free=true→RepV w L Option.none cs[i] (vs.getD i undef))∧cs[i].cok=true:=by
  have cell':∀ {w':World},w'.heap=w.heap → ∀ a,w'.cell? a=w.cell? a:=fun hw a=>by simp [World.cell?,hw]
  have nilCase:∀ (ad:Option Addr) (c:Nat),k=0→cs=[] → ∃ (xb:Option Addr) (xc:Nat) (vs:List Value),Value.slice ad 0 c = .slice xb k xc∧vs.length=cs.length∧(∀ w':World,w'.heap=w.heap→(Builtin.firstCells sz k (Value.slice ad 0 c)).run P w' = .ok vs.toArray w') ∧
      ∀ i (hi:i < cs.length),(cs[i].free=true→RepV w L Option.none cs[i] (vs.getD i undef))∧cs[i].cok=true:=by
    rintro ad c rfl rfl
    refine ⟨ad,c,[],rfl,rfl,fun w' hw=>?_,fun i hi=>by simp at hi⟩
    cases ad with
    | none=>simp [Builtin.firstCells]
    | some b=>exact run_firstCells_some w' sz 0 b 0 c [] (by simp) (by simp)
  cases V with
  | nils _ ad =>
    simp only [slCells,Option.some.injEq,Prod.mk.injEq] at h
    exact nilCase ad 0 h.1.symm h.2.symm
  | sl0 _ ad c =>
    simp only [slCells,Option.some.injEq,Prod.mk.injEq] at h
    exact nilCase ad c h.1.symm h.2.symm
  | sl _ len ds b o cap hl hs hk hc =>
    simp only [slCells,Option.some.injEq,Prod.mk.injEq] at h
    obtain ⟨rfl,rfl⟩:=h
    refine ⟨_,_,(List.range ds.length).map fun i=>cv w b (o + i),rfl,by simp,fun w' hw=>?_,fun i hi=>⟨fun _=>?_,hk i hi⟩⟩
    · refine run_firstCells_some w' sz len _ len cap _ (by simpa using hlen) fun j v hj=>?_
      rw [addr_add,cell' hw]
      obtain ⟨hlt,rfl⟩:=List.getElem?_eq_some_iff.1 hj
      simp only [List.length_map,List.length_range] at hlt
      simpa using sp_cell I.wf (hs j hlt)
    · have:=hc i hi
      simpa [List.getD,hi] using this
  | view _ r p off len z b cap hl hp hlab =>
    simp only [slCells] at h
    split at h
    · rename_i sz' n0 ds hsub
      split at h
      · rename_i hle
        simp only [Option.some.injEq,Prod.mk.injEq] at h
        obtain ⟨rfl,rfl⟩:=h
        have hsub':Ab.sub (g r) p = .own sz' n0 ds:=by
          rcases hS r p with h | h
          · rw [h] at hsub;cases hsub
          · rw [← h];exact hsub
        obtain ⟨T,hT⟩:=I.obj (r:=r) (p:=p) (by rw [hsub'];simp)
        have cell:∀ i,i < len * sz' → RepV w L (some (r,p ++ [off + i])) (ds.getD (off + i) .none) (cv w b (off + i))∧w.cell? ⟨b,off + i,Option.none⟩=some (cv w b (off + i))∧(ds.getD (off + i) .none).cok=true:=fun i hi=>by
          have h0:=hlab 0 hp
          have h1:off + i < ds.length:=by omega
          have:=obj_cells I.wf hT (cs:=ds) (by rw [hsub'];rfl) h0 (by omega) (off + i) (by omega)
          simp only [Nat.zero_add] at this
          rw [show ds.getD (off + i) .none=ds[off + i] from by simp [h1]]
          refine ⟨this.2.1,this.2.2,?_⟩
          rw [hsub'] at hT
          exact obj_cok hT (cs:=ds) rfl _ h1
        have hl2:((ds.drop off).take (len * sz')).length=len * sz':=by simp;omega
        have hg:∀ i (hi:i < ((ds.drop off).take (len * sz')).length),((ds.drop off).take (len * sz'))[i]=ds.getD (off + i) .none:=fun i hi=>by
          simp only [List.getElem_take,List.getElem_drop]
          rw [hl2] at hi
          simp [show off + i < ds.length by omega]
        refine ⟨_,_,(List.range (len * sz')).map fun i=>cv w b (off + i),rfl,by simp;omega,fun w' hw=>?_,fun i hi=>?_⟩
        · refine run_firstCells_some w' sz len _ len cap _ (by rw [hl2] at hlen;simpa using hlen) fun j v hj=>?_
          rw [addr_add,cell' hw]
          obtain ⟨hlt,rfl⟩:=List.getElem?_eq_some_iff.1 hj
          simp only [List.length_map,List.length_range] at hlt
          simpa using (cell j hlt).2.1
        · have hi':i < len * sz':=by rw [hl2] at hi;exact hi
          rw [hg i hi]
          refine ⟨fun hf=>?_,(cell i hi').2.2⟩
          have:=(cell i hi').1.any hf Option.none
          simpa [List.getD,hi'] using this
      · cases h
    · cases h
  | _=>simp [slCells] at h
theorem run_app {t ty et:TypeId} {i:TypeInfo} {z:Value} (w:World) (ht:P.underlying t=some (.slice et)) (hi:P.info? et=some i) (hz:i.zero=some z) {base:Option Addr} {len cap m:Nat} {xb:Option Addr} {xc:Nat} {olds news:List Value}
    (hol:∀ w':World,w'.heap=w.heap→(Builtin.firstCells i.size len (.slice base len cap)).run P w' = .ok olds.toArray w') (hnew:∀ w':World,w'.heap=w.heap→(Builtin.firstCells i.size m (.slice xb m xc)).run P w' = .ok news.toArray w')
    (hb:(len + m) * i.bytes ≤ lim) (hl:len + m ≤ lim) :
    (Builtin.append_ #[t,t] ty #[.slice base len cap,.slice xb m xc]).run P w =
      if len + m ≤ cap then (match base with | some ad=>((storeCells (ad.add (len * i.size)) news).run P w).andThen fun _ w'=>.ok (.slice base (len + m) cap) w' | Option.none=>.ok (.slice base (len + m) cap) w)
      else .ok (.slice (some ⟨w.heap.size,0,Option.none⟩) (len + m) (grownCap w (len + m) cap et)) (w.drew.alloc (.cells (olds.toArray ++ news.toArray ++ Builtin.zeroCells z.cells (grownCap w (len + m) cap et - (len + m))) et)):=by
  unfold lim at hb hl
  by_cases hr:len + m ≤ cap
  · rw [if_pos hr]
    have hf:=hnew w rfl
    cases base with
    | none=>simp [Builtin.append_,run_underlying ht,sizeOf,typeInfo,hi,Builtin.lenOf,hr,hf]
    | some ad=>simp [Builtin.append_,run_underlying ht,sizeOf,typeInfo,hi,Builtin.lenOf,hr,hf]
  · rw [if_neg hr]
    have h63':¬ (9223372036854775807 < ((len:Int) + (m:Int))):=by omega
    have h48:=growslice_fits (need:=len + m) (old:=cap) (bytes:=i.bytes) (by omega) (by omega)
    have h48':¬ (281474976710656 < Builtin.nextslicecap (len + m) cap * i.bytes):=by omega
    have hf:=hnew w.drew rfl
    have hfo:=hol w.drew rfl
    simp [Builtin.append_,run_underlying ht,sizeOf,typeInfo,zeroValue,hi,hz,Builtin.lenOf,hr,h63',h48',Question.forced,hf,hfo,newRow,grownCap]
    congr 2
    apply Array.ext'
    simp [List.append_assoc]
end
end Go.Ab
namespace Go.Ab
open Go
set_option linter.unusedVariables false
set_option linter.unusedSimpArgs false
theorem Grows.drew {w:World} {L:LM} (W:WF w L):Grows w L w.drew L :=
  ⟨⟨W.inj,fun b j h=>W.ex b j h,fun b j r p i h=>W.thaw b j r p i h⟩,⟨rfl,rfl,rfl,Nat.le_refl _,fun _ _ _ _=>rfl,fun _ _=>.refl _ _ _⟩,fun _ _ _=>rfl,fun _ _ _=>rfl⟩
section
variable {P:Program} {n m:Nat} {w:World} {L:LM} {a:Act} {e:Env} {o:Oper} {Q:Exit→Act→World→Prop}
theorem InvF.drew {g:Nat→PV} (I:InvF n m w L a g):InvF n m w.drew L a g :=
  ⟨⟨(Grows.drew I.wf).wf,fun t=>(Grows.drew I.wf).rep (I.rep t),I.df,I.sz⟩,I.bd,I.dom,I.nr⟩
theorem landNew' (I:InvF n m w L a e.get) {d:Nat} (hd:d < n) {ys:List PV} {vs:Array Value} (hlen:ys.length ≤ vs.size) (hm:ys.length ≤ m)
    (H:∀ i (hi:i < ys.length),RepV w L (some (n,[i])) ys[i] (vs.getD i undef)∧refs ys[i]=[]∧ys[i].cok=true) (t:TypeId) {v:PV} {u:Value}
    (K:∀ L',(∀ j,j < vs.size→L' w.heap.size j = .own d [] j)→(∀ i (hi:i < ys.length),RepV { w with heap:=w.heap.push (.cells vs t) } L' (some (d,[i])) ys[i] (cv { w with heap:=w.heap.push (.cells vs t) } w.heap.size i)) →
        RepV { w with heap:=w.heap.push (.cells vs t) } L' (some (d,[])) v u) :
    ∃ L',InvF n 0 { w with heap:=w.heap.push (.cells vs t) } L' (a.put (some d) u) (e.setD d v).get∧Ext w L { w with heap:=w.heap.push (.cells vs t) } L':=by
  obtain ⟨I2,T2,F2,E2⟩:=I.land hd
  have G:=grows_new I2.wf T2 vs t
  refine ⟨_,(I2.put hd G (v:=v) (u:=u) ?_ fun b j r p i h=>?_).congr fun t=>?_,E2.trans G.ext⟩
  · refine K _ (fun j hj=>newL_at _ hj) fun i hi=>?_
    have h1:=F2 i _ _ (by omega) (H i hi).1 (H i hi).2.1
    have h2:=G.rep h1
    have e1:cv { w with heap:=w.heap.push (.cells vs t) } w.heap.size i=vs.getD i undef:=by
      simp [cv,cell_new,show i < vs.size by omega,Array.getD]
    rw [e1]
    exact h2
  · rcases newL_labels I2.wf vs.size d b j with h' | ⟨p',i',h'⟩ | h'
    · rw [h'] at h
      rcases I2.bd b j r p i h with h | ⟨_,k,s,_,h⟩
      · exact h
      · omega
    · rw [h'] at h;simp only [Lab.own.injEq] at h;omega
    · rw [h'] at h;cases h
  · rw [get_setD];by_cases h:t=d <;> simp [h]
theorem getD_getElem {vs:List Value} {i:Nat} (h:i < vs.length):vs.getD i undef=vs[i]:=by simp [h]
theorem StepOk.app (I:InvF n 0 w L a e.get) {d:Nat} (hd:d < n) (ho:o.dst=some d) {s x:Operand} {s' x':XO} {t et:TypeId} {at_:Array TypeId} {z:List PV} {sz by_:Nat} (hop:o.op = .call { callee:=.builtin .append,args:=#[s,x],argTypes:=#[t,t] })
    (hs:trO s=some s') (hx:trO x=some x') (ht:P.underlying t=some (.slice et)) (hz:zeroP P et=some z) (hsz:szP P et=some sz) (hz0:0 < sz) (hzl:z.length=sz) (hby:(P.info? et).map (·.bytes)=some by_)
    {r:Nat} {p:List Nat} {len n0 k:Nat} {cs new:List PV} (es:look e s' = .view r p 0 len sz) (hsub:e.sub r p = .own sz n0 cs) (ex:slCells e.sub (look e x')=some (k,new)) (hle:len * sz ≤ cs.length) (hk:k * sz=new.length)
    (hb:(len + k) * by_ ≤ lim) (hl:len + k ≤ lim) (hf:new.all PV.free=true) (hc:canUpd e r p=true) :
    StepOk P n o a w L (((e.upd r p .none).purge r p).setD d (.own sz (len + k) (cs.take (len * sz) ++ new))) Q:=by
  obtain ⟨i,v,hi,hzv,HZ,hzf⟩:=zero_pw (w:=w) (L:=L) hz
  have hisz:i.size=sz:=by simp [szP,hi] at hsz;exact hsz
  have hiby:i.bytes=by_:=by simp [hi] at hby;exact hby
  have hf':∀ c ∈ new,c.free=true:=fun c hc=>by simpa using (List.all_eq_true.1 hf) c hc
  have hsub':Ab.sub (e.get r) p = .own sz n0 cs:=hsub
  have hsne:Ab.sub (e.get r) p ≠ .none:=by rw [hsub'];simp
  obtain ⟨xb,xc,news,hxv,hnl,hnr,hnc⟩:=slCells_run (P:=P) I.toInv (S:=e.sub) (fun r p=>.inr rfl) (I.look hx Option.none) (sz:=sz) ex hk.symm
  have V:=I.look hs Option.none
  rw [show lookG e.get s' = .view r p 0 len sz from es] at V
  generalize hsv:a.eval s=sv at V
  obtain ⟨T,hT⟩:=I.obj hsne
  rw [hsub'] at hT
  have htr:(cs.take (len * sz)).length=len * sz:=by simp;omega
  obtain ⟨b,cap,rfl,hO⟩:∃ b cap,sv = .slice (some ⟨b,0,Option.none⟩) len cap∧RepV w L (some (r,p)) (.own sz len (cs.take (len * sz))) (.slice (some ⟨b,0,Option.none⟩) len cap):=by
    cases V with
    | view _ _ _ _ _ _ b cap hl hp hlab =>
      refine ⟨b,cap,rfl,?_⟩
      cases hT with
      | own _ _ _ _ _ b' cap' hn hl' hp' ho hk hcc =>
        refine .own _ _ _ _ _ _ _ htr hl (by omega) (fun j hj=>hlab j (by omega)) (fun i hi=>by rw [List.getElem_take];exact hk _ _) fun i hi=>?_
        have h2:=hlab 0 (by omega)
        obtain ⟨rfl,_⟩:=I.wf.inj _ _ _ _ _ _ _ h2 (ho 0 hp')
        rw [List.getElem_take]
        exact hcc i _
  obtain ⟨L1,I1,H1,E1,T1⟩:=I.fly' hsne (v:=.own sz len (cs.take (len * sz))) rfl hc hO
  have F1:∀ v u,v.free=true→RepV w L Option.none v u→RepV w L1 Option.none v u:=fun v u hv H=>by
    have:=T1 _ _ H
    simpa [purges,free_purge hv] using this
  obtain ⟨I2,E2,F2,b2,cap2,hu2,_,hlc,hcp,hlab1,hkids⟩:=I1.explode H1
  simp only [Value.slice.injEq,Option.some.injEq,Addr.mk.injEq,and_true,true_and] at hu2
  obtain ⟨rfl,rfl⟩:=hu2
  simp only [htr] at I2 E2 F2 hkids
  have hcell:∀ i,i < len * sz→w.cell? ⟨b,i,Option.none⟩=some (cv w b i):=fun i hi=>by
    have hcap:len * sz ≤ cap * sz:=Nat.mul_le_mul_right _ hlc
    obtain ⟨v,hv⟩:=I1.wf.ex b i (by rw [hlab1 i (by omega)];simp)
    simp [cv,hv]
  have hol:∀ w':World,w'.heap=w.heap→(Builtin.firstCells sz len (.slice (some ⟨b,0,Option.none⟩) len cap)).run P w' = .ok ((List.range (len * sz)).map fun i=>cv w b i).toArray w':=fun w' hw=>by
    refine run_firstCells_some w' sz len _ len cap _ (by simp) fun j v hj=>?_
    rw [addr_add,Nat.zero_add]
    obtain ⟨hlt,rfl⟩:=List.getElem?_eq_some_iff.1 hj
    simp only [List.length_map,List.length_range] at hlt
    have:=hcell j hlt
    simp only [World.cell?,hw] at this ⊢
    simpa using this
  have hrun:=run_app (ty:=o.type) (z:=v) w ht hi hzv (base:=some ⟨b,0,Option.none⟩) (len:=len) (cap:=cap) (m:=k) (xb:=xb) (xc:=xc) (by rw [hisz];exact hol) (by rw [hisz,← hxv];exact hnr) (by rw [hiby];exact hb) hl
  have hop':(execOp a.eval o).run P w=((Builtin.append_ #[t,t] o.type #[.slice (some ⟨b,0,Option.none⟩) len cap,.slice xb k xc]).run P w).andThen fun v w'=>.ok (.value v) w':=by
    simp [execOp,hop,resolve,invoke,builtin,hsv,hxv]
  have hkl:(cs.take (len * sz) ++ new).length=(len + k) * sz:=by rw [List.length_append,htr,← hk,Nat.add_mul]
  have hkl2:(cs.take (len * sz) ++ new).length=len * sz + new.length:=by rw [List.length_append,htr]
  unfold StepOk Oper.wp
  rw [hop',hrun]
  by_cases hroom:len + k ≤ cap
  ·
    rw [if_pos hroom]
    simp only [addr_add,Nat.zero_add,hisz]
    have hcap:(len + k) * sz ≤ cap * sz:=Nat.mul_le_mul_right _ hroom
    rw [Nat.add_mul] at hcap
    have hnlen:news.length=k * sz:=by omega
    have hlabn:∀ q,q < news.length→L1 b (len * sz + q) = .own n [0] (len * sz + q):=fun q hq=>hlab1 _ (by omega)
    have hone:∀ v ∈ news,v.oneCell' = true:=fun v hv=>by
      obtain ⟨q,hq,rfl⟩:=List.getElem_of_mem hv
      obtain ⟨h1,h2⟩:=hnc q (by omega)
      have h3:=hf' _ (List.getElem_mem (show q < new.length by omega))
      have:=one_of_cok (h1 h3) h2 (by intro hh;rw [hh] at h3;simp [PV.free] at h3)
      rwa [getD_getElem hq] at this
    obtain ⟨v9,hv9⟩:=I1.wf.ex b (cap * sz - 1) (by rw [hlab1 _ (by omega)];simp)
    have hex:∃ c t fr,w.heap[b]? = some (.cells c t fr)∧len * sz + 0 + news.length ≤ c.size:=by
      simp only [World.cell?] at hv9
      split at hv9
      · rename_i c t fr hc
        refine ⟨c,t,fr,hc,?_⟩
        have:cap * sz - 1 < c.size:=by
          rcases Nat.lt_or_ge (cap * sz - 1) c.size with h | h
          · exact h
          · rw [Array.getElem?_eq_none h] at hv9;cases hv9
        omega
      · cases hv9
    obtain ⟨w',hst,W⟩:=run_storeCells (P:=P) news 0 w hex (fun q hq=>I1.wf.thaw _ _ _ _ _ (by rw [Nat.add_zero];exact hlabn q hq)) hone
    rw [Nat.add_zero] at W
    rw [hst]
    simp only [Result.andThen_ok,Oper.upon,ho]
    obtain ⟨I3,E3,F3⟩:=I1.wroteFly W hlabn
    obtain ⟨L4,I4,E4⟩:=I3.land1 hd (v:=.own sz (len + k) (cs.take (len * sz) ++ new)) (u:=.slice (some ⟨b,0,Option.none⟩) (len + k) cap) (by
      cases H1 with
      | own _ _ _ _ _ _ _ hn _ _ ho1 hk1 hc1 =>
        refine .own _ _ _ _ _ _ _ hkl hroom hcp ho1 (fun q hq=>?_) fun q hq=>?_
        · by_cases h:q < len * sz
          · rw [List.getElem_append_left (by omega)];exact hk1 q (by omega)
          · rw [List.getElem_append_right (by omega)]
            exact free_cok (hf' _ (List.getElem_mem _))
        · by_cases h:q < len * sz
          · rw [List.getElem_append_left (by omega),cv_eq (W.cell (b':=b) (j:=q) (by omega))]
            refine F3 _ _ _ (hc1 q (by omega)) fun r p s h=>.inl ?_
            simp only [Option.some.injEq,Prod.mk.injEq] at h
            obtain ⟨rfl,rfl⟩:=h
            simp
          · rw [List.getElem_append_right (by omega)]
            have hq':q - len * sz < new.length:=by omega
            simp only [htr]
            have h1:=(hnc (q - len * sz) hq').1 (hf' _ (List.getElem_mem hq'))
            have h2:=W.cell_new (k:=q - len * sz) (by omega)
            rw [show len * sz + (q - len * sz)=q by omega] at h2
            rw [h2]
            rw [getD_getElem (by omega)] at h1
            exact (F3 _ _ _ (F1 _ _ (hf' _ (List.getElem_mem hq')) h1) (by simp)).any (hf' _ (List.getElem_mem hq')) _) (by simp [refs])
    exact ⟨L4,I4,E1.trans (E3.trans E4)⟩
  · rw [if_neg hroom]
    simp only [Result.andThen_ok,Oper.upon,ho]
    have hge:=grownCap_ge w (len + k) cap et
    have hzsz:v.cells.size=sz:=by rw [HZ.sz,hzl]
    have hnlen:news.length=k * sz:=by omega
    generalize hcapn:grownCap w (len + k) cap et=ncap at hge
    have hvs:(((List.range (len * sz)).map fun i=>cv w b i).toArray ++ news.toArray ++ Builtin.zeroCells v.cells (ncap - (len + k))).size=ncap * sz:=by
      simp only [Array.size_append,List.size_toArray,List.length_map,List.length_range,size_zeroCells,hzsz,hnlen,← Nat.add_mul]
      congr 1;omega
    have hcapge:(len + k) * sz ≤ ncap * sz:=Nat.mul_le_mul_right _ hge
    have hys:(cs.take (len * sz) ++ new).length ≤ ncap * sz:=by rw [hkl];exact hcapge
    have I3:=(I2.drew).more (m':=(cs.take (len * sz) ++ new).length) (by rw [hkl2];omega)
    have G:=Grows.drew I2.wf
    have hget1:∀ q,q < len * sz→(((List.range (len * sz)).map fun i=>cv w b i).toArray ++ news.toArray ++ Builtin.zeroCells v.cells (ncap - (len + k))).getD q undef=cv w b q:=fun q hq=>by
      have h1:q < len * sz + news.length + (ncap - (len + k)) * v.cells.size:=by omega
      have h2:q < len * sz + news.length:=by omega
      simp [Array.getD,h1,Array.getElem_append,h2,hq,size_zeroCells]
    have hget2:∀ q (hq:q < news.length),(((List.range (len * sz)).map fun i=>cv w b i).toArray ++ news.toArray ++ Builtin.zeroCells v.cells (ncap - (len + k))).getD (len * sz + q) undef=news[q]:=fun q hq=>by
      have h1:len * sz + q < len * sz + news.length + (ncap - (len + k)) * v.cells.size:=by omega
      have h2:len * sz + q < len * sz + news.length:=by omega
      simp [Array.getD,h1,Array.getElem_append,h2,hq,size_zeroCells]
    obtain ⟨L4,I4,E4⟩:=landNew' I3 hd (ys:=cs.take (len * sz) ++ new) (by rw [hvs];exact hys) (Nat.le_refl _) (fun q hq=>by
      by_cases h:q < len * sz
      · rw [List.getElem_append_left (by omega),hget1 q h]
        obtain ⟨h1,h2,h3⟩:=hkids q (by omega)
        exact ⟨G.rep h1,h2,h3⟩
      · rw [List.getElem_append_right (by omega)]
        have hq':q - len * sz < new.length:=by omega
        simp only [htr]
        have hff:=hf' _ (List.getElem_mem hq')
        have h1:=(hnc (q - len * sz) hq').1 hff
        have h2:=hget2 (q - len * sz) (by omega)
        rw [show len * sz + (q - len * sz)=q by omega] at h2
        rw [h2]
        rw [getD_getElem (by omega)] at h1
        exact ⟨(G.rep (F2 _ _ hff (F1 _ _ hff h1))).any hff _,free_refs hff,free_cok hff⟩) et (v:=.own sz (len + k) (cs.take (len * sz) ++ new)) (u:=.slice (some ⟨w.heap.size,0,Option.none⟩) (len + k) ncap) fun L' hlab' hcell'=>by
        have hpos:0 < (len + k) * sz:=Nat.mul_pos (by omega) hz0
        refine .own _ _ _ _ _ _ _ hkl hge (by omega) (fun j hj=>hlab' j (by rw [hvs];exact hj)) (fun q hq=>?_) hcell'
        by_cases h:q < len * sz
        · rw [List.getElem_append_left (by omega)];exact (hkids q (by omega)).2.2
        · rw [List.getElem_append_right (by omega)]
          exact free_cok (hf' _ (List.getElem_mem _))
    exact ⟨L4,I4,E1.trans (E2.trans (G.ext.trans E4))⟩
end
end Go.Ab
namespace Go.Ab
open Go
set_option linter.unusedVariables false
set_option linter.unusedSimpArgs false
def PureOk (P:Program) (o:Oper) (a:Act) (w:World) (L:LM) (d:Nat) (v:PV) (Q:Exit→Act→World→Prop):Prop :=
  o.wp P a w (fun a' w'=>∃ u L',a' = a.put (some d) u∧Grows w (fun b j=>dropL d [] (L b j)) w' L' ∧ RepV w' L' (some (d,[])) v u ∧
    ∀ b j,L' b j=dropL d [] (L b j) ∨ (∃ p i,L' b j = .own d p i) ∨ L' b j = .sh) Q
mutual
theorem purge1_id (f:Nat→List Nat→Bool):∀ (v:PV),refs v=[]→purge1 f v=v
  | .ref ..,h=>by simp [refs] at h
  | .view ..,h=>by simp [refs] at h
  | .agg cs,h=>by simp only [refs] at h;simp [purge1,purgeL_id f cs h]
  | .tup cs,h=>by simp only [refs] at h;simp [purge1,purgeL_id f cs h]
  | .fn g cs,h=>by simp only [refs] at h;simp [purge1,purgeL_id f cs h]
  | .none,_=>rfl
  | .bool _,_=>rfl
  | .int _ _,_=>rfl
  | .str _,_=>rfl
  | .nilp,_=>rfl
  | .nils,_=>rfl
  | .nilf,_=>rfl
  | .box _,_=>rfl
  | .own _ _ _,_=>rfl
  | .sl _ _,_=>rfl
  | .sp _,_=>rfl
theorem purgeL_id (f:Nat→List Nat→Bool):∀ (cs:List PV),refsL cs=[]→purgeL f cs=cs
  | [],_=>rfl
  | c :: cs,h=>by
    simp only [refsL,List.append_eq_nil_iff] at h
    simp [purgeL,purge1_id f c h.1,purgeL_id f cs h.2]
end
section
variable {P:Program} {n:Nat} {w:World} {L:LM} {a:Act} {g:Nat→PV} {o:Oper} {Q:Exit→Act→World→Prop}
theorem ValAt.pure (W:WF w L) {d:Nat} (ho:o.dst=some d) {v:PV} (h:ValAt P o a w L v):PureOk P o a w L d (purge1 (und d []) v) Q:=by
  obtain ⟨u,hr,hrep,hn⟩:=h
  unfold PureOk Oper.wp
  rw [hr]
  simp only [Oper.upon,ho]
  exact ⟨u,_,rfl,Grows.refl (W.drop d []),(hrep Option.none).loose_drop hn d [] (some (d,[])),fun _ _=>.inl rfl⟩
theorem NewAt.pure {d:Nat} (ho:o.dst=some d) {v:PV} (h:NewAt P o a w L d v) (hv:refs v=[]):PureOk P o a w L d (purge1 (und d []) v) Q:=by
  obtain ⟨u,w',L',hr,G,hrep,hlab⟩:=h
  unfold PureOk Oper.wp
  rw [hr,purge1_id _ _ hv]
  simp only [Oper.upon,ho]
  exact ⟨u,L',rfl,G,hrep,hlab⟩
theorem ok_app_nil (I:Inv n w L a g) {S:Subs} (hS:SubsOk S g) {s x:Operand} {s' x':XO} {t et:TypeId} {z:List PV} {sz by_:Nat} (hop:o.op = .call { callee:=.builtin .append,args:=#[s,x],argTypes:=#[t,t] })
    (hs:trO s=some s') (hx:trO x=some x') (ht:P.underlying t=some (.slice et)) (hz:zeroP P et=some z) (hsz:szP P et=some sz) (hz0:0 < sz) (hzl:z.length=sz) (hby:(P.info? et).map (·.bytes)=some by_)
    (es:lookG g s' = .nils) {k:Nat} {new:List PV} (ex:slCells S (lookG g x')=some (k,new)) (hk:k * sz=new.length) (hb:k * by_ ≤ lim) (hl:k ≤ lim) (hf:new.all PV.free=true) (d:Nat) :
    NewAt P o a w L d (mkOwn sz k new):=by
  obtain ⟨i,v,hi,hzv,HZ,hzf⟩:=zero_pw (w:=w) (L:=L) hz
  have hisz:i.size=sz:=by simp [szP,hi] at hsz;exact hsz
  have hiby:i.bytes=by_:=by simp [hi] at hby;exact hby
  have hf':∀ c ∈ new,c.free=true:=fun c hc=>by simpa using (List.all_eq_true.1 hf) c hc
  obtain ⟨xb,xc,news,hxv,hnl,hnr,hnc⟩:=slCells_run (P:=P) I hS (I.look hx Option.none) (sz:=sz) ex hk.symm
  have V:=I.look hs Option.none
  rw [es] at V
  generalize hsv:a.eval s=sv at V
  cases V with
  | nils _ base =>
    have hol:∀ w':World,w'.heap=w.heap→(Builtin.firstCells i.size 0 (.slice base 0 0)).run P w' = .ok ([]:List Value).toArray w':=fun w' hw=>by
      cases base with
      | none=>simp [Builtin.firstCells]
      | some b=>exact run_firstCells_some w' i.size 0 b 0 0 [] (by simp) (by simp)
    have hrun:=run_app (ty:=o.type) (z:=v) w ht hi hzv (base:=base) (len:=0) (cap:=0) (m:=k) (xb:=xb) (xc:=xc) hol (by rw [hisz,← hxv];exact hnr) (by rw [hiby];simpa using hb) (by simpa using hl)
    have hop':(execOp a.eval o).run P w=((Builtin.append_ #[t,t] o.type #[.slice base 0 0,.slice xb k xc]).run P w).andThen fun v w'=>.ok (.value v) w':=by
      simp [execOp,hop,resolve,invoke,builtin,hsv,hxv]
    rw [hrun] at hop'
    simp only [Nat.zero_add,Nat.le_zero_eq] at hop'
    by_cases hk0:k=0
    · subst hk0
      have hn0:news=[]:=by
        have:news.length=0:=by rw [hnl,← hk];simp
        exact List.length_eq_zero_iff.1 this
      subst hn0
      refine ⟨.slice base 0 0,w,fun b j=>dropL d [] (L b j),?_,Grows.refl (I.wf.drop d []),by simp [mkOwn];exact .nils _ _,fun _ _=>.inl rfl⟩
      rw [hop',if_pos rfl]
      cases base <;> simp [storeCells]
    · rw [if_neg hk0] at hop'
      have hge:=grownCap_ge w k 0 et
      have hzsz:v.cells.size=sz:=by rw [HZ.sz,hzl]
      have hnlen:news.length=k * sz:=by omega
      generalize hcapn:grownCap w k 0 et=ncap at hge hop'
      have W1:=(Grows.drew I.wf).wf.drop d []
      have hvs:(([]:List Value).toArray ++ news.toArray ++ Builtin.zeroCells v.cells (ncap - k)).size=ncap * sz:=by
        simp only [Array.size_append,List.size_toArray,List.length_nil,size_zeroCells,hzsz,hnlen,Nat.zero_add,← Nat.add_mul]
        congr 1;omega
      have hcapge:k * sz ≤ ncap * sz:=Nat.mul_le_mul_right _ hge
      have hpos:0 < k * sz:=Nat.mul_pos (by omega) hz0
      refine ⟨_,_,_,hop',(Grows.drew (I.wf.drop d [])).trans (grows_new W1 (noTop_drop L d) _ et),?_,newL_labels W1 _ d⟩
      have:mkOwn sz k new = .own sz k new:=by simp [mkOwn,hk0]
      rw [this]
      refine rep_own W1 (noTop_drop L d) hk.symm hge (by omega) hvs (fun q hq=>?_) hf' et
      have hff:=hf' _ (List.getElem_mem hq)
      have h1:=(hnc q hq).1 hff
      have h2:(([]:List Value).toArray ++ news.toArray ++ Builtin.zeroCells v.cells (ncap - k)).getD q undef=news.getD q undef:=by
        have e1:q < news.length + (ncap - k) * v.cells.size:=by omega
        have e2:q < news.length:=by omega
        simp [Array.getD,e1,Array.getElem_append,e2,size_zeroCells]
      rw [h2]
      exact (Grows.drew (I.wf.drop d [])).rep (h1.drop_free hff d [] _)
end
end Go.Ab
namespace Go.Ab
open Go
set_option linter.unusedVariables false
set_option linter.unusedSimpArgs false
theorem trOs_len:∀ {l:List Operand} {l':List XO},trOs l=some l' → l'.length=l.length ∧ ∀ i (hi:i < l.length) (hi':i < l'.length),trO l[i]=some l'[i]
  | [],l',h=>by simp [trOs] at h;subst h;exact ⟨rfl,fun i hi=>by simp at hi⟩
  | x :: l,l',h=>by
    simp only [trOs] at h
    split at h
    · rename_i y ys hy hys
      obtain rfl:=Option.some.inj h
      obtain ⟨h1,h2⟩:=trOs_len hys
      refine ⟨by simp [h1],fun i hi hi'=>?_⟩
      cases i with
      | zero=>exact hy
      | succ i=>exact h2 i (by simpa using hi) (by simpa using hi')
    · cases h
def trParts (place:Nat→Option (Nat × Nat)):List (Nat × Operand)→Option (List (Nat × Nat × XO))
  | []=>some []
  | (i,x) :: r=>(place i).bind fun q=>(trO x).bind fun y=>(trParts place r).map fun l=>(q.1,q.2,y) :: l
theorem trParts_ok {place:Nat→Option (Nat × Nat)}:∀ {l:List (Nat × Operand)} {l':List (Nat × Nat × XO)},trParts place l=some l' → PartsOk place l l'
  | [],l',h=>by simp [trParts] at h;subst h;exact .nil
  | (i,x) :: r,l',h=>by
    simp only [trParts,Option.bind_eq_some_iff,Option.map_eq_some_iff] at h
    obtain ⟨⟨off,sz⟩,h1,y,h2,l,h3,rfl⟩:=h
    exact .cons h1 h2 (trParts_ok h3)
def trBin (P:Program) (op:BinOp) (xt:TypeId) (x y:XO):Option XOp :=
  match op with
  | .eql=>match P.underlying xt with
    | some .bool=>some (.beq false x y)
    | some (.pointer _)=>some (.peq false x y)
    | some (.struct _)=>(aeqP P xt).map fun z=>.aeq false z x y
    | some (.array _ _)=>(aeqP P xt).map fun z=>.aeq false z x y
    | _=>some (.bin .eql x y)
  | .neq=>match P.underlying xt with
    | some .bool=>some (.beq true x y)
    | some (.pointer _)=>some (.peq true x y)
    | some (.struct _)=>(aeqP P xt).map fun z=>.aeq true z x y
    | some (.array _ _)=>(aeqP P xt).map fun z=>.aeq true z x y
    | _=>some (.bin .neq x y)
  | op=>some (.bin op x y)
def mutNames : List String := ["slices.Reverse[[]int,int]", "slices.Sort[[]int,int]"]
def mutsOf (P:Program) (f:Nat):List Nat:=match P.funcs[f]? with
  | some fn=>if mutNames.contains fn.name then [0] else []
  | Option.none=>[]
def trCall (P:Program) (c:Call):Option XOp :=
  match c.callee,c.args.toList,c.argTypes.toList with
  | .builtin .len,[x],[t]=>match P.underlying t with
    | some .string=>(trO x).map (.len true)
    | some (.slice _)=>(trO x).map (.len false)
    | some (.array m _)=>some (.lenk m)
    | _=>Option.none
  | .builtin .append,[s,x],[t,t']=>if t=t' then (sliceP P t).bind fun et=>(zeroP P et).bind fun z=>(szP P et).bind fun sz=>(P.info? et).bind fun i =>
      if 0 < sz∧z.length=sz then (trO s).bind fun s'=>(trO x).map fun x'=>.app sz i.bytes s' x' else Option.none
    else Option.none
  | .builtin .max,[x,y],_=>(trO x).bind fun x'=>(trO y).map fun y'=>.mx x' y'
  | .builtin .min,[x,y],_=>(trO x).bind fun x'=>(trO y).map fun y'=>.mn x' y'
  | .value (.func f),args,_=>(trOs args).map fun as=>.call f as (mutsOf P f)
  | .value (.tmp t),args,_=>(trOs args).map fun as=>.callv (.t t) as
  | _,_,_=>Option.none
def bytesP (P:Program) (s d:TypeId):Bool:=match P.underlying s,P.underlying d with
  | some (.slice e),some .string=>(match P.underlying e with | some (.int .u8)=>true | _=>false)
  | _,_=>false
theorem bytesP_some {P:Program} {s d:TypeId} (h:bytesP P s d=true):∃ e,P.underlying s=some (.slice e)∧P.underlying d=some .string∧P.underlying e=some (.int .u8):=by
  unfold bytesP at h
  split at h
  · rename_i e h1 h2
    split at h
    · rename_i h3;exact ⟨e,h1,h2,h3⟩
    · cases h
  · cases h
def trOp (P:Program):Op→Option XOp
  | .move x=>(trO x).map .mv
  | .assign x=>(trO x).map .asg
  | .pick c a b=>(trO c).bind fun c'=>(trO a).bind fun a'=>(trO b).map fun b'=>.pick c' a' b'
  | .alloc t=>(zeroP P t).map .alloc
  | .box t x=>(trO x).map .box
  | .build t parts=>match P.underlying t with
    | some (.struct fs)=>(placesP P fs).bind fun pl=>(zeroP P t).bind fun z=>(trParts (fun i=>pl[i]?) parts.toList).map fun ps=>.build z ps
    | some (.array m et)=>(szP P et).bind fun sz=>(zeroP P t).bind fun z=>(trParts (fun i=>some (i * sz,sz)) parts.toList).map fun ps=>.build z ps
    | _=>Option.none
  | .buildSlice t len parts=>(sliceP P t).bind fun et=>(zeroP P et).bind fun z=>(szP P et).bind fun sz =>
    if 0 < sz∧z.length=sz∧len * sz ≤ 2 ^ 24 then (trParts (fun i=>some (i * sz,sz)) parts.toList).map fun ps=>.bsl sz len z ps else Option.none
  | .load t x=>(aggP P t).bind fun agg=>(szP P t).bind fun sz=>if agg=false→sz=1 then (trO x).map fun x'=>.load agg sz x' else Option.none
  | .store t x v=>(szP P t).bind fun sz=>(trO x).bind fun x'=>(trO v).map fun v'=>.store sz x' v'
  | .binOp op xt x y _=>(trO x).bind fun x'=>(trO y).bind fun y'=>trBin P op xt x' y'
  | .unOp op _ x=>(trO x).map fun x'=>.un op x'
  | .convert s d x=>if bytesP P s d=true then (trO x).map .b2s else (intP P s).bind fun _=>(intP P d).bind fun k=>(trO x).map fun x'=>.conv k x'
  | .makeFunc fn first captured=>match fn,first.toList with
    | .func f,[]=>(trOs captured.toList).map (.mkfn f)
    | _,_=>Option.none
  | .makeSlice t l c=>(sliceP P t).bind fun et=>(zeroP P et).bind fun z=>(szP P et).bind fun sz=>(P.info? et).bind fun i =>
    if 0 < sz∧z.length=sz then (trO l).bind fun l'=>(trO c).map fun c'=>.mksl sz i.bytes z l' c' else Option.none
  | .slice t x lo hi Option.none=>match P.underlying t with
    | some .string=>(trO x).bind fun x'=>(trOpt lo).bind fun lo'=>(trOpt hi).map fun hi'=>.slc 0 x' lo' hi'
    | some (.slice et)=>(szP P et).bind fun sz=>if 0 < sz then (trO x).bind fun x'=>(trOpt lo).bind fun lo'=>(trOpt hi).map fun hi'=>.slc sz x' lo' hi' else Option.none
    | _=>Option.none
  | .fieldAddr s x f=>(fieldP P s f).bind fun q=>(szP P q.1).bind fun sz=>if sz ≠ 0 then (trO x).map fun x'=>.fadr q.2 x' else Option.none
  | .field s x f=>(fieldP P s f).bind fun q=>(aggP P q.1).bind fun agg=>(szP P q.1).bind fun sz=>(trO x).map fun x'=>.fld agg q.2 sz x'
  | .indexAddr t x i=>match P.underlying t with
    | some (.slice et)=>(szP P et).bind fun sz=>if 0 < sz then (trO x).bind fun x'=>(trO i).map fun i'=>.iadr sz Option.none x' i' else Option.none
    | some (.array m et)=>(szP P et).bind fun sz=>if 0 < sz then (trO x).bind fun x'=>(trO i).map fun i'=>.iadr sz (some m) x' i' else Option.none
    | _=>Option.none
  | .index t x i=>match P.underlying t with
    | some .string=>(trO x).bind fun x'=>(trO i).map fun i'=>.idxs x' i'
    | some (.array m et)=>(aggP P et).bind fun agg=>(szP P et).bind fun sz=>(trO x).bind fun x'=>(trO i).map fun i'=>.idx agg sz m x' i'
    | _=>Option.none
  | .extract x i=>(trO x).map fun x'=>.ext x' i
  | .nilCheck x=>(trO x).map .nilck
  | .call c=>trCall P c
  | _=>Option.none
theorem slice_sliceP {P:Program} {t et:TypeId} (h:P.underlying t=some (.slice et)):sliceP P t=some et:=by simp [sliceP,h]
theorem array_arrP {P:Program} {t et m:Nat} (h:P.underlying t=some (.array m et)):arrP P t=some (m,et):=by simp [arrP,h]
theorem pointer_ptrP {P:Program} {t et:TypeId} (h:P.underlying t=some (.pointer et)):ptrP P t=some et:=by simp [ptrP,h]
def isCall:XOp→Bool
  | .call .. | .callv ..=>true
  | _=>false
theorem mkOwn_refs (sz len:Nat) (cs:List PV):refs (mkOwn sz len cs)=[]:=by unfold mkOwn;split <;> rfl
section
variable {P:Program} {n:Nat} {w:World} {L:LM} {a:Act} {g:Nat→PV} {o:Oper} {Q:Exit→Act→World→Prop}
theorem bytesOf_cells {vs:List Value}:∀ {cs:List PV} {bs:List UInt8},bytesOf cs=some bs→(hl:vs.length=cs.length)→(∀ i (hi:i < cs.length),(cs[i].free=true→RepV w L Option.none cs[i] (vs.getD i undef))∧cs[i].cok=true) →
    ∃ ns:List Int,vs=ns.map (Value.int .u8) ∧ ∀ s:ByteArray,(ns.foldl (fun r n=>r.push (UInt8.ofNat n.toNat)) s).data.toList=s.data.toList ++ bs:=by
  induction vs with
  | nil =>
    intro cs bs h hl H
    cases cs with
    | nil=>simp [bytesOf] at h;subst h;exact ⟨[],rfl,fun s=>by simp⟩
    | cons c cs=>simp at hl
  | cons v vs ih =>
    intro cs bs h hl H
    cases cs with
    | nil=>simp at hl
    | cons c cs =>
      unfold bytesOf at h
      split at h
      · rename_i h1;cases h1
      · rename_i n r h1
        simp only [List.cons.injEq] at h1
        obtain ⟨rfl,rfl⟩:=h1
        simp only [Option.map_eq_some_iff] at h
        obtain ⟨bs',hb,rfl⟩:=h
        obtain ⟨ns,rfl,hns⟩:=ih hb (by simpa using hl) (fun i hi=>by
          have:=H (i + 1) (by simpa using hi)
          simpa using this)
        have h0:=(H 0 (by simp)).1 rfl
        simp only [List.getElem_cons_zero,List.getD_cons_zero] at h0
        cases h0
        exact ⟨n :: ns,rfl,fun s=>by rw [List.foldl_cons,hns];simp⟩
      · cases h
theorem ok_b2s (I:Inv n w L a g) {S:Subs} (hS:SubsOk S g) {s d:TypeId} {x:Operand} {x':XO} (ho:o.op = .convert s d x) (hx:trO x=some x') (ht:bytesP P s d=true) {v:PV} (h:evP (fun _ _=>Option.none) (lookG g) S (.b2s x')=some v):ValAt P o a w L v:=by
  simp only [evP] at h
  split at h
  · rename_i k cs hsl
    split at h
    · rename_i hk
      simp only [Option.map_eq_some_iff] at h
      obtain ⟨bs,hb,rfl⟩:=h
      obtain ⟨et,h1,h2,h3⟩:=bytesP_some ht
      obtain ⟨xb,xc,vs,hu,hl,hrun,hc⟩:=slCells_run (P:=P) (sz:=1) I hS (I.look hx Option.none) hsl (by omega)
      obtain ⟨ns,rfl,hns⟩:=bytesOf_cells hb hl hc
      refine ⟨.string (ns.foldl (fun r n=>r.push (UInt8.ofNat n.toNat)) ByteArray.empty),?_,fun hd=>.str _ _ _ (by rw [hns];simp),rfl⟩
      simp only [execOp,ho,hu,Sem.run_bind,run_convert_bytes_string w s d et xb k xc h1 h3 h2]
      cases xb with
      | none =>
        have:=hrun w rfl
        rw [hu] at this
        simp only [Builtin.firstCells,Sem.run_pure,Result.ok.injEq,and_true] at this
        have h0:ns=[]:=by
          have:=congrArg Array.toList this
          simpa using this.symm
        subst h0
        simp [Conv.bytesToString]
      | some ad =>
        have:=hrun w rfl
        rw [hu] at this
        simp only [Builtin.firstCells,Nat.mul_one] at this
        rw [run_bytesToString w ad k xc ns this]
        simp
    · cases h
  · cases h
theorem ok_mkfn (I:Inv n w L a g) {f:Nat} {fi:Array Operand} {cs:Array Operand} {cs':List XO} (ho:o.op = .makeFunc (.func f) fi cs) (hfi:fi.toList=[]) (hc:trOs cs.toList=some cs') (hv:(cs'.map (lookG g)).all PV.isCap=true) :
    ValAt P o a w L (.fn f (cs'.map (lookG g))):=by
  have hfi':fi = #[]:=by rw [← Array.toList_inj];simpa using hfi
  subst hfi'
  obtain ⟨hl1,hl2⟩:=trOs_len hc
  refine ⟨.func (.func f) #[] (cs.map a.eval),by simp [execOp,ho,Instr.makeFunc],fun hd=>.fn _ _ _ _ (by simp [hl1]) fun i hi=>?_,?_⟩
  · have hi':i < cs.size:=by simpa [hl1] using hi
    have:=I.look (hl2 i (by simpa using hi') (by simpa using hi)) (hd.snoc i)
    simpa [Array.getD,hi'] using this
  · simp only [noOwn]
    generalize cs'.map (lookG g)=vs at hv
    induction vs with
    | nil=>rfl
    | cons c r ih =>
      simp only [List.all_cons,Bool.and_eq_true] at hv
      simp only [noOwnL,Bool.and_eq_true]
      refine ⟨?_,ih hv.2⟩
      have:=hv.1
      cases c <;> first | rfl | (simp [PV.isCap] at this;done)
theorem evP_val (C : Calls') (I:Inv n w L a g) {S:Subs} (hS:SubsOk S g) {x:XOp} (ht:trOp P o.op=some x) (hc:isCall x=false) {v:PV} (h:evP C (lookG g) S x=some v) :
    ValAt P o a w L v ∨ (refs v=[] ∧ ∀ d,NewAt P o a w L d v):=by
  cases hop:o.op <;> rw [hop] at ht <;> simp only [trOp] at ht
  case move y =>
    simp only [Option.map_eq_some_iff] at ht
    obtain ⟨y',hy,rfl⟩:=ht
    have hm:=ok_mv (P:=P) I (.inl hop) hy
    left
    simp only [evP] at h
    split at h
    · cases h
    · obtain rfl:=Option.some.inj h;exact hm
  case assign y =>
    simp only [Option.map_eq_some_iff] at ht
    obtain ⟨y',hy,rfl⟩:=ht
    simp [evP] at h
  case pick c y z =>
    simp only [Option.bind_eq_some_iff,Option.map_eq_some_iff] at ht
    obtain ⟨c',hc',y',hy,z',hz,rfl⟩:=ht
    left
    simp only [evP] at h
    split at h
    · rename_i e;obtain rfl:=Option.some.inj h;simpa using ok_pick I hop hc' hy hz e
    · rename_i e;obtain rfl:=Option.some.inj h;simpa using ok_pick I hop hc' hy hz e
    · cases h
  case alloc t =>
    simp only [Option.map_eq_some_iff] at ht
    obtain ⟨z,hz,rfl⟩:=ht
    simp only [evP,Option.some.injEq] at h
    subst h
    exact .inr ⟨rfl,fun d=>ok_alloc I hop hz d⟩
  case box t y =>
    simp only [Option.map_eq_some_iff] at ht
    obtain ⟨y',hy,rfl⟩:=ht
    simp only [evP] at h
    split at h
    · rename_i hf;obtain rfl:=Option.some.inj h;exact .inr ⟨rfl,fun d=>ok_box I hop hy hf d⟩
    · cases h
  case build t parts =>
    left
    split at ht
    · rename_i fs hu
      simp only [Option.bind_eq_some_iff,Option.map_eq_some_iff] at ht
      obtain ⟨pl,hpl,z,hz,ps,hps,rfl⟩:=ht
      simp only [evP,Option.map_eq_some_iff] at h
      obtain ⟨cs,hcs,rfl⟩:=h
      exact ok_build_struct I hop hz hu hpl (trParts_ok hps) hcs
    · rename_i m et hu
      simp only [Option.bind_eq_some_iff,Option.map_eq_some_iff] at ht
      obtain ⟨sz,hsz,z,hz,ps,hps,rfl⟩:=ht
      simp only [evP,Option.map_eq_some_iff] at h
      obtain ⟨cs,hcs,rfl⟩:=h
      exact ok_build_arr I hop hz (array_arrP hu) hsz (trParts_ok hps) hcs
    · cases ht
  case buildSlice t len parts =>
    simp only [Option.bind_eq_some_iff] at ht
    obtain ⟨et,het,z,hz,sz,hsz,ht⟩:=ht
    split at ht
    · rename_i hcond
      simp only [Option.map_eq_some_iff] at ht
      obtain ⟨ps,hps,rfl⟩:=ht
      simp only [evP,Option.map_eq_some_iff] at h
      obtain ⟨cs,hcs,rfl⟩:=h
      exact .inr ⟨mkOwn_refs _ _ _,fun d=>ok_bsl I hop het hz hsz hcond.1 hcond.2.1 hcond.2.2 (trParts_ok hps) hcs d⟩
    · cases ht
  case load t y =>
    left
    simp only [Option.bind_eq_some_iff] at ht
    obtain ⟨agg,ha,sz,hsz,ht⟩:=ht
    split at ht
    · rename_i h1
      simp only [Option.map_eq_some_iff] at ht
      obtain ⟨y',hy,rfl⟩:=ht
      simp only [evP] at h
      split at h
      · rename_i r p i m e
        split at h
        · rename_i cs hcs
          split at h
          · rename_i hle
            have hcs':objCells (Ab.sub (g r) p)=some cs:=by
              rcases hS r p with h' | h'
              · rw [h'] at hcs;simp [objCells] at hcs
              · rw [← h'];exact hcs
            have:=ok_load_ref I hop hy ha hsz h1 e hcs' hle.1 hle.2
            cases agg with
            | true=>simp only [if_true,Option.some.injEq] at h this;subst h;exact this
            | false =>
              simp only [Bool.false_eq_true,if_false,Option.map_eq_some_iff] at h this
              obtain ⟨c,hc1,rfl⟩:=h
              obtain ⟨hlt,rfl⟩:=List.getElem?_eq_some_iff.1 hc1
              simpa [hlt] using this
          · cases h
        · cases h
      · rename_i cs e
        exact ok_load_sp I hop hy ha hsz h1 e h
      · cases h
    · cases ht
  case store t y z =>
    simp only [Option.bind_eq_some_iff,Option.map_eq_some_iff] at ht
    obtain ⟨sz,hsz,y',hy,z',hz,rfl⟩:=ht
    simp [evP] at h
  case binOp op xt y z yt =>
    left
    simp only [Option.bind_eq_some_iff] at ht
    obtain ⟨y',hy,z',hz,ht⟩:=ht
    have hbin:∀ op',o.op = .binOp op' xt y z yt → ∀ v,evP C (lookG g) S (.bin op' y' z')=some v→ValAt P o a w L v:=fun op' ho v hv=>ok_bin I ho hy hz (by simpa [evP] using hv)
    cases op
    case eql =>
      simp only [trBin] at ht
      split at ht
      · rename_i hu
        obtain rfl:=Option.some.inj ht
        simp only [evP,Option.map_eq_some_iff] at h
        obtain ⟨b,hb,rfl⟩:=h
        exact ok_beq I (neg:=false) (by simpa using hop) hy hz hu hb
      · rename_i hu
        obtain rfl:=Option.some.inj ht
        simp only [evP,Option.map_eq_some_iff] at h
        obtain ⟨b,hb,rfl⟩:=h
        exact ok_peq I (neg:=false) (by simpa using hop) hy hz (pointer_ptrP hu) hb
      · simp only [Option.map_eq_some_iff] at ht
        obtain ⟨q,hq,rfl⟩:=ht
        simp only [evP,Option.map_eq_some_iff] at h
        obtain ⟨b,hb,rfl⟩:=h
        exact ok_aeq I (neg:=false) (by simpa using hop) hy hz hq hb
      · simp only [Option.map_eq_some_iff] at ht
        obtain ⟨q,hq,rfl⟩:=ht
        simp only [evP,Option.map_eq_some_iff] at h
        obtain ⟨b,hb,rfl⟩:=h
        exact ok_aeq I (neg:=false) (by simpa using hop) hy hz hq hb
      · obtain rfl:=Option.some.inj ht
        exact hbin _ hop _ h
    case neq =>
      simp only [trBin] at ht
      split at ht
      · rename_i hu
        obtain rfl:=Option.some.inj ht
        simp only [evP,Option.map_eq_some_iff] at h
        obtain ⟨b,hb,rfl⟩:=h
        exact ok_beq I (neg:=true) (by simpa using hop) hy hz hu hb
      · rename_i hu
        obtain rfl:=Option.some.inj ht
        simp only [evP,Option.map_eq_some_iff] at h
        obtain ⟨b,hb,rfl⟩:=h
        exact ok_peq I (neg:=true) (by simpa using hop) hy hz (pointer_ptrP hu) hb
      · simp only [Option.map_eq_some_iff] at ht
        obtain ⟨q,hq,rfl⟩:=ht
        simp only [evP,Option.map_eq_some_iff] at h
        obtain ⟨b,hb,rfl⟩:=h
        exact ok_aeq I (neg:=true) (by simpa using hop) hy hz hq hb
      · simp only [Option.map_eq_some_iff] at ht
        obtain ⟨q,hq,rfl⟩:=ht
        simp only [evP,Option.map_eq_some_iff] at h
        obtain ⟨b,hb,rfl⟩:=h
        exact ok_aeq I (neg:=true) (by simpa using hop) hy hz hq hb
      · obtain rfl:=Option.some.inj ht
        exact hbin _ hop _ h
    all_goals
      simp only [trBin,Option.some.injEq] at ht
      subst ht
      exact hbin _ hop _ h
  case unOp op t y =>
    simp only [Option.map_eq_some_iff] at ht
    obtain ⟨y',hy,rfl⟩:=ht
    exact .inl (ok_un I hop hy (by simpa [evP] using h))
  case convert s d y =>
    split at ht
    · rename_i hb
      simp only [Option.map_eq_some_iff] at ht
      obtain ⟨y',hy,rfl⟩:=ht
      exact .inl (ok_b2s I hS hop hy hb h)
    · simp only [Option.bind_eq_some_iff,Option.map_eq_some_iff] at ht
      obtain ⟨k0,hk0,k,hk,y',hy,rfl⟩:=ht
      simp only [evP] at h
      split at h
      · rename_i e
        obtain rfl:=Option.some.inj h
        exact .inl (ok_conv I hop hy hk0 hk e)
      · cases h
  case makeFunc fn fi cs =>
    left
    split at ht
    · rename_i f hfi
      simp only [Option.map_eq_some_iff] at ht
      obtain ⟨cs',hcs,rfl⟩:=ht
      simp only [evP] at h
      split at h
      · rename_i hv
        obtain rfl:=Option.some.inj h
        exact ok_mkfn I hop hfi hcs hv
      · cases h
    · cases ht
  case makeSlice t l c =>
    simp only [Option.bind_eq_some_iff] at ht
    obtain ⟨et,het,z,hz,sz,hsz,i,hi,ht⟩:=ht
    split at ht
    · rename_i hcond
      simp only [Option.bind_eq_some_iff,Option.map_eq_some_iff] at ht
      obtain ⟨l',hl,c',hc',rfl⟩:=ht
      simp only [evP] at h
      split at h
      · rename_i k m k' m' e e'
        split at h
        · rename_i hh
          obtain ⟨rfl,h0,hb,hlim⟩:=hh
          obtain rfl:=Option.some.inj h
          exact .inr ⟨mkOwn_refs _ _ _,fun d=>ok_mksl I hop het hz hsz hcond.1 hcond.2 (by simp [hi]) hl hc' e e' h0 hb hlim d⟩
        · cases h
      · cases h
    · cases ht
  case slice t y lo hi mx =>
    cases mx with
    | some _=>simp [trOp] at ht
    | none =>
      left
      simp only [trOp] at ht
      split at ht
      · rename_i hu
        simp only [Option.bind_eq_some_iff,Option.map_eq_some_iff] at ht
        obtain ⟨y',hy,lo',hlo,hi',hhi,rfl⟩:=ht
        simp only [evP,if_true] at h
        split at h
        · rename_i s e
          split at h
          · rename_i hh e1
            split at h
            · rename_i ll e2
              obtain rfl:=Option.some.inj h
              exact ok_slc_str I hop hy hlo hhi hu e e1 e2
            · cases h
          · cases h
        · cases h
        · cases h
        · cases h
      · rename_i et hu
        simp only [Option.bind_eq_some_iff] at ht
        obtain ⟨sz,hsz,ht⟩:=ht
        split at ht
        · rename_i hz0
          simp only [Option.bind_eq_some_iff,Option.map_eq_some_iff] at ht
          obtain ⟨y',hy,lo',hlo,hi',hhi,rfl⟩:=ht
          have hz1:sz ≠ 0:=by omega
          simp only [evP,hz1,if_false] at h
          split at h
          · cases h
          · rename_i m cs e
            split at h
            · rename_i hh e1
              split at h
              · rename_i ll e2
                obtain rfl:=Option.some.inj h
                exact ok_slc_sl I hop hy hlo hhi (slice_sliceP hu) hsz e e1 e2
              · cases h
            · cases h
          · rename_i r p off m z e
            split at h
            · rename_i hh e1
              split at h
              · rename_i ll e2
                split at h
                · rename_i hzz
                  subst hzz
                  have:=ok_slc_view I hop hy hlo hhi (slice_sliceP hu) hsz hz0 e e1 e2
                  by_cases c1:ll=0
                  · simp only [c1,if_true,Option.some.injEq] at h this;subst h;exact this
                  · simp only [c1,if_false] at h this
                    by_cases c2:ll < hh
                    · simp only [c2,if_true,Option.some.injEq] at h this;subst h;exact this
                    · simp only [c2,if_false,Option.some.injEq] at h this;subst h;exact this
                · cases h
              · cases h
            · cases h
          · cases h
        · cases ht
      · cases ht
  case fieldAddr s y f =>
    left
    simp only [Option.bind_eq_some_iff] at ht
    obtain ⟨⟨ft,off⟩,hf,sz,hsz,ht⟩:=ht
    split at ht
    · rename_i h0
      simp only [Option.map_eq_some_iff] at ht
      obtain ⟨y',hy,rfl⟩:=ht
      refine ok_fadr I hop hy hf hsz h0 (v:=v) ?_
      revert h
      simp only [evP]
      cases lookG g y' <;> exact id
    · cases ht
  case field s y f =>
    left
    simp only [Option.bind_eq_some_iff,Option.map_eq_some_iff] at ht
    obtain ⟨⟨ft,off⟩,hf,agg,ha,sz,hsz,y',hy,rfl⟩:=ht
    simp only [evP] at h
    split at h
    · rename_i cs e
      exact ok_fld I hop hy hf ha hsz e h
    · cases h
  case indexAddr t y i =>
    left
    split at ht
    · rename_i et hu
      simp only [Option.bind_eq_some_iff] at ht
      obtain ⟨sz,hsz,ht⟩:=ht
      split at ht
      · rename_i h0
        simp only [Option.bind_eq_some_iff,Option.map_eq_some_iff] at ht
        obtain ⟨y',hy,i',hi,rfl⟩:=ht
        simp only [evP] at h
        split at h
        · rename_i k j e'
          refine ok_iadr_slice I hop hy hi (slice_sliceP hu) hsz h0 e' (v:=v) ?_
          revert h
          cases lookG g y' <;> exact id
        · cases h
      · cases ht
    · rename_i m et hu
      simp only [Option.bind_eq_some_iff] at ht
      obtain ⟨sz,hsz,ht⟩:=ht
      split at ht
      · rename_i h0
        simp only [Option.bind_eq_some_iff,Option.map_eq_some_iff] at ht
        obtain ⟨y',hy,i',hi,rfl⟩:=ht
        simp only [evP] at h
        split at h
        · rename_i k j e'
          refine ok_iadr_arr I hop hy hi (array_arrP hu) hsz h0 e' (v:=v) ?_
          revert h
          cases lookG g y' <;> exact id
        · cases h
      · cases ht
    · cases ht
  case index t y i =>
    left
    split at ht
    · rename_i hu
      simp only [Option.bind_eq_some_iff,Option.map_eq_some_iff] at ht
      obtain ⟨y',hy,i',hi,rfl⟩:=ht
      simp only [evP] at h
      split at h
      · rename_i s k j e e'
        split at h
        · rename_i hj;exact ok_idxs I hop hy hi hu e e' hj h
        · cases h
      · cases h
    · rename_i m et hu
      simp only [Option.bind_eq_some_iff,Option.map_eq_some_iff] at ht
      obtain ⟨agg,ha,sz,hsz,y',hy,i',hi,rfl⟩:=ht
      simp only [evP] at h
      split at h
      · rename_i cs k j e e'
        split at h
        · rename_i hj;exact ok_idx I hop hy hi (array_arrP hu) ha hsz e e' hj h
        · cases h
      · cases h
    · cases ht
  case extract y i =>
    simp only [Option.map_eq_some_iff] at ht
    obtain ⟨y',hy,rfl⟩:=ht
    refine .inl (ok_ext I hop hy (v:=v) ?_)
    revert h
    simp only [evP]
    cases lookG g y' with
    | tup vs =>
      dsimp only
      cases vs[i]? with
      | none=>exact id
      | some c=>cases c <;> exact id
    | _=>exact id
  case nilCheck y =>
    simp only [Option.map_eq_some_iff] at ht
    obtain ⟨y',hy,rfl⟩:=ht
    refine .inl (ok_nilck I hop hy (v:=v) ?_)
    revert h
    simp only [evP]
    cases lookG g y' <;> exact id
  case call c =>
    simp only [trCall] at ht
    split at ht
    · rename_i x t hcal hargs htys
      have ha:c.args = #[x]:=by rw [← Array.toList_inj];simpa using hargs
      have hty:c.argTypes = #[t]:=by rw [← Array.toList_inj];simpa using htys
      left
      split at ht
      · rename_i hu
        simp only [Option.map_eq_some_iff] at ht
        obtain ⟨y',hy,rfl⟩:=ht
        refine ok_len I hop hcal ha hty hy (.inl hu) (v:=v) ?_ ?_ <;> revert h <;> simp only [evP] <;> cases lookG g y' <;> first | exact id | exact fun h=>hu | (intro h;simp at h;done)
      · rename_i et hu
        simp only [Option.map_eq_some_iff] at ht
        obtain ⟨y',hy,rfl⟩:=ht
        refine ok_len I hop hcal ha hty hy (.inr ⟨_,hu⟩) (v:=v) ?_ ?_ <;> revert h <;> simp only [evP] <;> cases lookG g y' <;> first | exact id | exact fun h=>⟨_,hu⟩ | (intro h;simp at h;done)
      · rename_i m et hu
        obtain rfl:=Option.some.inj ht
        simp only [evP,Option.some.injEq] at h
        subst h
        exact ok_lenk I hop hcal ha hty (array_arrP hu)
      · cases ht
    · rename_i s x t t' hcal hargs htys
      split at ht
      · rename_i htt
        subst htt
        have ha:c.args = #[s,x]:=by rw [← Array.toList_inj];simpa using hargs
        have hty:c.argTypes = #[t,t]:=by rw [← Array.toList_inj];simpa using htys
        have hcc:c = { callee:=.builtin .append,args:=#[s,x],argTypes:=#[t,t] }:=by
          cases c;simp_all
        simp only [Option.bind_eq_some_iff] at ht
        obtain ⟨et,het,z,hz,sz,hsz,i,hi,ht⟩:=ht
        split at ht
        · rename_i hcond
          simp only [Option.bind_eq_some_iff,Option.map_eq_some_iff] at ht
          obtain ⟨s',hs,x',hx,rfl⟩:=ht
          simp only [evP] at h
          split at h
          · rename_i e
            split at h
            · rename_i k cs ex
              split at h
              · rename_i hh
                obtain ⟨h1,h2,h3,h4,h5⟩:=hh
                obtain rfl:=Option.some.inj h
                exact .inr ⟨mkOwn_refs _ _ _,fun d=>ok_app_nil I hS (by rw [hop,hcc]) hs hx (sliceP_some het) hz hsz hcond.1 hcond.2 (by simp [hi]) e ex h1 h2 h3 h4 d⟩
              · cases h
            · cases h
          · cases h
        · cases ht
      · cases ht
    · rename_i x y hcal hargs
      have ha:c.args = #[x,y]:=by rw [← Array.toList_inj];simpa using hargs
      simp only [Option.bind_eq_some_iff,Option.map_eq_some_iff] at ht
      obtain ⟨x',hx,y',hy,rfl⟩:=ht
      simp only [evP] at h
      split at h
      · rename_i k i k' j e e'
        split at h
        · rename_i hk
          subst hk
          obtain rfl:=Option.some.inj h
          exact .inl (ok_mx I hop hcal ha hx hy e e')
        · cases h
      · cases h
    · rename_i x y hcal hargs
      have ha:c.args = #[x,y]:=by rw [← Array.toList_inj];simpa using hargs
      simp only [Option.bind_eq_some_iff,Option.map_eq_some_iff] at ht
      obtain ⟨x',hx,y',hy,rfl⟩:=ht
      simp only [evP] at h
      split at h
      · rename_i k i k' j e e'
        split at h
        · rename_i hk
          subst hk
          obtain rfl:=Option.some.inj h
          exact .inl (ok_mn I hop hcal ha hx hy e e')
        · cases h
      · cases h
    · simp only [Option.map_eq_some_iff] at ht
      obtain ⟨as,_,rfl⟩:=ht
      simp [isCall] at hc
    · simp only [Option.map_eq_some_iff] at ht
      obtain ⟨as,_,rfl⟩:=ht
      simp [isCall] at hc
    · cases ht
  all_goals (cases ht)
end
end Go.Ab
namespace Go.Ab
open Go
set_option linter.unusedVariables false
set_option linter.unusedSimpArgs false
def RetOk (w:World) (L:LM) (args:Array Value) (r:PV) (outs:List PV) (v:Value) (w':World):Prop :=
  ∃ L',WF w' L' ∧ Ext w L w' L' ∧ (∀ b j q p i,L' b j = .own q p i→q=0 ∧ ∃ k s,p=k :: s∧k < 1 + outs.length)∧RepV w' L' (some (0,[0])) r v∧refs r=[] ∧
    ∀ i (hi:i < outs.length),RepV w' L' (some (0,[1 + i])) outs[i] (args.getD i undef)∧refs outs[i]=[]∧outs[i].cok=true
def retPost (R:Value→World→Prop):Ending→World→Prop
  | .returned v,w=>R v w
  | _,_=>False
def CallOk1 (P:Program) (f:Nat) (F:List PV→Option (PV × List PV)):Prop :=
  ∀ ws r outs, F ws = some (r, outs) → (∃ fn, P.funcs[f]? = some fn ∧ (fn.name == "runtime.NumGoroutine") = false ∧ fn.body.isNone = false) ∧
    ∀ (args:Array Value) (w:World) (L:LM),args.size=ws.length→WF w L→(∀ b j q p i,L b j = .own q p i→q=0 ∧ ∃ k s,p=k :: s∧k < ws.length) →
      (∀ i (hi:i < ws.length),RepV w L (some (0,[i])) ws[i] (args.getD i undef)∧refs ws[i]=[]) →
      Calls P f args w (retPost (RetOk w L args r outs))
def CallOk (P:Program) (C:Calls'):Prop:=∀ f,CallOk1 P f (C f)
section
variable {P:Program} {n:Nat} {w:World} {L:LM} {a:Act} {g:Nat→PV} {o:Oper} {Q:Exit→Act→World→Prop}
theorem run_call {C:Calls'} (hC:CallOk P C) {f:Nat} {c:Call} (hop:o.op = .call c) (hcal:c.callee = .value (.func f)) {ws:List PV} {r:PV} {outs:List PV} (h:C f ws=some (r,outs)) :
    (execOp a.eval o).run P w = .ok (.enter f (c.args.map a.eval)) w:=by
  obtain ⟨⟨fn,h1,h2,h3⟩,_⟩:=hC f ws r outs h
  have h2' : ¬ fn.name = "runtime.NumGoroutine" := by simpa using h2
  simp [execOp,hop,resolve,hcal,Deferred.ofValue,invoke,Act.eval,callFunc,h1,h2',h3]
  intro hb
  rw [hb] at h3;cases h3
def shAll:Lab→Lab
  | .own ..=>.sh
  | l=>l
def outAll:Lab→Lab
  | .own ..=>.out
  | l=>l
theorem WF.shAll (W:WF w L):WF w (fun b j=>shAll (L b j)) where
  inj b j b' j' r p i e:=by cases hl:L b j <;> simp [hl,Ab.shAll] at e
  ex b j h:=W.ex b j fun e=>h (by simp [e,Ab.shAll])
  thaw b j r p i e:=by cases hl:L b j <;> simp [hl,Ab.shAll] at e
theorem WF.outAll (W:WF w L):WF w (fun b j=>outAll (L b j)) where
  inj b j b' j' r p i e:=by cases hl:L b j <;> simp [hl,Ab.outAll] at e
  ex b j h:=W.ex b j fun e=>h (by simp [e,Ab.outAll])
  thaw b j r p i e:=by cases hl:L b j <;> simp [hl,Ab.outAll] at e
theorem lend1_rep (I:Inv n w L a g) {S:Subs} (hS:SubsOk S g) {v x:PV} {u:Value} (V:RepV w L Option.none v u) (h:lend1 S v=some x) {σ:Lab→Lab} (hs:σ .sh = .sh)
    (hA:(∀ r p i,σ (.own r p i) = .sh) ∨ v.isView=false) (hd:Hd):RepV w (fun b j=>σ (L b j)) hd x u∧x.free=true:=by
  unfold lend1 at h
  split at h
  · rename_i r p off len z
    split at h
    · rename_i sz n0 cs hsub
      split at h
      · rename_i hle
        obtain ⟨hle1,hle2⟩:=hle
        simp only [Option.map_eq_some_iff] at h
        obtain ⟨ds,hds,rfl⟩:=h
        rcases hA with hA | hA
        · have hsub':Ab.sub (g r) p = .own sz n0 cs:=by
            rcases hS r p with h' | h'
            · rw [h'] at hsub;cases hsub
            · rw [← h'];exact hsub
          obtain ⟨u',H⟩:=I.obj (r:=r) (p:=p) (by rw [hsub'];simp)
          rw [hsub'] at H
          subst hle1
          exact ⟨view_shared I.wf V H hle2 hds hs (fun s i=>hA _ _ _) _,rfl⟩
        · simp [PV.isView] at hA
      · cases h
    · cases h
  · split at h
    · rename_i hf
      obtain rfl:=Option.some.inj h
      exact ⟨(V.move (h':=Option.none) (σ:=σ) hs trivial (by simp [free_refs hf])).any hf hd,hf⟩
    · cases h
theorem lend1L_rep (I:Inv n w L a g) {S:Subs} (hS:SubsOk S g) {σ:Lab→Lab} (hs:σ .sh = .sh):∀ {vs xs:List PV} (h:lend1L S vs=some xs) (us:Nat→Value) (V:∀ i (hi:i < vs.length),RepV w L Option.none vs[i] (us i))
    (hA:(∀ r p i,σ (.own r p i) = .sh) ∨ ∀ v ∈ vs,v.isView=false) (hd:Nat→Hd),xs.length=vs.length ∧ ∀ i (hi:i < xs.length),RepV w (fun b j=>σ (L b j)) (hd i) xs[i] (us i)∧xs[i].free=true
  | [],xs,h,us,V,hA,hd=>by simp [lend1L] at h;subst h;exact ⟨rfl,fun i hi=>by simp at hi⟩
  | c :: cs,xs,h,us,V,hA,hd=>by
    simp only [lend1L] at h
    split at h
    · rename_i x ys hx hys
      obtain rfl:=Option.some.inj h
      have h1:=lend1_rep I hS (V 0 (by simp)) hx hs (hA.imp id fun h=>h c (by simp)) (hd 0)
      obtain ⟨h2,h3⟩:=lend1L_rep I hS hs hys (fun i=>us (i + 1)) (fun i hi=>V (i + 1) (by simpa using hi)) (hA.imp id fun h v hv=>h v (by simp [hv])) (fun i=>hd (i + 1))
      refine ⟨by simp [h2],fun i hi=>?_⟩
      cases i with
      | zero=>exact h1
      | succ i=>exact h3 i (by simpa using hi)
    · cases h
theorem refsL_free {cs:List PV} (h:∀ i (hi:i < cs.length),cs[i].free=true):refsL cs=[]:=by
  induction cs with
  | nil=>rfl
  | cons c cs ih =>
    simp only [refsL,List.append_eq_nil_iff]
    exact ⟨free_refs (h 0 (by simp)),ih fun i hi=>h (i + 1) (by simpa using hi)⟩
theorem lendCaps_rep (I:Inv n w L a g) {S:Subs} (hS:SubsOk S g) {σ:Lab→Lab} (hs:σ .sh = .sh):∀ {vs xs:List PV} (h:lendCaps S vs=some xs) (us:Nat→Value) (V:∀ i (hi:i < vs.length),RepV w L Option.none vs[i] (us i))
    (hA:(∀ r p i,σ (.own r p i) = .sh) ∨ vs.any PV.isRef=false) (hd:Nat→Hd),xs.length=vs.length ∧ ∀ i (hi:i < xs.length),RepV w (fun b j=>σ (L b j)) (hd i) xs[i] (us i)∧xs[i].free=true
  | [],xs,h,us,V,hA,hd=>by simp [lendCaps] at h;subst h;exact ⟨rfl,fun i hi=>by simp at hi⟩
  | c :: cs, xs, h, us,V,hA,hd=>by
    simp only [lendCaps] at h
    split at h
    · rename_i x ys hx hys
      obtain rfl:=Option.some.inj h
      have h1 : RepV w (fun b j=>σ (L b j)) (hd 0) x (us 0)∧x.free=true:=by
        have V0:=V 0 (by simp)
        simp only [List.getElem_cons_zero] at V0
        unfold lendCap at hx
        split at hx
        · rename_i r p m
          split at hx
          · rename_i cs0 hsub
            simp only [Option.map_eq_some_iff] at hx
            obtain ⟨ds,hds,rfl⟩:=hx
            rcases hA with hA | hA
            · have hsub':Ab.sub (g r) p = .box cs0:=by
                rcases hS r p with h' | h'
                · rw [h'] at hsub;cases hsub
                · rw [← h'];exact hsub
              obtain ⟨u',H⟩:=I.obj (r:=r) (p:=p) (by rw [hsub'];simp)
              rw [hsub'] at H
              refine ⟨?_,rfl⟩
              have hlen:=frzL_length hds
              generalize us 0=u0 at V0
              cases V0 with
              | ref _ _ _ _ _ b j hp hlab =>
                cases H with
                | box _ _ _ b' o' ho hk hcc =>
                  have lab:∀ i,i < cs0.length→L b (j + i) = .own r p i∧b' = b∧o' = j:=fun i hi=>by
                    have e0:=hlab 0 hp
                    obtain ⟨rfl,e2⟩:=I.wf.inj _ _ _ _ _ _ _ e0 (ho 0 (by omega))
                    obtain rfl:o' = j:=by omega
                    exact ⟨ho i hi,rfl,rfl⟩
                  refine .sp _ _ _ _ (fun i hi=>?_) (fun i hi=>frz_cok (frzL_get hds i (by omega) hi) (hk i (by omega))) fun i hi=>?_
                  · rw [(lab i (by omega)).1];exact hA _ _ _
                  · obtain ⟨_,rfl,rfl⟩:=lab i (by omega)
                    exact (hcc i (by omega)).share hs (fun r' p' _ s k=>hA _ _ _) (frzL_get hds i (by omega) hi) Option.none
            · simp [PV.isRef] at hA
          · cases hx
        · rename_i cs0
          obtain rfl:=Option.some.inj hx
          exact ⟨(V0.move (h':=Option.none) (σ:=σ) hs trivial (by simp [refs])).any rfl _,rfl⟩
        · cases hx
      obtain ⟨h2,h3⟩:=lendCaps_rep I hS hs hys (fun i=>us (i + 1)) (fun i hi=>V (i + 1) (by simpa using hi)) (hA.imp id fun h=>by simp only [List.any_cons,Bool.or_eq_false_iff] at h;exact h.2) (fun i=>hd (i + 1))
      refine ⟨by simp [h2],fun i hi=>?_⟩
      cases i with
      | zero=>exact h1
      | succ i=>exact h3 i (by simpa using hi)
    · cases h
theorem lend_rep (I:Inv n w L a g) {S:Subs} (hS:SubsOk S g) {v x:PV} {u:Value} (V:RepV w L Option.none v u) (h:lend S v=some x) {σ:Lab→Lab} (hs:σ .sh = .sh)
    (hA:(∀ r p i,σ (.own r p i) = .sh) ∨ lent v=false) (hd:Hd):RepV w (fun b j=>σ (L b j)) hd x u∧refs x=[]:=by
  unfold lend at h
  split at h
  · rename_i cs
    simp only [Option.map_eq_some_iff] at h
    obtain ⟨ds,hds,rfl⟩:=h
    cases V with
    | agg _ _ vs hz hc =>
      obtain ⟨h1,h2⟩:=lend1L_rep I hS hs hds (fun i=>vs.getD i undef) (fun i hi=>hc i hi) (hA.imp id fun h v hv=>by
        simp only [lent,List.any_eq_false] at h
        simpa using h v hv) (fun i=>hd.snoc i)
      exact ⟨.agg _ _ _ (by omega) fun i hi=>(h2 i hi).1,refsL_free fun i hi=>(h2 i hi).2⟩
  · rename_i f cs
    simp only [Option.map_eq_some_iff] at h
    obtain ⟨ds,hds,rfl⟩:=h
    cases V with
    | fn _ _ _ vs hz hc =>
      obtain ⟨h1,h2⟩:=lendCaps_rep I hS hs hds (fun i=>vs.getD i undef) (fun i hi=>hc i hi) (hA.imp id fun h=>by simpa [lent] using h) (fun i=>hd.snoc i)
      exact ⟨.fn _ _ _ _ (by omega) fun i hi=>(h2 i hi).1,refsL_free fun i hi=>(h2 i hi).2⟩
  · obtain ⟨h1,h2⟩:=lend1_rep I hS V h hs (hA.imp id fun h=>by cases v <;> simp_all [lent,PV.isView]) hd
    exact ⟨h1,free_refs h2⟩
end
end Go.Ab
namespace Go.Ab
open Go
set_option linter.unusedVariables false
set_option linter.unusedSimpArgs false
theorem Ext.frozen {w w':World} {L L':LM} (h:Ext w L w' L') {b:Nat} (hb:b < w.heap.size) (j:Nat):w'.frozen? ⟨b,j,Option.none⟩=w.frozen? ⟨b,j,Option.none⟩:=by
  have h:=h.blk b hb
  unfold World.frozen?
  cases e:w.heap[b]? with
  | none=>rw [e] at h;cases e':w'.heap[b]? with
    | none=>simp [e,e']
    | some o=>rw [e'] at h;cases o <;> cases h
  | some o =>
    rw [e] at h
    cases o with
    | cells c t fr =>
      cases e':w'.heap[b]? with
      | none=>rw [e'] at h;cases h
      | some o' =>
        rw [e'] at h
        cases o' with
        | cells c' t' fr' =>
          obtain ⟨rfl,rfl,hs,hc⟩:=h
          simp [e,e']
        | _=>cases h
    | _ =>
      have h2:=(show w'.heap[b]? = some _ from h)
      simp [e,h2]
theorem SameBlk.weaken {L L':LM} {b:Nat} {o o':Option Obj} (h:SameBlk L b o o') (hl:∀ j,L' b j = .out ∨ L' b j = .sh→L b j = .out ∨ L b j = .sh):SameBlk L' b o o':=by
  cases o with
  | none=>cases h;rfl
  | some o =>
    cases o with
    | cells c t fr =>
      cases o' with
      | none=>cases h
      | some o' =>
        cases o' with
        | cells c' t' fr' =>
          obtain ⟨rfl,rfl,hs,hc⟩:=h
          exact ⟨rfl,rfl,hs,fun j hj=>hc j (hl j hj)⟩
        | _=>cases h
    | _=>cases h;rfl
theorem flat1_rep {w w':World} {L L':LM} {h h':Hd} {v:PV} {u:Value} (H:RepV w L h v u) (hf:v.flat1=true):RepV w' L' h' v u:=by
  cases H <;> simp [PV.flat1] at hf
  · exact .bool _ _
  · exact .int _ _ _
  · rename_i s l e;exact .str _ _ _ e
theorem flat_rep {w w':World} {L L':LM} {h h':Hd} {v:PV} {u:Value} (H:RepV w L h v u) (hf:v.flat=true):RepV w' L' h' v u:=by
  cases H with
  | agg _ cs vs hz hc=>exact .agg _ _ _ hz fun i hi=>flat1_rep (hc i hi) (by simp [PV.flat] at hf;exact hf _ (List.getElem_mem hi))
  | tup _ cs vs hz hc=>exact .tup _ _ _ hz fun i hi=>flat1_rep (hc i hi) (by simp [PV.flat] at hf;exact hf _ (List.getElem_mem hi))
  | bool _ b=>exact .bool _ _
  | int _ k n=>exact .int _ _ _
  | str _ s l e=>exact .str _ _ _ e
  | _=>simp [PV.flat,PV.flat1] at hf
def retL (d:Nat):Lab→Lab
  | .own _ (0 :: s) i=>.own d s i
  | .own ..=>.out
  | l=>l
def isOwn:Lab→Bool
  | .own ..=>true
  | _=>false
theorem retL_own {d:Nat} {l:Lab} {q:Nat} {s:List Nat} {i:Nat} (h:retL d l = .own q s i):∃ q',l = .own q' (0 :: s) i∧q=d:=by
  cases l with
  | out=>cases h
  | sh=>cases h
  | own q' s' i' =>
    unfold retL at h
    split at h
    · rename_i e;simp only [Lab.own.injEq] at e h;obtain ⟨rfl,rfl,rfl⟩:=e;obtain ⟨rfl,rfl,rfl⟩:=h;exact ⟨_,rfl,rfl⟩
    · cases h
    · rename_i h1 h2;rw [h] at h2;exact absurd rfl (h2 _ _ _)
section
variable {P:Program} {n:Nat} {w w':World} {L:LM} {a:Act} {g:Nat→PV} {o:Oper} {Q:Exit→Act→World→Prop}
theorem grows_lent (W:WF w L) {L':LM} (E:Ext w (fun b j=>shAll (L b j)) w' L') (d:Nat):Grows w (fun b j=>dropL d [] (L b j)) w' (fun b j=>dropL d [] (L b j)):=by
  have os:∀ b j,shAll (L b j) = .out ∨ shAll (L b j) = .sh:=fun b j=>by cases L b j <;> simp [shAll]
  have cell:∀ b j,L b j ≠ .out→w'.cell? ⟨b,j,Option.none⟩=w.cell? ⟨b,j,Option.none⟩:=fun b j h=>E.cell (W.lt h) (os b j)
  have W1:=W.drop d []
  have ne:∀ b j,dropL d [] (L b j) ≠ .out→L b j ≠ .out:=fun b j h e=>h (by rw [e];rfl)
  refine ⟨⟨W1.inj,fun b j h=>?_,fun b j r p i h=>?_⟩,⟨E.os,E.tape,E.output,E.size,fun _ _ _ _=>rfl,fun b hb=>(E.blk b hb).weaken fun j _=>os b j⟩,fun _ _ _=>rfl,fun b j h=>cell b j (ne b j h)⟩
  · obtain ⟨v,hv⟩:=W1.ex b j h
    exact ⟨v,by rw [cell b j (ne b j h)];exact hv⟩
  · have:=W1.thaw b j r p i h
    rw [E.frozen (W.lt (ne b j (by rw [h];simp)))]
    exact this
def behind (L L':LM) (d:Nat):LM:=fun b j=>if isOwn (L b j) then dropL d [] (L b j) else retL d (L' b j)
theorem grows_ret (W:WF w L) {L':LM} (W':WF w' L') (E:Ext w (fun b j=>outAll (L b j)) w' L') (bd:∀ b j q p i,L' b j = .own q p i→q=0) (d:Nat):Grows w (fun b j=>dropL d [] (L b j)) w' (behind L L' d):=by
  have os:∀ b j,outAll (L b j) = .out ∨ outAll (L b j) = .sh:=fun b j=>by cases L b j <;> simp [outAll]
  have cell:∀ b j,L b j ≠ .out→w'.cell? ⟨b,j,Option.none⟩=w.cell? ⟨b,j,Option.none⟩:=fun b j h=>E.cell (W.lt h) (os b j)
  have W1:=W.drop d []
  have ne:∀ b j,dropL d [] (L b j) ≠ .out→L b j ≠ .out:=fun b j h e=>h (by rw [e];rfl)
  have nod:∀ b j s i,dropL d [] (L b j) ≠ .own d s i:=fun b j s i h=>by
    obtain ⟨h1,h2⟩:=dropL_own h
    apply h2;rw [h1,under_nil]
  refine ⟨⟨fun b j b' j' r p i e e'=>?_,fun b j h=>?_,fun b j r p i h=>?_⟩,⟨E.os,E.tape,E.output,E.size,fun b j hb h=>?_,fun b hb=>(E.blk b hb).weaken fun j _=>os b j⟩,fun b j h=>?_,fun b j h=>cell b j (ne b j h)⟩
  · simp only [behind] at e e'
    split at e <;> split at e'
    · exact W1.inj _ _ _ _ _ _ _ e e'
    · obtain ⟨_,_,rfl⟩:=retL_own e'
      exact absurd e (nod _ _ _ _)
    · obtain ⟨_,_,rfl⟩:=retL_own e
      exact absurd e' (nod _ _ _ _)
    · obtain ⟨q1,h1,_⟩:=retL_own e
      obtain ⟨q2,h2,_⟩:=retL_own e'
      obtain rfl:=bd _ _ _ _ _ h1
      obtain rfl:=bd _ _ _ _ _ h2
      exact W'.inj _ _ _ _ _ _ _ h1 h2
  · simp only [behind] at h
    split at h
    · obtain ⟨v,hv⟩:=W1.ex b j h
      exact ⟨v,by rw [cell b j (ne b j h)];exact hv⟩
    · exact W'.ex b j fun e=>h (by rw [e];rfl)
  · simp only [behind] at h
    split at h
    · have:=W1.thaw b j r p i h
      rw [E.frozen (W.lt (ne b j (by rw [h];simp)))]
      exact this
    · obtain ⟨q1,h1,_⟩:=retL_own h
      exact W'.thaw _ _ _ _ _ h1
  · simp only [behind]
    split
    · rfl
    · rename_i hn
      have hlab:L' b j=outAll (L b j):=E.lab b j hb (os b j)
      rw [hlab]
      cases hl:L b j with
      | own q s i=>rw [hl] at hn;simp [isOwn] at hn
      | out=>rfl
      | sh=>rfl
  · have hne:=ne b j h
    simp only [behind]
    split
    · rfl
    · rename_i hn
      have hlab:L' b j=outAll (L b j):=E.lab b j (W.lt hne) (os b j)
      rw [hlab]
      cases hl:L b j with
      | own q s i=>rw [hl] at hn;simp [isOwn] at hn
      | out=>exact absurd hl hne
      | sh=>rfl
theorem rep_ret (W:WF w L) {L':LM} (E:Ext w (fun b j=>outAll (L b j)) w' L') {r:PV} {v:Value} (H:RepV w' L' (some (0,[0])) r v) (hr:refs r=[]) (d:Nat):RepV w' (behind L L' d) (some (d,[])) r v:=by
  have os:∀ b j,outAll (L b j) = .out ∨ outAll (L b j) = .sh:=fun b j=>by cases L b j <;> simp [outAll]
  refine (H.move (σ:=retL d) (h':=some (d,[])) rfl (fun s i=>rfl) (by simp [hr])).frame (fun b j hrel=>?_) (by simp [hr]) fun _ _ _=>rfl
  simp only [behind]
  split
  · rename_i ho
    have hlab:L' b j=outAll (L b j):=E.lab b j (W.lt (by intro e;rw [e] at ho;simp [isOwn] at ho)) (os b j)
    have h2:L' b j = .out:=by
      rw [hlab];cases hl:L b j <;> simp [hl,isOwn] at ho <;> rfl
    rw [h2] at hrel
    rcases hrel with h | ⟨_,_,_,_,_,h⟩ <;> cases h
  · rfl
theorem lendL_rep (I:Inv n w L a g) {S:Subs} (hS:SubsOk S g) {σ:Lab→Lab} (hs:σ .sh = .sh):∀ {vs xs:List PV} (h:lendL S vs=some xs) (us:Nat→Value) (V:∀ i (hi:i < vs.length),RepV w L Option.none vs[i] (us i))
    (hA:(∀ r p i,σ (.own r p i) = .sh) ∨ vs.any lent=false) (hd:Nat→Hd),xs.length=vs.length ∧ ∀ i (hi:i < xs.length),RepV w (fun b j=>σ (L b j)) (hd i) xs[i] (us i)∧refs xs[i]=[]
  | [],xs,h,us,V,hA,hd=>by simp [lendL] at h;subst h;exact ⟨rfl,fun i hi=>by simp at hi⟩
  | c :: cs,xs,h,us,V,hA,hd=>by
    simp only [lendL] at h
    split at h
    · rename_i x ys hx hys
      obtain rfl:=Option.some.inj h
      have h1:=lend_rep I hS (V 0 (by simp)) hx hs (hA.imp id fun h=>by simp only [List.any_cons,Bool.or_eq_false_iff] at h;exact h.1) (hd 0)
      obtain ⟨h2,h3⟩:=lendL_rep I hS hs hys (fun i=>us (i + 1)) (fun i hi=>V (i + 1) (by simpa using hi)) (hA.imp id fun h=>by simp only [List.any_cons,Bool.or_eq_false_iff] at h;exact h.2) (fun i=>hd (i + 1))
      refine ⟨by simp [h2],fun i hi=>?_⟩
      cases i with
      | zero=>exact h1
      | succ i=>exact h3 i (by simpa using hi)
    · cases h
theorem enter_pure {C:Calls'} (hC:CallOk P C) (I:Inv n w L a g) {f:Nat} {ws:List PV} {r:PV} {outs:List PV} (hCr:C f ws=some (r,outs)) {args:Array Value} (hrun:(execOp a.eval o).run P w = .ok (.enter f args) w)
    (hsz:args.size=ws.length) {d:Nat} (ho:o.dst=some d)
    (hcase:(r.flat=true ∧ ∀ i (hi:i < ws.length),RepV w (fun b j=>shAll (L b j)) (some (0,[i])) ws[i] (args.getD i undef)∧refs ws[i]=[]) ∨
      (∀ i (hi:i < ws.length),RepV w (fun b j=>outAll (L b j)) (some (0,[i])) ws[i] (args.getD i undef)∧refs ws[i]=[])):PureOk P o a w L d (purge1 (und d []) r) Q:=by
  obtain ⟨_,hcalls⟩:=hC f ws _ _ hCr
  unfold PureOk Oper.wp
  rw [hrun]
  simp only [Oper.upon]
  rcases hcase with ⟨hflat,hwr⟩ | hwr
  · refine Calls.mono (hcalls _ w (fun b j=>shAll (L b j)) hsz I.wf.shAll (fun b j q p i hh=>by cases hl:L b j <;> simp [hl,shAll] at hh) hwr) fun e w'' he=>?_
    cases e with
    | returned v =>
      obtain ⟨L',W',E,bd,H,hr,_⟩:=he
      refine ⟨v,_,by rw [ho],grows_lent I.wf E d,?_,fun _ _=>.inl rfl⟩
      rw [purge1_id _ _ hr]
      exact flat_rep H hflat
    | panicked=>exact he.elim
    | outgrown=>exact he.elim
  · refine Calls.mono (hcalls _ w (fun b j=>outAll (L b j)) hsz I.wf.outAll (fun b j q p i hh=>by cases hl:L b j <;> simp [hl,outAll] at hh) hwr) fun e w'' he=>?_
    cases e with
    | returned v =>
      obtain ⟨L',W',E,bd,H,hr,_⟩:=he
      refine ⟨v,_,by rw [ho],grows_ret I.wf W' E (fun b j q p i hh=>(bd b j q p i hh).1) d,?_,fun b j=>?_⟩
      · rw [purge1_id _ _ hr]
        exact rep_ret I.wf E H hr d
      · simp only [behind]
        split
        · exact .inl rfl
        · rename_i hn
          cases hl:retL d (L' b j) with
          | sh=>exact .inr (.inr rfl)
          | own q s i =>
            obtain ⟨_,_,rfl⟩:=retL_own hl
            exact .inr (.inl ⟨_,_,rfl⟩)
          | out =>
            left
            cases hl2:L b j with
            | own q s i=>rw [hl2] at hn;simp [isOwn] at hn
            | out=>rfl
            | sh =>
              have hlab:L' b j=outAll (L b j):=E.lab b j (I.wf.lt (by rw [hl2];simp)) (by rw [hl2];exact .inr rfl)
              rw [hlab,hl2] at hl
              simp [outAll,retL] at hl
    | panicked=>exact he.elim
    | outgrown=>exact he.elim
theorem argsV (I:Inv n w L a g) {c:Call} {as:List XO} (hargs:trOs c.args.toList=some as):(c.args.map a.eval).size=as.length ∧ ∀ i (hi:i < (as.map (lookG g)).length),RepV w L Option.none (as.map (lookG g))[i] ((c.args.map a.eval).getD i undef):=by
  obtain ⟨hl1,hl2⟩:=trOs_len hargs
  refine ⟨by simp [hl1],fun i hi=>?_⟩
  have hi':i < c.args.size:=by simpa [hl1] using hi
  have:=I.look (hl2 i (by simpa using hi') (by simpa using hi)) Option.none
  simpa [Array.getD,hi'] using this
theorem call_pure {C:Calls'} (hC:CallOk P C) (I:Inv n w L a g) {S:Subs} (hS:SubsOk S g) {c:Call} {f:Nat} {as:List XO} (hop:o.op = .call c) (hcal:c.callee = .value (.func f)) (hargs:trOs c.args.toList=some as) {d:Nat} (ho:o.dst=some d)
    {v:PV} (h:evP C (lookG g) S (.call f as [])=some v):PureOk P o a w L d (purge1 (und d []) v) Q:=by
  simp only [evP] at h
  split at h
  · rename_i ws hws
    split at h
    · rename_i r outs hCr
      split at h
      · rename_i hcond
        obtain rfl:=Option.some.inj h
        obtain ⟨hsz,V⟩:=argsV I hargs
        by_cases hflat:r.flat=true
        · obtain ⟨hwl,hwr⟩:=lendL_rep I hS (σ:=shAll) rfl hws _ V (.inl fun _ _ _=>rfl) (fun i=>some (0,[i]))
          exact enter_pure hC I hCr (run_call hC hop hcal hCr) (by rw [hsz,hwl];simp) ho (.inl ⟨hflat,hwr⟩)
        · have hnl:(as.map (lookG g)).any lent=false:=by
            have:r.flat=false:=by simpa using hflat
            rw [this,Bool.false_or] at hcond
            simpa using hcond
          obtain ⟨hwl,hwr⟩:=lendL_rep I hS (σ:=outAll) rfl hws _ V (.inr hnl) (fun i=>some (0,[i]))
          exact enter_pure hC I hCr (run_call hC hop hcal hCr) (by rw [hsz,hwl];simp) ho (.inr hwr)
      · cases h
    · cases h
  · cases h
theorem run_callv {C:Calls'} (hC:CallOk P C) {f:Nat} {c:Call} {y:Operand} (hop:o.op = .call c) (hcal:c.callee = .value y) {vs:Array Value} (hy:a.eval y = .func (.func f) #[] vs) {ws:List PV} {r:PV} {outs:List PV} (h:C f ws=some (r,outs)) :
    (execOp a.eval o).run P w = .ok (.enter f (c.args.map a.eval ++ vs)) w:=by
  obtain ⟨⟨fn,h1,h2,h3⟩,_⟩:=hC f ws r outs h
  have h2' : ¬ fn.name = "runtime.NumGoroutine" := by simpa using h2
  simp only [execOp,hop,resolve,hcal,Deferred.ofValue,hy]
  simp [invoke,callFunc,h1,h2',h3]
  intro hb
  rw [hb] at h3;cases h3
theorem append_getD {as bs:Array Value} {i:Nat}:(as ++ bs).getD i undef=if i < as.size then as.getD i undef else bs.getD (i - as.size) undef:=by
  by_cases h:i < as.size
  · simp [Array.getD,h,Array.getElem_append,show i < as.size + bs.size by omega]
  · simp only [Array.getD,h,if_false,Array.size_append]
    by_cases h2:i < as.size + bs.size
    · simp [h2,Array.getElem_append,h,show i - as.size < bs.size by omega]
    · simp [h2,show ¬ i - as.size < bs.size by omega]
theorem callv_pure {C:Calls'} (hC:CallOk P C) (I:Inv n w L a g) {S:Subs} (hS:SubsOk S g) {c:Call} {t:Nat} {as:List XO} (hop:o.op = .call c) (hcal:c.callee = .value (.tmp t)) (hargs:trOs c.args.toList=some as) {d:Nat} (ho:o.dst=some d)
    {v:PV} (h:evP C (lookG g) S (.callv (.t t) as)=some v):PureOk P o a w L d (purge1 (und d []) v) Q:=by
  simp only [evP] at h
  split at h
  · rename_i f caps hx
    split at h
    · rename_i ws us hws hus
      split at h
      · rename_i r outs hCr
        split at h
        · rename_i hcond
          obtain rfl:=Option.some.inj h
          obtain ⟨hsz,V⟩:=argsV I hargs
          have HF:=I.look (o:=.tmp t) (x:=.t t) rfl Option.none
          rw [hx] at HF
          generalize hu:a.eval (.tmp t)=u at HF
          cases HF with
          | fn _ _ _ vs hz hc =>
            have both:∀ {σ:Lab→Lab},(∀ i (hi:i < ws.length),RepV w (fun b j=>σ (L b j)) (some (0,[i])) ws[i] ((c.args.map a.eval).getD i undef)∧refs ws[i]=[])→ws.length=as.length →
                (us.length=caps.length ∧ ∀ i (hi:i < us.length),RepV w (fun b j=>σ (L b j)) (some (0,[ws.length + i])) us[i] (vs.getD i undef)∧us[i].free=true) →
                ∀ i (hi:i < (ws ++ us).length),RepV w (fun b j=>σ (L b j)) (some (0,[i])) (ws ++ us)[i] ((c.args.map a.eval ++ vs).getD i undef)∧refs (ws ++ us)[i]=[]:=fun {σ} h1 hl h2 i hi=>by
              rw [append_getD,hsz,← hl]
              by_cases hlt:i < ws.length
              · rw [if_pos hlt,List.getElem_append_left hlt];exact h1 i hlt
              · rw [if_neg hlt,List.getElem_append_right (by omega)]
                have hi':i - ws.length < us.length:=by simp at hi;omega
                obtain ⟨h3,h4⟩:=h2.2 _ hi'
                rw [show ws.length + (i - ws.length)=i by omega] at h3
                exact ⟨h3,free_refs h4⟩
            have hsz':∀ (hl:ws.length=as.length) (hl2:us.length=caps.length),(c.args.map a.eval ++ vs).size=(ws ++ us).length:=fun hl hl2=>by
              rw [Array.size_append,hsz,List.length_append,hl,hl2,hz]
            by_cases hflat:r.flat=true
            · obtain ⟨hwl,hwr⟩:=lendL_rep I hS (σ:=shAll) rfl hws _ V (.inl fun _ _ _=>rfl) (fun i=>some (0,[i]))
              have h2:=lendCaps_rep I hS (σ:=shAll) rfl hus (fun i=>vs.getD i undef) (fun i hi=>hc i hi) (.inl fun _ _ _=>rfl) (fun i=>some (0,[ws.length + i]))
              have hl:ws.length=as.length:=by rw [hwl];simp
              exact enter_pure hC I hCr (run_callv hC hop hcal hu hCr) (hsz' hl h2.1) ho (.inl ⟨hflat,both hwr hl h2⟩)
            · have hnl:(as.map (lookG g)).any lent=false∧caps.any PV.isRef=false:=by
                have:r.flat=false:=by simpa using hflat
                rw [this,Bool.false_or] at hcond
                simpa [lent] using hcond
              obtain ⟨hwl,hwr⟩:=lendL_rep I hS (σ:=outAll) rfl hws _ V (.inr hnl.1) (fun i=>some (0,[i]))
              have h2:=lendCaps_rep I hS (σ:=outAll) rfl hus (fun i=>vs.getD i undef) (fun i hi=>hc i hi) (.inr hnl.2) (fun i=>some (0,[ws.length + i]))
              have hl:ws.length=as.length:=by rw [hwl];simp
              exact enter_pure hC I hCr (run_callv hC hop hcal hu hCr) (hsz' hl h2.1) ho (.inr (both hwr hl h2))
        · cases h
      · cases h
    · cases h
  · cases h
def NoCall (o:Option XOp):Prop:=∀ x,o=some x→isCall x=false
theorem NoCall.some {x:XOp} (h:isCall x=false):NoCall (some x):=fun y e=>by cases e;exact h
theorem NoCall.none:NoCall Option.none:=fun y e=>by cases e
theorem NoCall.map {α:Type} {o:Option α} {f:α→XOp} (h:∀ y,isCall (f y)=false):NoCall (o.map f):=fun x e=>by
  simp only [Option.map_eq_some_iff] at e
  obtain ⟨y,_,rfl⟩:=e
  exact h y
theorem NoCall.bind {α:Type} {o:Option α} {f:α→Option XOp} (h:∀ y,NoCall (f y)):NoCall (o.bind f):=fun x e=>by
  simp only [Option.bind_eq_some_iff] at e
  obtain ⟨y,_,e⟩:=e
  exact h y x e
theorem NoCall.ite {c:Prop} [Decidable c] {o:Option XOp} (h:NoCall o):NoCall (if c then o else Option.none):=by
  split
  · exact h
  · exact .none
theorem noCall_slice {P:Program} (t:TypeId) (y:Operand) (lo hi:Option Operand):NoCall (trOp P (.slice t y lo hi Option.none)):=by
  simp only [trOp]
  split
  · exact .bind fun _=>.bind fun _=>.map fun _=>rfl
  · exact .bind fun _=>.ite (.bind fun _=>.bind fun _=>.map fun _=>rfl)
  · exact .none
theorem trOp_call {P:Program} {op:Op} {x:XOp} (ht:trOp P op=some x) (hc:isCall x=true):(∃ c f as,op = .call c∧c.callee = .value (.func f)∧trOs c.args.toList=some as∧x = .call f as (mutsOf P f)) ∨
    (∃ c t as,op = .call c∧c.callee = .value (.tmp t)∧trOs c.args.toList=some as∧x = .callv (.t t) as):=by
  cases op <;> simp only [trOp] at ht
  case call c =>
    simp only [trCall] at ht
    split at ht
    · split at ht
      · simp only [Option.map_eq_some_iff] at ht
        obtain ⟨y,_,rfl⟩:=ht;simp [isCall] at hc
      · simp only [Option.map_eq_some_iff] at ht
        obtain ⟨y,_,rfl⟩:=ht;simp [isCall] at hc
      · obtain rfl:=Option.some.inj ht;simp [isCall] at hc
      · cases ht
    · split at ht
      · simp only [Option.bind_eq_some_iff] at ht
        obtain ⟨_,_,_,_,_,_,_,_,ht⟩:=ht
        split at ht
        · simp only [Option.bind_eq_some_iff,Option.map_eq_some_iff] at ht
          obtain ⟨_,_,_,_,rfl⟩:=ht;simp [isCall] at hc
        · cases ht
      · cases ht
    · simp only [Option.bind_eq_some_iff,Option.map_eq_some_iff] at ht
      obtain ⟨_,_,_,_,rfl⟩:=ht;simp [isCall] at hc
    · simp only [Option.bind_eq_some_iff,Option.map_eq_some_iff] at ht
      obtain ⟨_,_,_,_,rfl⟩:=ht;simp [isCall] at hc
    · rename_i f hcal
      simp only [Option.map_eq_some_iff] at ht
      obtain ⟨as,has,rfl⟩:=ht
      exact .inl ⟨_,_,_,rfl,hcal,has,rfl⟩
    · rename_i f hcal
      simp only [Option.map_eq_some_iff] at ht
      obtain ⟨as,has,rfl⟩:=ht
      exact .inr ⟨_,_,_,rfl,hcal,has,rfl⟩
    · cases ht
  case convert s d y =>
    split at ht
    · simp only [Option.map_eq_some_iff] at ht
      obtain ⟨y',_,rfl⟩:=ht;simp [isCall] at hc
    · simp only [Option.bind_eq_some_iff,Option.map_eq_some_iff] at ht
      obtain ⟨_,_,_,_,_,_,rfl⟩:=ht;simp [isCall] at hc
  case makeFunc fn fi cs =>
    split at ht
    · simp only [Option.map_eq_some_iff] at ht
      obtain ⟨y',_,rfl⟩:=ht;simp [isCall] at hc
    · cases ht
  case binOp op xt y z yt =>
    have:NoCall ((trO y).bind fun x'=>(trO z).bind fun y'=>trBin P op xt x' y'):=by
      refine .bind fun _=>.bind fun _=>?_
      cases op <;> simp only [trBin] <;> first | exact .some rfl | (split <;> first | exact .some rfl | exact .map fun _=>rfl)
    rw [this x ht] at hc;cases hc
  case slice t y lo hi mx =>
    cases mx with
    | some _=>cases ht
    | none =>
      have:=noCall_slice (P:=P) t y lo hi x (by simpa only [trOp] using ht)
      rw [this] at hc;cases hc
  all_goals first
    | (cases ht;done)
    | (rw [show isCall x=false from NoCall.map (fun _=>rfl) x ht] at hc;cases hc;done)
    | (rw [show isCall x=false from NoCall.bind (fun _=>.map fun _=>rfl) x ht] at hc;cases hc;done)
    | (rw [show isCall x=false from NoCall.bind (fun _=>.bind fun _=>.map fun _=>rfl) x ht] at hc;cases hc;done)
    | (rw [show isCall x=false from NoCall.bind (fun _=>.bind fun _=>.bind fun _=>.map fun _=>rfl) x ht] at hc;cases hc;done)
    | (rw [show isCall x=false from NoCall.bind (fun _=>.bind fun _=>.ite (.map fun _=>rfl)) x ht] at hc;cases hc;done)
    | (rw [show isCall x=false from NoCall.bind (fun _=>.bind fun _=>.bind fun _=>.ite (.map fun _=>rfl)) x ht] at hc;cases hc;done)
    | (rw [show isCall x=false from NoCall.bind (fun _=>.bind fun _=>.bind fun _=>.bind fun _=>.ite (.bind fun _=>.map fun _=>rfl)) x ht] at hc;cases hc;done)
    | (split at ht <;> first
        | (cases ht;done)
        | (rw [show isCall x=false from NoCall.bind (fun _=>.map fun _=>rfl) x ht] at hc;cases hc;done)
        | (rw [show isCall x=false from NoCall.bind (fun _=>.bind fun _=>.map fun _=>rfl) x ht] at hc;cases hc;done)
        | (rw [show isCall x=false from NoCall.bind (fun _=>.bind fun _=>.bind fun _=>.map fun _=>rfl) x ht] at hc;cases hc;done)
        | (rw [show isCall x=false from NoCall.bind (fun _=>.ite (.bind fun _=>.map fun _=>rfl)) x ht] at hc;cases hc;done)
        | (rw [show isCall x=false from NoCall.bind (fun _=>.bind fun _=>.bind fun _=>.bind fun _=>.map fun _=>rfl) x ht] at hc;cases hc;done))
theorem evP_sound {C:Calls'} (hC:CallOk P C) (I:Inv n w L a g) {S:Subs} (hS:SubsOk S g) {x:XOp} (ht:trOp P o.op=some x) {d:Nat} (ho:o.dst=some d) {v:PV} (h:evP C (lookG g) S x=some v) :
    PureOk P o a w L d (purge1 (und d []) v) Q:=by
  cases hc:isCall x with
  | false =>
    rcases evP_val C I hS ht hc h with h | ⟨h1,h2⟩
    · exact h.pure I.wf ho
    · exact (h2 d).pure ho h1
  | true =>
    rcases trOp_call ht hc with ⟨c,f,as,hop,hcal,has,rfl⟩ | ⟨c,t,as,hop,hcal,has,rfl⟩
    · generalize mutsOf P f=ms at h
      cases ms with
      | nil=>exact call_pure hC I hS hop hcal has ho h
      | cons k ms=>simp [evP] at h
    · exact callv_pure hC I hS hop hcal has ho h
end
def BackA (L L':LM):Prop:=∀ b j r p i,L' b j = .own r p i→L b j = .own r p i
theorem rep_none_noOwn {w:World} {L:LM}:∀ {v:PV} {u:Value} {h:Hd},RepV w L h v u→h=Option.none→noOwn v=true:=by
  intro v u h H
  induction H with
  | agg h cs vs hz hc ih=>rintro rfl;simp only [noOwn];exact noOwnL_of fun c hc=>by obtain ⟨i,hi,rfl⟩:=List.getElem_of_mem hc;exact ih i hi rfl
  | tup h cs vs hz hc ih=>rintro rfl;simp only [noOwn];exact noOwnL_of fun c hc=>by obtain ⟨i,hi,rfl⟩:=List.getElem_of_mem hc;exact ih i hi rfl
  | fn h f cs vs hz hc ih=>rintro rfl;simp only [noOwn];exact noOwnL_of fun c hc=>by obtain ⟨i,hi,rfl⟩:=List.getElem_of_mem hc;exact ih i hi rfl
  | box=>intro h;cases h
  | own=>intro h;cases h
  | _=>intro _;rfl
mutual
theorem purge1_purge1 (f g:Nat→List Nat→Bool):∀ v:PV,purge1 f (purge1 g v)=purge1 (fun r p=>f r p || g r p) v
  | .ref r p i k=>by
    simp only [purge1]
    by_cases hg:g r p=true
    · simp [hg,purge1]
    · by_cases hf:f r p=true
      · simp [hg,purge1,hf]
      · simp [hg,purge1,hf]
  | .view r p x y z=>by
    simp only [purge1]
    by_cases hg:g r p=true
    · simp [hg,purge1]
    · by_cases hf:f r p=true
      · simp [hg,purge1,hf]
      · simp [hg,purge1,hf]
  | .agg cs=>by simp only [purge1,purgeL_purgeL f g cs]
  | .tup cs=>by simp only [purge1,purgeL_purgeL f g cs]
  | .fn k cs=>by simp only [purge1,purgeL_purgeL f g cs]
  | .none=>rfl
  | .bool _=>rfl
  | .int _ _=>rfl
  | .str _=>rfl
  | .nilp=>rfl
  | .nils=>rfl
  | .nilf=>rfl
  | .box _=>rfl
  | .own _ _ _=>rfl
  | .sl _ _=>rfl
  | .sp _=>rfl
theorem purgeL_purgeL (f g:Nat→List Nat→Bool):∀ cs:List PV,purgeL f (purgeL g cs)=purgeL (fun r p=>f r p || g r p) cs
  | []=>rfl
  | c :: cs=>by simp only [purgeL,purge1_purge1 f g c,purgeL_purgeL f g cs]
end
def hitsAny (l:List (Nat × List Nat)) (r:Nat) (p:List Nat):Bool:=l.any fun q=>und q.1 q.2 r p
mutual
theorem purge1_ff:∀ v:PV,purge1 (fun _ _=>false) v=v
  | .ref r p i k=>by simp [purge1]
  | .view r p x y z=>by simp [purge1]
  | .agg cs=>by simp only [purge1,purgeL_ff cs]
  | .tup cs=>by simp only [purge1,purgeL_ff cs]
  | .fn k cs=>by simp only [purge1,purgeL_ff cs]
  | .none=>rfl
  | .bool _=>rfl
  | .int _ _=>rfl
  | .str _=>rfl
  | .nilp=>rfl
  | .nils=>rfl
  | .nilf=>rfl
  | .box _=>rfl
  | .own _ _ _=>rfl
  | .sl _ _=>rfl
  | .sp _=>rfl
theorem purgeL_ff:∀ cs:List PV,purgeL (fun _ _=>false) cs=cs
  | []=>rfl
  | c :: cs=>by simp only [purgeL,purge1_ff c,purgeL_ff cs]
end
theorem purges_any (l:List (Nat × List Nat)) (v:PV):purges l v=purge1 (hitsAny l) v:=by
  induction l with
  | nil=>simp only [purges];exact (purge1_ff v).symm
  | cons q l ih =>
    simp only [purges,ih,purge1_purge1]
    congr 1
section
variable {P:Program} {n m:Nat} {w w':World} {L:LM} {a:Act} {e:Env} {o:Oper} {Q:Exit→Act→World→Prop}
theorem copy1_sound (I:InvF n m w L a e.get) {v x:PV} {u:Value} {e':Env} (V:RepV w L Option.none v u) (h:copy1 e v=some (x,e')) :
    ∃ L',InvF n m w L' a e'.get∧RepV w L' Option.none x u∧x.free=true∧Ext w L w L' ∧ (BackA L L' ∧ FlyOk w L w L' n m)∧Later w L L' (refs v):=by
  unfold copy1 at h
  split at h
  · rename_i r p off len z
    split at h
    · rename_i sz n0 cs hs
      split at h
      · rename_i hc
        obtain ⟨rfl,hcu,hle⟩:=hc
        split at h
        · rename_i ds e1 hd hsh
          simp only [Option.some.injEq,Prod.mk.injEq] at h
          obtain ⟨rfl,rfl⟩:=h
          have hs':Ab.sub (e.get r) p = .own z n0 cs:=hs
          obtain ⟨u',hu'⟩:=I.obj (r:=r) (p:=p) (by rw [hs'];simp)
          rw [hs'] at hu'
          obtain ⟨h1,h2,h3,h4⟩:=I.share hs' hcu hsh
          exact ⟨_,h1,view_shared I.wf V hu' hle hd (σ:=shareL r p) rfl (fun s i=>shareL_under) _,rfl,h3,⟨fun b j r p i h=>(shareL_own h).1,h2.1⟩,h4⟩
        · cases h
      · cases h
    · cases h
  · split at h
    · rename_i hf
      simp only [Option.some.injEq,Prod.mk.injEq] at h
      obtain ⟨rfl,rfl⟩:=h
      exact ⟨L,I,V,hf,.refl _ _,⟨fun _ _ _ _ _ h=>h,fun _ _ _ _ H _=>H⟩,by rw [free_refs hf];intro y uy H;exact H⟩
    · cases h
theorem purges_free {v:PV} (h:v.free=true) (l:List (Nat × List Nat)):purges l v=v:=by
  induction l with
  | nil=>rfl
  | cons q l ih=>simp [purges,ih,free_purge h]
theorem purges_none' (l:List (Nat × List Nat)):purges l .none = .none:=purges_none l
theorem copyL_sound:∀ {cs:List PV} {us:Nat→Value} {l:List (Nat × List Nat)} {L:LM} {e e':Env} {xs:List PV} (I:InvF n m w L a e.get)
    (V:∀ i (hi:i < cs.length),RepV w L Option.none (purges l cs[i]) (us i)) (h:copyL e l cs=some (xs,e')),
    ∃ L' gone,InvF n m w L' a e'.get∧xs.length=cs.length∧(∀ i (hi:i < xs.length),RepV w L' Option.none xs[i] (us i)∧xs[i].free=true)∧Ext w L w L' ∧ (BackA L L' ∧ FlyOk w L w L' n m)∧Later w L L' gone ∧ ∀ q ∈ gone,q ∈ refsL cs
  | [],us,l,L,e,e',xs,I,V,h=>by
    simp only [copyL,Option.some.injEq,Prod.mk.injEq] at h
    obtain ⟨rfl,rfl⟩:=h
    exact ⟨L,[],I,rfl,fun i hi=>by simp at hi,.refl _ _,⟨fun _ _ _ _ _ h=>h,fun _ _ _ _ H _=>H⟩,fun _ _ H=>H,by simp⟩
  | c :: cs, us,l,L,e,e',xs,I,V,h=>by
    simp only [copyL] at h
    split at h
    · rename_i x e1 h1
      split at h
      · rename_i xs1 e2 h2
        simp only [Option.some.injEq,Prod.mk.injEq] at h
        obtain ⟨rfl,rfl⟩:=h
        obtain ⟨L1,I1,H1,hf1,E1,B1,T1⟩:=copy1_sound I (V 0 (by simp)) h1
        obtain ⟨L2,gone,I2,hlen,H2,E2,B2,T2,hg⟩:=copyL_sound (us:=fun i=>us (i + 1)) I1 (fun i hi=>by
          have:=T1 _ _ (V (i + 1) (by simpa using hi))
          rw [purges_append]
          simpa using this) h2
        refine ⟨L2,gone ++ refs (purges l c),I2,by simp [hlen],fun i hi=>?_,E1.trans E2,⟨fun b j r p i h=>B1.1 _ _ _ _ _ (B2.1 _ _ _ _ _ h),fun k y uy hk H hy=>B2.2 k y uy hk (B1.2 k y uy hk H hy) hy⟩,fun y uy H=>by rw [purges_append];exact T2 _ _ (T1 _ _ H),fun q hq=>?_⟩
        · cases i with
          | zero =>
            have:=T2 _ _ H1
            rw [purges_free hf1] at this
            exact ⟨this,hf1⟩
          | succ i=>exact H2 i (by simpa using hi)
        · simp only [List.mem_append] at hq
          simp only [refsL,List.mem_append]
          rcases hq with hq | hq
          · exact .inr (hg q hq)
          · left
            have:∀ (l:List (Nat × List Nat)) (q),q ∈ refs (purges l c)→q ∈ refs c:=by
              intro l
              induction l with
              | nil=>exact fun _ h=>h
              | cons y l ih=>intro q hq;exact ih q (refs_purge1 _ _ _ hq).1
            exact this l q hq
      · cases h
    · cases h
end
end Go.Ab
namespace Go.Ab
open Go
set_option linter.unusedVariables false
set_option linter.unusedSimpArgs false
def isS:XOp→Bool
  | .asg .. | .box .. | .bsl .. | .store .. | .app .. | .ext .. | .call .. | .callv ..=>true
  | _=>false
theorem evS_none {C:Calls'} {e:Env} {d:Option Nat} {x:XOp} (h:isS x=false):evS C e d x=Option.none:=by
  cases x <;> first | (simp [isS] at h;done) | simp [evS]
def NoS (o:Option XOp):Prop:=∀ x,o=some x→isS x=false
theorem NoS.map {α:Type} {o:Option α} {f:α→XOp} (h:∀ y,isS (f y)=false):NoS (o.map f):=fun x e=>by
  simp only [Option.map_eq_some_iff] at e
  obtain ⟨y,_,rfl⟩:=e
  exact h y
theorem NoS.bind {α:Type} {o:Option α} {f:α→Option XOp} (h:∀ y,NoS (f y)):NoS (o.bind f):=fun x e=>by
  simp only [Option.bind_eq_some_iff] at e
  obtain ⟨y,_,e⟩:=e
  exact h y x e
theorem NoS.ite {c:Prop} [Decidable c] {o:Option XOp} (h:NoS o):NoS (if c then o else Option.none):=by
  split
  · exact h
  · exact fun y e=>by cases e
theorem copyL_ne:∀ {cs:List PV} {l:List (Nat × List Nat)} {e e':Env} {ys:List PV},copyL e l cs=some (ys,e') → ∀ c ∈ cs,c ≠ .none ∧ ∀ ds,c ≠ .tup ds
  | [],l,e,e',ys,h=>by simp
  | c :: cs, l,e,e',ys,h=>by
    simp only [copyL] at h
    split at h
    · rename_i x e1 h1
      split at h
      · rename_i xs e2 h2
        intro y hy
        rcases List.mem_cons.1 hy with rfl | hy
        · refine ⟨fun hh=>?_,fun ds hh=>?_⟩
          · rw [hh,purges_none'] at h1;simp [copy1,PV.free] at h1
          · have:∀ l:List (Nat × List Nat),∃ d,purges l (.tup ds) = .tup d:=fun l=>by
              induction l with
              | nil=>exact ⟨ds,rfl⟩
              | cons q l ih=>obtain ⟨d,hd⟩:=ih;exact ⟨_,by simp only [purges,hd,purge1];rfl⟩
            obtain ⟨d,hd⟩:=this l
            rw [hh,hd] at h1;simp [copy1,PV.free] at h1
        · exact copyL_ne h2 y hy
      · cases h
    · cases h
theorem takeL_frees (e:Env):∀ (cs:List PV),(∀ c ∈ cs,c.free=true)→takeL e [] cs=some (cs,e)
  | [],_=>rfl
  | c :: cs,h=>by
    have h1:take1 e c=some (c,e):=by
      have:=h c (by simp)
      cases c <;> first | rfl | (simp [PV.free] at this;done)
    have h2:refs c=[]:=free_refs (h c (by simp))
    simp only [takeL,purges,h1,h2,List.append_nil,takeL_frees e cs fun c hc=>h c (by simp [hc])]
section
variable {P:Program} {n:Nat} {w:World} {L:LM} {a:Act} {e:Env} {o:Oper} {Q:Exit→Act→World→Prop}
theorem StepOk.row1c (I:InvF n 0 w L a e.get) {d:Nat} (hd:d < n) (ho:o.dst=some d) {t et:TypeId} {x:Operand} {x':XO} {z:List PV} {sz:Nat} (hop:o.op = .buildSlice t 1 #[(0,x)]) (hx:trO x=some x') (ht:sliceP P t=some et) (hz:zeroP P et=some z)
    (hsz:szP P et=some sz) (hz0:0 < sz) (hzl:z.length=sz) (hle:sz ≤ 2 ^ 24) {ys:List PV} {e':Env}
    (hc:(cells (look e x')).length=sz) (h:copyL e [] (cells (look e x'))=some (ys,e')):StepOk P n o a w L (e'.setD d (.own sz 1 (ys.map norm1))) Q:=by
  have V:=I.look hx Option.none
  have hne:=copyL_ne h
  have hnt:∀ cs,lookG e.get x' ≠ .tup cs:=fun cs hh=>by
    have:=hne (.tup cs) (by simp [look,hh,cells])
    exact this.2 cs rfl
  obtain ⟨hvs,hrep⟩:=cells_rep V (fun c hc=>(hne c hc).1) hnt
  obtain ⟨L0,gone,I0,hlen0,H0,E0,_,_,_⟩:=copyL_sound (us:=fun i=>(a.eval x).cells.getD i undef) (l:=[]) I (fun i hi=>hrep i hi) h
  obtain ⟨L1,I1,hlen,H1,_,E1⟩:=takeL_sound (cs:=ys.map norm1) (xs:=ys.map norm1) (us:=(a.eval x).cells.toList) I0 (by simp only [List.length_map,hlen0,Array.length_toList];exact hvs) (fun i hi hi'=>by
    have hi2:i < (a.eval x).cells.size:=by simpa using hi'
    have hi3:i < ys.length:=by simpa using hi
    have h1:=(H0 i hi3).1
    have e1:(a.eval x).cells.getD i undef=(a.eval x).cells.toList[i]:=by simp [Array.getD,hi2]
    rw [e1] at h1
    simp only [List.getElem_map,purges]
    exact norm1_rep h1) (takeL_frees e' _ fun c hc=>by
      obtain ⟨c',hc',rfl⟩:=List.mem_map.1 hc
      obtain ⟨i,hi,rfl⟩:=List.getElem_of_mem hc'
      exact norm1_free (H0 i hi).2)
  have hl2:(ys.map norm1).length=(cells (look e x')).length:=by simp only [List.length_map,hlen0];rfl
  rw [hl2] at I1
  exact StepOk.row0 I hd ho hop hx ht hz hsz hz0 hzl hle hc hvs hl2 I1 H1 (E0.trans E1)
end
section
variable {P:Program} {n:Nat} {w:World} {L:LM} {a:Act} {e:Env} {o:Oper} {Q:Exit→Act→World→Prop}
theorem StepOk.pure (I:InvF n 0 w L a e.get) {d:Nat} (hd:d < n) {v:PV} (h:PureOk P o a w L d v Q):StepOk P n o a w L (e.setD d v) Q:=by
  unfold PureOk at h
  refine Oper.wp_mono (fun a' w' hh=>?_) h
  obtain ⟨u,L',rfl,G,hrep,hlab⟩:=hh
  refine ⟨L',?_,(Ext.relabel w L rfl rfl).trans G.ext⟩
  refine ((I.drop d).put hd G hrep fun b j r p i h=>?_).congr fun t=>?_
  · rcases hlab b j with h' | ⟨p',i',h'⟩ | h'
    · rw [h'] at h;exact I.roots (dropL_own h).1
    · rw [h'] at h;simp only [Lab.own.injEq] at h;omega
    · rw [h'] at h;cases h
  · rw [get_setD];by_cases h:t=d <;> simp [h]
theorem StepOk.asg (I:InvF n 0 w L a e.get) {d:Nat} (hd:d < n) (ho:o.dst=some d) {x:Operand} {x':XO} (hop:o.op = .assign x) (hx:trO x=some x') {C:Calls'} {e':Env} (h:evS C e (some d) (.asg x')=some e') :
    StepOk P n o a w L e' Q:=by
  have hr:(execOp a.eval o).run P w = .ok (.value (a.eval x)) w:=by simp [execOp,hop]
  have V:RepV w L Option.none (look e x') (a.eval x):=I.look hx Option.none
  have VA:ValAt P o a w L (look e x'):=ok_mv I.toInv (.inr hop) hx
  simp only [evS] at h
  split at h
  · rename_i cs e0
    simp only [Option.map_eq_some_iff] at h
    obtain ⟨⟨ys,e1⟩,h1,rfl⟩:=h
    rw [e0] at V
    generalize hu:a.eval x=u at V hr
    cases V with
    | agg _ _ us hz hc=>exact StepOk.takeL I hd ho hr (.agg _ _ _ hz hc) h1
  · rename_i r p off len z e0
    rw [e0] at V
    split at h
    · rename_i hrd
      obtain ⟨rfl,rfl⟩:=hrd
      split at h
      · rename_i sz n0 cs hg
        split at h
        · cases h
        · rename_i hz
          have hz:z=sz:=by
            apply Classical.byContradiction;exact hz
          subst hz
          split at h
          · rename_i h0
            obtain ⟨rfl,h0⟩:=h0
            obtain rfl:=Option.some.inj h
            exact StepOk.cut I ho hr V hg h0
          · split at h
            · rename_i hle
              simp only [Option.map_eq_some_iff] at h
              obtain ⟨ds,hds,rfl⟩:=h
              exact StepOk.cutShared I ho hr V hg hle hds
            · cases h
      · cases h
    · simp only [Option.map_eq_some_iff] at h
      obtain ⟨⟨v,e1⟩,h1,rfl⟩:=h
      exact StepOk.take1 I hd ho hr V h1
  · rename_i r p i m e0
    rw [e0] at V VA
    split at h
    · simp only [Option.map_eq_some_iff] at h
      obtain ⟨⟨v,e1⟩,h1,rfl⟩:=h
      exact StepOk.take1 I hd ho hr V h1
    · split at h
      · cases h
      · rename_i hrd
        obtain rfl:=Option.some.inj h
        have:=StepOk.val (Q:=Q) I hd ho VA
        rw [show purge1 (und d []) (.ref r p i m) = .ref r p i m by simp [purge1,und,hrd]] at this
        exact this
  · rename_i f cs e0
    rw [e0] at VA
    obtain rfl:=Option.some.inj h
    exact StepOk.val I hd ho VA
  · rename_i cs e0
    rw [e0] at VA
    obtain rfl:=Option.some.inj h
    exact StepOk.val (Q:=Q) I hd ho VA
  · simp only [Option.map_eq_some_iff] at h
    obtain ⟨⟨v,e1⟩,h1,rfl⟩:=h
    exact StepOk.take1 I hd ho hr V h1
theorem trParts_one {place:Nat→Option (Nat × Nat)} {l:List (Nat × Operand)} {off s:Nat} {x':XO} (h:trParts place l=some [(off,s,x')]):∃ i x,l=[(i,x)]∧place i=some (off,s)∧trO x=some x':=by
  cases l with
  | nil=>simp [trParts] at h
  | cons q l =>
    obtain ⟨i,x⟩:=q
    simp only [trParts,Option.bind_eq_some_iff,Option.map_eq_some_iff] at h
    obtain ⟨⟨o1,s1⟩,h1,y,h2,l',h3,h4⟩:=h
    simp only [List.cons.injEq,Prod.mk.injEq] at h4
    obtain ⟨⟨rfl,rfl,rfl⟩,rfl⟩:=h4
    cases l with
    | nil=>exact ⟨i,x,rfl,h1,h2⟩
    | cons q l =>
      obtain ⟨i2,x2⟩:=q
      simp only [trParts,Option.bind_eq_some_iff,Option.map_eq_some_iff] at h3
      obtain ⟨_,_,_,_,_,_,h5⟩:=h3
      cases h5
theorem evS_val (I : InvF n 0 w L a e.get) (C:Calls') {x:XOp} (ht:trOp P o.op=some x) (hc:isCall x=false) (hd:∀ d,o.dst=some d→d < n) (hst:∀ s a v,x = .store s a v→o.dst=Option.none) {e':Env} (h:evS C e o.dst x=some e'):StepOk P n o a w L e' Q:=by
  cases hop:o.op <;> rw [hop] at ht <;> simp only [trOp] at ht
  case assign y =>
    simp only [Option.map_eq_some_iff] at ht
    obtain ⟨y',hy,rfl⟩:=ht
    cases ho:o.dst with
    | none=>rw [ho] at h;simp [evS] at h
    | some d=>rw [ho] at h;exact StepOk.asg I (hd d ho) ho hop hy h
  case box t y =>
    simp only [Option.map_eq_some_iff] at ht
    obtain ⟨y',hy,rfl⟩:=ht
    cases ho:o.dst with
    | none=>rw [ho] at h;simp [evS] at h
    | some d =>
      rw [ho] at h
      simp only [evS,Option.map_eq_some_iff] at h
      obtain ⟨⟨ys,e1⟩,h1,rfl⟩:=h
      exact StepOk.boxed I (hd d ho) ho hop hy h1
  case buildSlice t len parts =>
    simp only [Option.bind_eq_some_iff] at ht
    obtain ⟨et,het,z,hz,sz,hsz,ht⟩:=ht
    split at ht
    · rename_i hcond
      simp only [Option.map_eq_some_iff] at ht
      obtain ⟨ps,hps,rfl⟩:=ht
      cases ho:o.dst with
      | none=>rw [ho] at h;simp [evS] at h
      | some d =>
        rw [ho] at h
        simp only [evS] at h
        split at h
        · rename_i off s' x'
          split at h
          · rename_i hcc
            obtain ⟨rfl,rfl,rfl,hcc⟩:=hcc
            simp only [Option.map_eq_some_iff] at h
            obtain ⟨⟨ys,e1⟩,h1,rfl⟩:=h
            obtain ⟨i,y,hl,hpl,hy⟩:=trParts_one hps
            simp only [Option.some.injEq,Prod.mk.injEq] at hpl
            have hi:i=0:=by
              rcases Nat.mul_eq_zero.1 hpl.1 with h | h
              · exact h
              · omega
            subst hi
            have hparts:parts = #[(0,y)]:=by rw [← Array.toList_inj];simpa using hl
            unfold packL at h1
            split at h1
            · rename_i ys0 e0 h0
              simp only [Option.some.injEq,Prod.mk.injEq] at h1
              obtain ⟨rfl,rfl⟩:=h1
              exact StepOk.row1c I (hd d ho) ho (by rw [hop,hparts]) hy het hz hsz hcond.1 hcond.2.1 (by omega) hcc h0
            · exact StepOk.row1 I (hd d ho) ho (by rw [hop,hparts]) hy het hz hsz hcond.1 hcond.2.1 (by omega) hcc h1
          · cases h
        · cases h
    · cases ht
  case store t y z =>
    simp only [Option.bind_eq_some_iff,Option.map_eq_some_iff] at ht
    obtain ⟨sz,hsz,y',hy,z',hz,rfl⟩:=ht
    have ho:=hst _ _ _ rfl
    simp only [evS] at h
    split at h
    · rename_i r p i m e0
      split at h
      · rename_i ys e1 h1
        split at h
        · rename_i cs hcs
          split at h
          · rename_i hcond
            obtain ⟨c1,c2,c3,c4⟩:=hcond
            obtain rfl:=Option.some.inj h
            exact StepOk.store I ho hop hy hz hsz e0 h1 hcs c1 c2 c3 c4
          · cases h
        · cases h
      · cases h
    · cases h
  case extract y i =>
    simp only [Option.map_eq_some_iff] at ht
    obtain ⟨y',hy,rfl⟩:=ht
    cases ho:o.dst with
    | none=>rw [ho] at h;simp [evS] at h
    | some d =>
      rw [ho] at h
      simp only [evS] at h
      split at h
      · rename_i s
        cases y with
        | tmp s' =>
          simp only [trO,Option.some.injEq,XO.t.injEq] at hy
          subst hy
          split at h
          · rename_i vs hvs
            split at h
            · rename_i v hv
              split at h
              · rename_i hcond
                obtain ⟨c0,c1,c2⟩:=hcond
                obtain rfl:=Option.some.inj h
                exact StepOk.ext I (hd d ho) ho hop hvs hv (by rintro rfl;simp [PV.isNone] at c2) c1
              · cases h
            · cases h
          · cases h
        | const v=>simp only [trO,Option.map_eq_some_iff] at hy;obtain ⟨_,_,hy⟩:=hy;cases hy
        | func f=>simp [trO] at hy
        | global g=>simp [trO] at hy
      · cases h
  case call c =>
    simp only [trCall] at ht
    split at ht
    · split at ht
      · simp only [Option.map_eq_some_iff] at ht
        obtain ⟨y,_,rfl⟩:=ht
        simp [evS] at h
      · simp only [Option.map_eq_some_iff] at ht
        obtain ⟨y,_,rfl⟩:=ht
        simp [evS] at h
      · obtain rfl:=Option.some.inj ht;simp [evS] at h
      · cases ht
    · rename_i s x t t' hcal hargs htys
      split at ht
      · rename_i htt
        subst htt
        have ha:c.args = #[s,x]:=by rw [← Array.toList_inj];simpa using hargs
        have hty:c.argTypes = #[t,t]:=by rw [← Array.toList_inj];simpa using htys
        have hcc:c = { callee:=.builtin .append,args:=#[s,x],argTypes:=#[t,t] }:=by
          cases c;simp_all
        simp only [Option.bind_eq_some_iff] at ht
        obtain ⟨et,het,z,hz,sz,hsz,i,hi,ht⟩:=ht
        split at ht
        · rename_i hcond
          simp only [Option.bind_eq_some_iff,Option.map_eq_some_iff] at ht
          obtain ⟨s',hs,x',hx,rfl⟩:=ht
          cases ho:o.dst with
          | none=>rw [ho] at h;simp [evS] at h
          | some d =>
            rw [ho] at h
            simp only [evS] at h
            split at h
            · rename_i r p off len z0 e0
              split at h
              · rename_i sz' n0 cs hsub
                split at h
                · rename_i m new hnew
                  split at h
                  · rename_i hh
                    obtain ⟨rfl,rfl,rfl,c1,c2,c3,c4,c5,c6,c7,c8,c9⟩:=hh
                    obtain rfl:=Option.some.inj h
                    exact StepOk.app I (hd d ho) ho (at_:=#[]) (by rw [hop,hcc]) hs hx (sliceP_some het) hz hsz hcond.1 hcond.2 (by simp [hi]) e0 hsub hnew c2 c3 c4 c5 c6 c8
                  · cases h
                · cases h
              · cases h
            · cases h
        · cases ht
      · cases ht
    · simp only [Option.bind_eq_some_iff,Option.map_eq_some_iff] at ht
      obtain ⟨_,_,_,_,rfl⟩:=ht;simp [evS] at h
    · simp only [Option.bind_eq_some_iff,Option.map_eq_some_iff] at ht
      obtain ⟨_,_,_,_,rfl⟩:=ht;simp [evS] at h
    · simp only [Option.map_eq_some_iff] at ht
      obtain ⟨as,_,rfl⟩:=ht
      simp [isCall] at hc
    · simp only [Option.map_eq_some_iff] at ht
      obtain ⟨as,_,rfl⟩:=ht
      simp [isCall] at hc
    · cases ht
  case convert s d y =>
    split at ht
    · simp only [Option.map_eq_some_iff] at ht
      obtain ⟨y',_,rfl⟩:=ht;simp [evS] at h
    · simp only [Option.bind_eq_some_iff,Option.map_eq_some_iff] at ht
      obtain ⟨_,_,_,_,_,_,rfl⟩:=ht;simp [evS] at h
  case makeFunc fn fi cs =>
    split at ht
    · simp only [Option.map_eq_some_iff] at ht
      obtain ⟨y',_,rfl⟩:=ht;simp [evS] at h
    · cases ht
  case binOp op xt y z yt =>
    simp only [Option.bind_eq_some_iff] at ht
    obtain ⟨y',hy,z',hz,ht⟩:=ht
    have : ∀ q,trBin P op xt y' z' = some q→evS C e o.dst q=Option.none:=by
      intro q hq
      cases op <;> simp only [trBin] at hq <;> first
        | (obtain rfl:=Option.some.inj hq;simp [evS];done)
        | (split at hq <;> first
            | (obtain rfl:=Option.some.inj hq;simp [evS];done)
            | (simp only [Option.map_eq_some_iff] at hq;obtain ⟨_,_,rfl⟩:=hq;simp [evS]))
    rw [this x ht] at h;cases h
  case slice t y lo hi mx =>
    cases mx with
    | some _=>simp [trOp] at ht
    | none =>
      simp only [trOp] at ht
      split at ht
      · simp only [Option.bind_eq_some_iff,Option.map_eq_some_iff] at ht
        obtain ⟨_,_,_,_,_,_,rfl⟩:=ht;simp [evS] at h
      · simp only [Option.bind_eq_some_iff] at ht
        obtain ⟨_,_,ht⟩:=ht
        split at ht
        · simp only [Option.bind_eq_some_iff,Option.map_eq_some_iff] at ht
          obtain ⟨_,_,_,_,_,_,rfl⟩:=ht;simp [evS] at h
        · cases ht
      · cases ht
  all_goals first
    | (cases ht;done)
    | (rw [evS_none (NoS.map (fun _=>rfl) x ht)] at h;cases h;done)
    | (rw [evS_none (NoS.bind (fun _=>.map fun _=>rfl) x ht)] at h;cases h;done)
    | (rw [evS_none (NoS.bind (fun _=>.bind fun _=>.map fun _=>rfl) x ht)] at h;cases h;done)
    | (rw [evS_none (NoS.bind (fun _=>.bind fun _=>.bind fun _=>.map fun _=>rfl) x ht)] at h;cases h;done)
    | (rw [evS_none (NoS.bind (fun _=>.bind fun _=>.ite (.map fun _=>rfl)) x ht)] at h;cases h;done)
    | (rw [evS_none (NoS.bind (fun _=>.bind fun _=>.bind fun _=>.bind fun _=>.ite (.bind fun _=>.map fun _=>rfl)) x ht)] at h;cases h;done)
    | (split at ht <;> first
        | (cases ht;done)
        | (rw [evS_none (NoS.bind (fun _=>.map fun _=>rfl) x ht)] at h;cases h;done)
        | (rw [evS_none (NoS.bind (fun _=>.bind fun _=>.map fun _=>rfl) x ht)] at h;cases h;done)
        | (rw [evS_none (NoS.bind (fun _=>.bind fun _=>.bind fun _=>.map fun _=>rfl) x ht)] at h;cases h;done)
        | (rw [evS_none (NoS.bind (fun _=>.ite (.bind fun _=>.map fun _=>rfl)) x ht)] at h;cases h;done)
        | (rw [evS_none (NoS.bind (fun _=>.bind fun _=>.bind fun _=>.bind fun _=>.map fun _=>rfl) x ht)] at h;cases h;done))
end
end Go.Ab
namespace Go.Ab
open Go
set_option linter.unusedVariables false
set_option linter.unusedSimpArgs false
section
variable {P:Program} {n m:Nat} {w w':World} {L:LM} {a:Act} {e:Env} {o:Oper} {Q:Exit→Act→World→Prop}
def ArgOk (w:World) (L0 L:LM) (x:PV) (u:Value):Prop :=
  (RepV w L Option.none x u∧refs x=[]) ∨ ∃ r p i k,x = .ref r p i k∧RepV w L0 Option.none (.ref r p i k) u
theorem RepV.refBack {L L':LM} (B:BackA L L') {h:Hd} {r:Nat} {p:List Nat} {i k:Nat} {u:Value} (H:RepV w L' h (.ref r p i k) u):RepV w L h (.ref r p i k) u:=by
  cases H with
  | ref _ _ _ _ _ b j hp hl=>exact .ref _ _ _ _ _ _ _ hp fun q hq=>B _ _ _ _ _ (hl q hq)
theorem passL_sound : ∀ {cs:List PV} {us:Nat→Value} {l:List (Nat × List Nat)} {L:LM} {e e':Env} {xs:List PV} (I:InvF n m w L a e.get)
    (V:∀ i (hi:i < cs.length),RepV w L Option.none (purges l cs[i]) (us i)) (h:passL e l cs=some (xs,e')),
    ∃ L',InvF n m w L' a e'.get∧xs.length=cs.length∧(∀ i (hi:i < xs.length),ArgOk w L L' xs[i] (us i))∧Ext w L w L' ∧ BackA L L' ∧ ∀ v u,refs v=[]→RepV w L Option.none v u→RepV w L' Option.none v u
  | [],us,l,L,e,e',xs,I,V,h=>by
    simp only [passL,Option.some.injEq,Prod.mk.injEq] at h
    obtain ⟨rfl,rfl⟩:=h
    exact ⟨L,I,rfl,fun i hi=>by simp at hi,.refl _ _,fun _ _ _ _ _ h=>h,fun _ _ _ H=>H⟩
  | c :: cs, us, l, L,e,e',xs,I,V,h=>by
    simp only [passL] at h
    split at h
    · rename_i x e1 h1
      split at h
      · rename_i xs1 e2 h2
        simp only [Option.some.injEq,Prod.mk.injEq] at h
        obtain ⟨rfl,rfl⟩:=h
        have V0:=V 0 (by simp)
        simp only [List.getElem_cons_zero] at V0
        obtain ⟨L1, I1,A1,E1,B1,T1⟩:∃ L1,InvF n m w L1 a e1.get∧ArgOk w L L1 x (us 0)∧Ext w L w L1∧BackA L L1∧Later w L L1 (waysOf (purges l c)):=by
          generalize hc:purges l c=pc at h1 V0
          generalize us 0=u0 at V0
          unfold pass1 at h1
          split at h1
          · rename_i ds
            simp only [Option.map_eq_some_iff] at h1
            obtain ⟨⟨ys,e3⟩,h3,h4⟩:=h1
            simp only [Prod.mk.injEq] at h4
            obtain ⟨rfl,rfl⟩:=h4
            cases V0 with
            | agg _ _ vs hz hcs =>
              obtain ⟨L1,gone,I1,hlen,H1,E1,B1,T1,hg⟩:=copyL_sound (us:=fun i=>vs.getD i undef) (l:=[]) I (fun i hi=>hcs i hi) h3
              refine ⟨L1,I1,.inl ⟨.agg _ _ _ (by omega) fun i hi=>(H1 i hi).1,refsL_free fun i hi=>(H1 i hi).2⟩,E1,B1.1,?_⟩
              intro y uy Hy
              have:=T1 _ _ Hy
              simp only [waysOf,refs]
              have more:∀ (l1 l2:List (Nat × List Nat)) (y:PV) (uy:Value),(∀ q ∈ l1,q ∈ l2)→RepV w L1 Option.none (purges l1 y) uy→RepV w L1 Option.none (purges l2 y) uy:=by
                intro l1 l2 y uy hsub H
                have H2:=H.purge (hitsAny l2)
                rw [purges_any,purge1_purge1] at H2
                rw [purges_any]
                have:(fun r p=>hitsAny l2 r p || hitsAny l1 r p)=hitsAny l2:=by
                  funext r p
                  cases h1:hitsAny l1 r p
                  · simp
                  · simp only [Bool.or_true]
                    simp only [hitsAny,List.any_eq_true] at h1 ⊢
                    obtain ⟨q,hq,hq2⟩:=h1
                    exact (List.any_eq_true.2 ⟨q,hsub q hq,hq2⟩).symm
                rw [this] at H2
                exact H2
              exact more _ _ _ _ hg this
          · rename_i f ds
            split at h1
            · rename_i hall
              simp only [Option.some.injEq,Prod.mk.injEq] at h1
              obtain ⟨rfl,rfl⟩:=h1
              have hr:refs (.fn f ds)=[]:=refsL_free fun i hi=>by simpa using (List.all_eq_true.1 hall) _ (List.getElem_mem hi)
              exact ⟨L,I,.inl ⟨V0,hr⟩,.refl _ _,fun _ _ _ _ _ h=>h,by simp only [waysOf,hr];intro y uy H;exact H⟩
            · cases h1
          · rename_i r p i k
            simp only [Option.some.injEq,Prod.mk.injEq] at h1
            obtain ⟨rfl,rfl⟩:=h1
            exact ⟨L,I,.inr ⟨_,_,_,_,rfl,V0⟩,.refl _ _,fun _ _ _ _ _ h=>h,fun _ _ H=>H⟩
          · obtain ⟨L1,I1,H1,hf1,E1,B1,T1⟩:=copy1_sound I V0 h1
            refine ⟨L1,I1,.inl ⟨H1,free_refs hf1⟩,E1,B1.1,?_⟩
            have:waysOf pc=refs pc:=by cases pc <;> first | rfl | (rename_i hx;exact absurd rfl (hx _ _ _ _))
            rw [this];exact T1
        obtain ⟨L2,I2,hlen,H2,E2,B2,F2⟩:=passL_sound (us:=fun i=>us (i + 1)) I1 (fun i hi=>by
          have:=T1 _ _ (V (i + 1) (by simpa using hi))
          rw [purges_append]
          simpa using this) h2
        have F1:∀ v u,refs v=[]→RepV w L Option.none v u→RepV w L1 Option.none v u:=fun v u hv H=>by
          have:=T1 _ _ H
          have e1:∀ l,purges l v=v:=fun l=>by
            induction l with
            | nil=>rfl
            | cons q l ih=>simp [purges,ih,purge1_id _ _ hv]
          rwa [e1] at this
        refine ⟨L2,I2,by simp [hlen],fun i hi=>?_,E1.trans E2,fun b j r p i h=>B1 _ _ _ _ _ (B2 _ _ _ _ _ h),fun v u hv H=>F2 v u hv (F1 v u hv H)⟩
        cases i with
        | zero =>
          rcases A1 with ⟨h3,h4⟩ | h3
          · exact .inl ⟨F2 _ _ h4 h3,h4⟩
          · exact .inr h3
        | succ i =>
          rcases H2 i (by simpa using hi) with h3 | ⟨r,p,j,k,h3,h4⟩
          · exact .inl h3
          · exact .inr ⟨r,p,j,k,h3,h4.refBack B1⟩
      · cases h
    · cases h
end
end Go.Ab
namespace Go.Ab
open Go
set_option linter.unusedVariables false
set_option linter.unusedSimpArgs false
abbrev Mv:=Option (Nat × Nat × List Nat × Option Nat)
def inB (B:Option Nat) (s:List Nat) (i:Nat):Bool :=
  match B,s with
  | some b,[]=>decide (i < b)
  | _,_=>true
def callL (mv:Mv):Lab→Lab
  | .own q' s i=>match mv with
    | some (k,q,p,B)=>if q' = q∧p.isPrefixOf s=true∧inB B (s.drop p.length) i=true then .own 0 (k :: s.drop p.length) i else .out
    | Option.none=>.out
  | l=>l
def kept (mv:Mv):Lab→Bool
  | .own q' s i=>match mv with
    | some (_,q,p,B)=>!(q' == q && (p.isPrefixOf s && inB B (s.drop p.length) i))
    | Option.none=>true
  | _=>false
def homeL (n:Nat) (mv:Mv):Lab→Lab
  | .own _ (j :: s) i=>if j=0 then .own n (0 :: s) i else (match mv with
    | some (k,q,p,B)=>if j=k + 1∧inB B s i=true then .own q (p ++ s) i else .out
    | Option.none=>.out)
  | .own _ [] _=>.out
  | l=>l
def postL (n:Nat) (mv:Mv) (L L':LM):LM:=fun b j=>if kept mv (L b j)=true then L b j else homeL n mv (L' b j)
theorem callL_kept {mv:Mv} {l:Lab} (h:kept mv l=true):callL mv l = .out:=by
  cases l with
  | out=>simp [kept] at h
  | sh=>simp [kept] at h
  | own q' s i =>
    cases mv with
    | none=>rfl
    | some x =>
      obtain ⟨k,q,p,B⟩:=x
      simp only [kept,Bool.not_eq_true',Bool.and_eq_false_iff,beq_eq_false_iff_ne] at h
      simp only [callL]
      rw [if_neg]
      rintro ⟨h1,h2,h3⟩
      rcases h with h | h | h
      · exact h h1
      · rw [h2] at h;cases h
      · rw [h3] at h;cases h
theorem callL_own {mv:Mv} {l:Lab} {q':Nat} {s':List Nat} {i:Nat} (h:callL mv l = .own q' s' i):∃ k q p B s,mv=some (k,q,p,B)∧l = .own q (p ++ s) i∧inB B s i=true∧q' = 0∧s' = k :: s:=by
  cases l with
  | out=>cases h
  | sh=>cases h
  | own q0 s0 i0 =>
    cases mv with
    | none=>cases h
    | some x =>
      obtain ⟨k,q,p,B⟩:=x
      simp only [callL] at h
      split at h
      · rename_i hh
        obtain ⟨rfl,hp,hb⟩:=hh
        obtain ⟨s,rfl⟩:=List.isPrefixOf_iff_prefix.1 hp
        simp only [List.drop_left,Lab.own.injEq] at h hb
        obtain ⟨rfl,rfl,rfl⟩:=h
        exact ⟨k,q0,p,B,s,rfl,rfl,hb,rfl,rfl⟩
      · cases h
theorem homeL_own {n:Nat} {mv:Mv} {l:Lab} {q':Nat} {s':List Nat} {i:Nat} (h:homeL n mv l = .own q' s' i) :
    (∃ q0 s,l = .own q0 (0 :: s) i∧q' = n∧s' = 0 :: s) ∨ (∃ k q p B q0 s,mv=some (k,q,p,B)∧l = .own q0 ((k + 1) :: s) i∧inB B s i=true∧q' = q∧s' = p ++ s):=by
  cases l with
  | out=>cases h
  | sh=>cases h
  | own q0 s0 i0 =>
    cases s0 with
    | nil=>cases h
    | cons j s =>
      simp only [homeL] at h
      split at h
      · rename_i hj;subst hj
        simp only [Lab.own.injEq] at h
        obtain ⟨rfl,rfl,rfl⟩:=h
        exact .inl ⟨_,_,rfl,rfl,rfl⟩
      · cases mv with
        | none=>cases h
        | some x =>
          obtain ⟨k,q,p,B⟩:=x
          simp only at h
          split at h
          · rename_i hj
            obtain ⟨rfl,hb⟩:=hj
            simp only [Lab.own.injEq] at h
            obtain ⟨rfl,rfl,rfl⟩:=h
            exact .inr ⟨k,q,p,B,q0,s,rfl,rfl,hb,rfl,rfl⟩
          · cases h
theorem not_kept_under {mv:Mv} {k q:Nat} {p s:List Nat} {B:Option Nat} {i:Nat} (h:mv=some (k,q,p,B)) (hb:inB B s i=true):kept mv (.own q (p ++ s) i)=false:=by
  subst h;simp [kept,hb]
theorem kept_of {mv:Mv} {q:Nat} {s:List Nat} {i:Nat} (h:∀ k q0 p B,mv=some (k,q0,p,B) → ¬ Under q0 p (.own q s i)):kept mv (.own q s i)=true:=by
  cases mv with
  | none=>rfl
  | some x =>
    obtain ⟨k,q0,p,B⟩:=x
    have:=h k q0 p B rfl
    rw [under_iff] at this
    simp only [kept,Bool.not_eq_true',Bool.and_eq_false_iff,beq_eq_false_iff_ne]
    by_cases hq:q=q0
    · right;left
      cases hp:p.isPrefixOf s
      · rfl
      · exact absurd ⟨hq,hp⟩ this
    · exact .inl hq
section
variable {P:Program} {n m:Nat} {w w':World} {L L':LM} {a:Act} {e:Env} {o:Oper} {Q:Exit→Act→World→Prop} {mv:Mv}
theorem WF.handed (W:WF w L) (mv:Mv):WF w (fun b j=>callL mv (L b j)) where
  inj b j b' j' r p i e e':=by
    obtain ⟨k,q,p1,B,s,hm,h1,_,h2,h3⟩:=callL_own e
    obtain ⟨k',q',p1',B',s',hm',h1',_,h2',h3'⟩:=callL_own e'
    rw [hm] at hm'
    simp only [Option.some.injEq,Prod.mk.injEq] at hm'
    obtain ⟨rfl,rfl,rfl,rfl⟩:=hm'
    rw [h3] at h3'
    simp only [List.cons.injEq,true_and] at h3'
    subst h3'
    exact W.inj _ _ _ _ _ _ _ h1 h1'
  ex b j h:=W.ex b j fun e=>h (by simp [e,callL])
  thaw b j r p i e:=by
    obtain ⟨_,_,_,_,_,_,h1,_⟩:=callL_own e
    exact W.thaw _ _ _ _ _ h1
theorem kept_os {b j:Nat} (h:kept mv (L b j)=true):callL mv (L b j) = .out ∨ callL mv (L b j) = .sh:=.inl (callL_kept h)
theorem kept_ne {l:Lab} (h:kept mv l=true):l ≠ .out:=by rintro rfl;simp [kept] at h
theorem postL_sh (W:WF w L) (E:Ext w (fun b j=>callL mv (L b j)) w' L') {b j:Nat} (h:L b j = .sh):postL n mv L L' b j = .sh:=by
  have:L' b j=callL mv (L b j):=E.lab b j (W.lt (by rw [h];simp)) (.inr (by rw [h];rfl))
  rw [h] at this
  simp only [postL,h,kept,Bool.false_eq_true,if_false]
  rw [this];rfl
theorem WF.posted (I:InvF n 0 w L a e.get) (hq:∀ k q p B,mv=some (k,q,p,B)→q < n) (W':WF w' L') (E:Ext w (fun b j=>callL mv (L b j)) w' L') (bd:∀ b j q p i,L' b j = .own q p i→q=0):WF w' (postL n mv L L') where
  inj b j b' j' r p i e e':=by
    simp only [postL] at e e'
    have cross:∀ {b j b' j':Nat},kept mv (L b j)=true→L b j = .own r p i→homeL n mv (L' b' j') = .own r p i→False:=by
      intro b j b' j' hk h1 h2
      rcases homeL_own h2 with ⟨q0,s,h3,h4,h5⟩ | ⟨k,q,p1,B,q0,s,hm,h3,hb,h4,h5⟩
      · have:=I.roots h1;omega
      · rw [h1,h4,h5,not_kept_under hm hb] at hk;cases hk
    split at e <;> split at e'
    · exact I.wf.inj _ _ _ _ _ _ _ e e'
    · rename_i h1 h2;exact (cross h1 e e').elim
    · rename_i h1 h2;exact (cross h2 e' e).elim
    · rcases homeL_own e with ⟨q0,s,h3,h4,h5⟩ | ⟨k,q,p1,B,q0,s,hm,h3,hb,h4,h5⟩ <;> rcases homeL_own e' with ⟨q0',s',h3',h4',h5'⟩ | ⟨k',q',p1',B',q0',s',hm',h3',hb',h4',h5'⟩
      · obtain rfl:=bd _ _ _ _ _ h3
        obtain rfl:=bd _ _ _ _ _ h3'
        rw [h5] at h5'
        simp only [List.cons.injEq,true_and] at h5'
        subst h5'
        exact W'.inj _ _ _ _ _ _ _ h3 h3'
      · have:=hq _ _ _ _ hm';omega
      · have:=hq _ _ _ _ hm;omega
      · rw [hm] at hm'
        simp only [Option.some.injEq,Prod.mk.injEq] at hm'
        obtain ⟨rfl,rfl,rfl,rfl⟩:=hm'
        obtain rfl:=bd _ _ _ _ _ h3
        obtain rfl:=bd _ _ _ _ _ h3'
        rw [h5,List.append_cancel_left_eq] at h5'
        subst h5'
        exact W'.inj _ _ _ _ _ _ _ h3 h3'
  ex b j h:=by
    simp only [postL] at h
    split at h
    · rename_i hk
      obtain ⟨v,hv⟩:=I.wf.ex b j h
      exact ⟨v,by rw [E.cell (I.wf.lt h) (kept_os hk)];exact hv⟩
    · exact W'.ex b j fun e=>h (by rw [e];rfl)
  thaw b j r p i h:=by
    simp only [postL] at h
    split at h
    · rw [E.frozen (I.wf.lt (by rw [h];simp))]
      exact I.wf.thaw _ _ _ _ _ h
    · rcases homeL_own h with ⟨q0,s,h3,_⟩ | ⟨_,_,_,_,q0,s,_,h3,_⟩
      · exact W'.thaw _ _ _ _ _ h3
      · exact W'.thaw _ _ _ _ _ h3
theorem Ext.posted (W:WF w L) (E:Ext w (fun b j=>callL mv (L b j)) w' L'):Ext w L w' (postL n mv L L'):=by
  have os:∀ b j,(L b j = .out ∨ L b j = .sh)→callL mv (L b j)=L b j:=fun b j h=>by rcases h with h | h <;> rw [h] <;> rfl
  refine ⟨E.os,E.tape,E.output,E.size,fun b j hb h=>?_,fun b hb=>(E.blk b hb).weaken fun j hj=>by rw [os b j hj];exact hj⟩
  have h2:L' b j=callL mv (L b j):=E.lab b j hb (by rw [os b j h];exact h)
  rw [os b j h] at h2
  simp only [postL]
  rcases h with h | h <;> rw [h] at h2 ⊢ <;> simp [kept,h2,homeL]
theorem RepV.posted (W:WF w L) (E:Ext w (fun b j=>callL mv (L b j)) w' L') {h:Hd} {x:PV} {u:Value} (H:RepV w L h x u)
    (hk:∀ b j,Relv h (L b j)→L b j = .sh ∨ kept mv (L b j)=true) (hr:∀ q ∈ refs x,∀ i,kept mv (.own q.1 q.2 i)=true):RepV w' (postL n mv L L') h x u:=by
  refine H.frame (fun b j hrel=>?_) (fun q hq b j i hl=>?_) fun b j hrel=>?_
  · rcases hk b j hrel with h | h
    · rw [postL_sh W E h,h]
    · simp [postL,h]
  · have:=hr q hq i
    rw [← hl] at this
    simp [postL,this]
  · rcases hk b j hrel with h | h
    · exact E.cell (W.lt (by rw [h];simp)) (.inr (by rw [h];rfl))
    · exact E.cell (W.lt (kept_ne h)) (kept_os h)
theorem RepV.home (W:WF w L) (E:Ext w (fun b j=>callL mv (L b j)) w' L') {pth:List Nat} {x:PV} {u:Value} (H:RepV w' L' (some (0,pth)) x u) (hr:refs x=[]) {h':Hd} (g:Goes (homeL n mv) (some (0,pth)) h'):RepV w' (postL n mv L L') h' x u:=by
  refine (H.move (σ:=homeL n mv) (h':=h') rfl g (by simp [hr])).frame (fun b j hrel=>?_) (by simp [hr]) fun _ _ _=>rfl
  simp only [postL]
  split
  · rename_i hk
    have hlab:L' b j=callL mv (L b j):=E.lab b j (W.lt (kept_ne hk)) (kept_os hk)
    rw [callL_kept hk] at hlab
    rw [hlab] at hrel
    rcases hrel with h | ⟨_,_,_,_,_,h⟩ <;> cases h
  · rfl
theorem posted_bd (I:InvF n 0 w L a e.get) (hq:∀ k q p B,mv=some (k,q,p,B)→q < n):∀ b j r p i,postL n mv L L' b j = .own r p i→r < n ∨ (r=n ∧ ∃ k s,p=k :: s∧k < 1):=by
  intro b j r p i h
  simp only [postL] at h
  split at h
  · exact .inl (I.roots h)
  · rcases homeL_own h with ⟨q0,s,h3,h4,h5⟩ | ⟨k,q,p1,B,q0,s,hm,h3,hb,h4,h5⟩
    · exact .inr ⟨h4,0,s,h5,by omega⟩
    · exact .inl (by rw [h4];exact hq _ _ _ _ hm)
theorem InvF.called_none (I:InvF n 0 w L a e.get) (W':WF w' L') (E:Ext w (fun b j=>callL Option.none (L b j)) w' L') (bd:∀ b j q p i,L' b j = .own q p i→q=0):InvF n 1 w' (postL n Option.none L L') a e.get :=
  ⟨⟨WF.posted I (by simp) W' E bd,fun t=>RepV.posted I.wf E (I.rep t) (fun b j hr=>by
    rcases hr with h | ⟨_,_,_,_,_,h⟩
    · exact .inl h
    · exact .inr (by rw [h];rfl)) fun _ _ _=>rfl,I.df,I.sz⟩,posted_bd I (by simp),I.dom,I.nr⟩
theorem InvF.called_back (I:InvF n 0 w L a e.get) {k q:Nat} {p:List Nat} {B:Option Nat} (W':WF w' L') (E:Ext w (fun b j=>callL (some (k,q,p,B)) (L b j)) w' L') (bd:∀ b j q p i,L' b j = .own q p i→q=0) {X Y:PV} {u:Value}
    (hs:Ab.sub (e.get q) p=X) (hX:X ≠ .none) (hYr:refs Y=[]) (hYc:Y.cok=true) (hc:canUpd e q p=true) (hu:RepV w L (some (q,p)) X u)
    (H:∀ u',RepV w L (some (q,p)) X u' → RepV w' (postL n (some (k,q,p,B)) L L') (some (q,p)) Y u') :
    InvF n 1 w' (postL n (some (k,q,p,B)) L L') a ((e.upd q p Y).purge q p).get:=by
  have hne:Ab.sub (e.get q) p ≠ .none:=by rw [hs];exact hX
  have hqn:q < n:=I.lt (sub_ne hne)
  have hq:∀ k' q' p' B',(some (k,q,p,B):Mv)=some (k',q',p',B')→q' < n:=fun k' q' p' B' h=>by
    simp only [Option.some.injEq,Prod.mk.injEq] at h;omega
  have keptU:∀ {r:Nat} {s:List Nat} {i:Nat},¬ Under q p (.own r s i)→kept (some (k,q,p,B)) (.own r s i)=true:=fun hn=>kept_of fun k' q' p' B' h=>by
    simp only [Option.some.injEq,Prod.mk.injEq] at h
    obtain ⟨rfl,rfl,rfl,rfl⟩:=h
    exact hn
  refine ⟨⟨WF.posted I hq W' E bd,fun t=>?_,I.df,I.sz⟩,posted_bd I hq,fun t ht=>?_,fun t x hx=>?_⟩
  · rw [get_purge,get_upd]
    by_cases ht:t=q
    · subst ht
      simp only [if_true]
      refine RepV.purge ?_ _
      refine RepV.repl p (I.rep t) (hasP_of_sub _ _ hne) (fun _=>hYc) (fun u' hu'=>?_) (fun b j hr hn=>?_) (fun b j hr hn=>?_) fun hne=>?_
      · simp only [List.nil_append] at hu' ⊢
        rw [hs] at hu'
        exact H u' hu'
      · rcases hr with h | ⟨r',p',s,i,h1,h2⟩
        · rw [postL_sh I.wf E h,h]
        · simp only [Option.some.injEq,Prod.mk.injEq] at h1
          obtain ⟨rfl,rfl⟩:=h1
          have:=keptU (r:=t) (s:=[] ++ s) (i:=i) (by rw [← h2];simpa using hn)
          rw [← h2] at this
          simp [postL,this]
      · rcases hr with h | ⟨r',p',s,i,h1,h2⟩
        · exact E.cell (I.wf.lt (by rw [h];simp)) (.inr (by rw [h];rfl))
        · simp only [Option.some.injEq,Prod.mk.injEq] at h1
          obtain ⟨rfl,rfl⟩:=h1
          have:=keptU (r:=t) (s:=[] ++ s) (i:=i) (by rw [← h2];simpa using hn)
          rw [← h2] at this
          exact E.cell (I.wf.lt (kept_ne this)) (kept_os this)
      · simp only [canUpd,Bool.or_eq_true,List.isEmpty_iff] at hc
        rcases hc with h | h
        · exact absurd h hne
        · exact h
    · simp only [ht,if_false]
      refine RepV.posted I.wf E ((I.rep t).purge (und q p)) (fun b j hr=>?_) fun x hx i=>?_
      · rcases hr with h | ⟨r',p',s,i,h1,h2⟩
        · exact .inl h
        · simp only [Option.some.injEq,Prod.mk.injEq] at h1
          obtain ⟨rfl,rfl⟩:=h1
          right
          rw [h2]
          exact keptU (by rw [under_iff];rintro ⟨h,_⟩;exact ht h)
      · exact keptU (not_under (refs_purge1 _ _ _ hx).2)
  · rw [get_purge,get_upd,if_neg (by omega),I.dom t ht];rfl
  · rw [get_purge,get_upd] at hx
    obtain ⟨hx,_⟩:=refs_purge1 _ _ _ hx
    split at hx
    · rcases refs_upd p _ _ _ hx with h | h
      · exact I.nr q x h
      · rw [hYr] at h;cases h
    · exact I.nr t x hx
theorem InvF.called_some (I:InvF n 0 w L a e.get) {k q:Nat} {p:List Nat} (W':WF w' L') (E:Ext w (fun b j=>callL (some (k,q,p,Option.none)) (L b j)) w' L') (bd:∀ b j q p i,L' b j = .own q p i→q=0) {cs ds:List PV} {u:Value}
    (hs:Ab.sub (e.get q) p = .box cs) (hcs:0 < cs.length) (hc:canUpd e q p=true) (hu:RepV w L (some (q,p)) (.box cs) u) (H:RepV w' L' (some (0,[1 + k])) (.box ds) u) :
    InvF n 1 w' (postL n (some (k,q,p,Option.none)) L L') a ((e.upd q p (.box ds)).purge q p).get:=by
  refine I.called_back W' E bd hs (by simp) rfl rfl hc hu fun u' hu'=>?_
  have : u' = u:=by
    cases hu with
    | box _ _ _ b o ho _ _ =>
      cases hu' with
      | box _ _ _ b' o' ho' _ _ =>
        obtain ⟨rfl,h2⟩:=I.wf.inj _ _ _ _ _ _ _ (ho 0 hcs) (ho' 0 hcs)
        obtain rfl:o' = o:=by omega
        rfl
  subst this
  exact RepV.home I.wf E H rfl (fun s i=>by simp [homeL,inB,Nat.add_comm 1 k])
theorem InvF.called_row (I:InvF n 0 w L a e.get) {k q:Nat} {p:List Nat} {sz m b cap:Nat} (W':WF w' L') (E:Ext w (fun b j=>callL (some (k,q,p,some (cap * sz))) (L b j)) w' L') (bd:∀ b j q p i,L' b j = .own q p i→q=0) {cs ds:List PV}
    (hs:Ab.sub (e.get q) p = .own sz m cs) (hc:canUpd e q p=true) (hcap:0 < cap * sz) (hl:∀ j,j < cap * sz→L b j = .own q p j) (hm:m ≤ cap)
    (H:RepV w' L' (some (0,[1 + k])) (.own sz m ds) (.slice (some ⟨b,0,Option.none⟩) m cap)) :
    InvF n 1 w' (postL n (some (k,q,p,some (cap * sz))) L L') a ((e.upd q p (.own sz m ds)).purge q p).get:=by
  obtain ⟨u0,hu0⟩:=I.obj (r:=q) (p:=p) (by rw [hs];simp)
  rw [hs] at hu0
  refine I.called_back W' E bd hs (by simp) rfl rfl hc hu0 fun u' hu'=>?_
  cases hu' with
  | own _ _ _ _ _ b' cap' hn' hl' hp' ho' hk' hc' =>
    obtain ⟨rfl,_⟩:=I.wf.inj _ _ _ _ _ _ _ (hl 0 hcap) (ho' 0 hp')
    cases H with
    | own _ _ _ _ _ _ _ hn2 hl2 hp2 ho2 hk2 hc2 =>
      refine .own _ _ _ _ _ _ _ hn2 hl' hp' (fun j hj=>?_) hk2 fun i hi=>?_
      · have h0:=ho' j hj
        by_cases hjb:j < cap * sz
        · have h1:=ho2 j hjb
          have nk:kept (some (k,q,p,some (cap * sz))) (L b' j)=false:=by
            rw [h0]
            have:=not_kept_under (mv:=some (k,q,p,some (cap * sz))) (s:=[]) (i:=j) rfl (by simp [inB,hjb])
            simpa using this
          simp only [postL,nk,Bool.false_eq_true,if_false,h1,homeL]
          rw [if_neg (by omega),if_pos ⟨by omega,by simp [inB,hjb]⟩]
          simp
        · have kk:kept (some (k,q,p,some (cap * sz))) (L b' j)=true:=by
            rw [h0];simp [kept,inB,hjb]
          simp only [postL];rw [if_pos kk];exact h0
      · exact RepV.home I.wf E (by simpa using hc2 i hi) (refs_cok (hk2 i hi)) (fun s i'=>by
          simp only [List.append_assoc,List.cons_append,List.nil_append,homeL]
          rw [if_neg (by omega),if_pos ⟨by omega,by simp [inB]⟩])
theorem InvF.dropFly {g:Nat→PV} (I:InvF n m w L a g):∃ L',InvF n 0 w L' a g∧Ext w L w L':=by
  refine ⟨fun b j=>dropL n [] (L b j),⟨⟨I.wf.drop n [],fun t=>?_,I.df,I.sz⟩,fun b j r p i h=>?_,I.dom,I.nr⟩,Ext.relabel w L rfl rfl⟩
  · rcases Nat.lt_or_ge t n with ht | ht
    · refine (I.rep t).move (σ:=dropL n []) rfl (fun s i=>dropL_of_not (by rw [under_nil];omega)) fun q hq i=>dropL_of_not ?_
      rw [under_nil]
      have:=I.nr t q hq
      omega
    · rw [I.dom t ht];exact .none _ _
  · obtain ⟨h1,h2⟩:=dropL_own h
    rcases I.bd _ _ _ _ _ h1 with h | ⟨h,_⟩
    · exact .inl h
    · exfalso;apply h2;rw [h1,under_nil];exact h
theorem refAt_get:∀ {ws:List PV} {k q:Nat} {p:List Nat} {m:Nat},refAt ws=some (k,q,p,m)→ws[k]? = some (.ref q p 0 m)
  | [],_,_,_,_,h=>by simp [refAt] at h
  | c :: cs,k,q,p,m,h=>by
    unfold refAt at h
    split at h
    · cases h
    · rename_i r p' m' cs' hcs
      simp only [Option.some.injEq,Prod.mk.injEq] at h
      obtain ⟨rfl,rfl,rfl,rfl⟩:=h
      simp only [List.cons.injEq] at hcs
      simp [hcs.1]
    · rename_i c' cs' hx hcs
      simp only [List.cons.injEq] at hcs
      obtain ⟨rfl,rfl⟩:=hcs
      simp only [Option.map_eq_some_iff] at h
      obtain ⟨⟨k',q',p',m'⟩,h1,h2⟩:=h
      simp only [Prod.mk.injEq] at h2
      obtain ⟨rfl,rfl,rfl,rfl⟩:=h2
      simpa using refAt_get h1
end
end Go.Ab
namespace Go.Ab
open Go
set_option linter.unusedVariables false
set_option linter.unusedSimpArgs false
section
variable {P:Program} {n:Nat} {w w':World} {L L':LM} {a:Act} {e:Env} {o:Oper} {Q:Exit→Act→World→Prop} {C:Calls'}
theorem InvF.finish (I:InvF n 1 w L a e.get) {dst:Option Nat} (hd:∀ d,dst=some d→d < n) {r:PV} {v:Value} (H:RepV w L (some (n,[0])) r v) (hr:refs r=[]) :
    ∃ L',InvF n 0 w L' (a.put dst v) (setO e dst r).get∧Ext w L w L':=by
  cases dst with
  | some d=>exact I.land1 (hd d rfl) H hr
  | none=>exact I.dropFly
theorem call_args {as:List XO} {c:Call} (I:InvF n 0 w L a e.get) (hargs:trOs c.args.toList=some as) {ws:List PV} {e1:Env} (h:passL e [] (as.map (look e))=some (ws,e1)) :
    ∃ L1,InvF n 0 w L1 a e1.get∧(c.args.map a.eval).size=ws.length∧(∀ i (hi:i < ws.length),ArgOk w L L1 ws[i] ((c.args.map a.eval).getD i undef))∧Ext w L w L1∧BackA L L1:=by
  obtain ⟨hl1,hl2⟩:=trOs_len hargs
  obtain ⟨L1,I1,hlen,A1,E1,B1,_⟩:=passL_sound (us:=fun i=>(c.args.map a.eval).getD i undef) I (fun i hi=>by
    have hi':i < c.args.size:=by simpa [hl1] using hi
    have:=I.look (hl2 i (by simpa using hi') (by simpa using hi)) Option.none
    simpa [purges,Array.getD,hi',look] using this) h
  exact ⟨L1,I1,by simp [hlen,hl1],A1,E1,B1⟩
theorem ArgOk.free {L0:LM} {x:PV} {u:Value} (H:ArgOk w L0 L x u) (hr:refs x=[]) (mv:Mv) (h':Hd):RepV w (fun b j=>callL mv (L b j)) h' x u:=by
  rcases H with ⟨h,_⟩ | ⟨r,p,i,k,rfl,_⟩
  · exact (h.move (h':=Option.none) (σ:=callL mv) rfl trivial (by simp [hr])).loose (rep_none_noOwn h rfl) h'
  · simp [refs] at hr
theorem rowAt_some {muts:List Nat} {vs:List PV} {k q:Nat} {p:List Nat} {sz m:Nat} {cs:List PV} (h:rowAt e muts vs=some (k,q,p,sz,m,cs)) :
    vs[k]? = some (.view q p 0 m sz)∧Ab.sub (e.get q) p = .own sz m cs:=by
  unfold rowAt at h
  split at h
  · cases h
  · split at h
    · rename_i hv
      split at h
      · rename_i hs
        split at h
        · rename_i hc
          obtain ⟨rfl,rfl,rfl⟩:=hc
          simp only [Option.some.injEq,Prod.mk.injEq] at h
          obtain ⟨rfl,rfl,rfl,rfl,rfl,rfl⟩:=h
          exact ⟨hv,hs⟩
        · cases h
      · cases h
    · cases h
theorem callL_row {k q B j:Nat} {p:List Nat} (h:j < B):callL (some (k,q,p,some B)) (.own q p j) = .own 0 [k] j:=by
  have h1:p.isPrefixOf p=true:=List.isPrefixOf_iff_prefix.2 (List.prefix_refl p)
  simp [callL,h1,inB,h]
theorem callL_cell {k q B i j:Nat} {p s:List Nat}:callL (some (k,q,p,some B)) (.own q ((p ++ [i]) ++ s) j) = .own 0 (([k] ++ [i]) ++ s) j:=by
  have h1:p.isPrefixOf (p ++ ([i] ++ s))=true:=List.isPrefixOf_iff_prefix.2 (List.prefix_append _ _)
  simp only [List.append_assoc,callL,h1,List.drop_left,true_and]
  rw [if_pos (by simp [inB])]
  rfl
theorem StepOk.callRow (hC:CallOk P C) (I:InvF n 0 w L a e.get) {c:Call} {f:Nat} {as:List XO} (hop:o.op = .call c) (hcal:c.callee = .value (.func f)) (hargs:trOs c.args.toList=some as) (hd:∀ d,o.dst=some d→d < n)
    {k q:Nat} {p:List Nat} {sz m:Nat} {cs ds:List PV} {r:PV} {outs:List PV} (hk:(as.map (look e))[k]? = some (.view q p 0 m sz)) (hsub:Ab.sub (e.get q) p = .own sz m cs) (hcu:canUpd e q p=true)
    (hall:((as.map (look e)).set k (.own sz m cs)).all (fun w=>(refs w).isEmpty)=true) (hCr:C f ((as.map (look e)).set k (.own sz m cs))=some (r,outs)) (hout:outs[k]? = some (.own sz m ds)) :
    StepOk P n o a w L (setO ((e.upd q p (.own sz m ds)).purge q p) o.dst r) Q:=by
  obtain ⟨hl1,hl2⟩:=trOs_len hargs
  obtain ⟨_,hcalls⟩:=hC f _ r outs hCr
  obtain ⟨hklt,hkget⟩:=List.getElem?_eq_some_iff.1 hk
  have hsz:(c.args.map a.eval).size=(as.map (look e)).length:=by simp [hl1]
  have A:∀ i (hi:i < (as.map (look e)).length),RepV w L Option.none (as.map (look e))[i] ((c.args.map a.eval).getD i undef):=fun i hi=>by
    have hi':i < c.args.size:=by simpa [hl1] using hi
    have:=I.look (hl2 i (by simpa using hi') (by simpa using hi)) Option.none
    simpa [Array.getD,hi',look] using this
  have hr0:∀ i (hi:i < ((as.map (look e)).set k (.own sz m cs)).length),refs ((as.map (look e)).set k (.own sz m cs))[i]=[]:=fun i hi=>by
    have:=(List.all_eq_true.1 hall) _ (List.getElem_mem hi)
    simpa using this
  obtain ⟨u',hu'⟩:=I.obj (r:=q) (p:=p) (by rw [hsub];simp)
  rw [hsub] at hu'
  have Ak:=A k hklt
  rw [hkget] at Ak
  generalize huk:(c.args.map a.eval).getD k undef=uk at Ak
  cases Ak with
  | view _ _ _ _ _ _ b cap hle hp0 he =>
    simp only [Nat.zero_add] at hp0 he
    cases hu' with
    | own _ _ _ _ _ b' cap' hn' hl' hp' ho' hk' hc' =>
      obtain ⟨rfl,_⟩:=I.wf.inj _ _ _ _ _ _ _ (he 0 hp0) (ho' 0 hp')
      unfold StepOk Oper.wp
      rw [run_call hC hop hcal hCr]
      simp only [Oper.upon]
      refine Calls.mono (hcalls _ w (fun b j=>callL (some (k,q,p,some (cap * sz))) (L b j)) (by simpa using hsz) (I.wf.handed _) (fun b j q' p' i hh=>?_) fun i hi=>⟨?_,hr0 i hi⟩) fun en w'' hen=>?_
      · obtain ⟨k',q1,p1,B1',s,hm',h1,_,h2,h3⟩:=callL_own hh
        simp only [Option.some.injEq,Prod.mk.injEq] at hm'
        obtain ⟨rfl,rfl,rfl,rfl⟩:=hm'
        exact ⟨h2,k,s,h3,by simpa using hklt⟩
      · by_cases hik:i=k
        · subst hik
          rw [List.getElem_set_self,huk]
          refine .own _ _ _ _ _ _ _ hn' hle hp0 (fun j hj=>(congrArg (callL _) (he j hj)).trans (callL_row hj)) hk' fun i' hi'=>?_
          exact (hc' i' hi').move (σ:=callL (some (i,q,p,some (cap * sz)))) (h':=some (0,[i] ++ [i'])) rfl (fun s j=>callL_cell) (by simp [refs_cok (hk' i' hi')])
        · have hi':i < (as.map (look e)).length:=by simpa using hi
          have hset:((as.map (look e)).set k (.own sz m cs))[i]=(as.map (look e))[i]:=by rw [List.getElem_set_ne (Ne.symm hik)]
          have:=hr0 i hi
          rw [hset] at this ⊢
          exact ((A i hi').move (h':=Option.none) (σ:=callL (some (k,q,p,some (cap * sz)))) rfl trivial (fun y hy=>by rw [this] at hy;cases hy)).loose (rep_none_noOwn (A i hi') rfl) _
      · cases en with
        | returned v =>
          obtain ⟨L',W',E,bd,H,hr,houts⟩:=hen
          obtain ⟨holt,hoget⟩:=List.getElem?_eq_some_iff.1 hout
          have ho:=(houts k holt).1
          rw [hoget,huk] at ho
          have I2:=I.called_row W' E (fun b j q p i hh=>(bd b j q p i hh).1) hsub hcu hp0 he hle ho
          obtain ⟨L3,I3,E3⟩:=I2.finish hd (RepV.home (n:=n) I.wf E H hr (h':=some (n,[0])) fun s i=>rfl) hr
          exact ⟨L3,I3,(Ext.posted I.wf E).trans E3⟩
        | panicked=>exact hen.elim
        | outgrown=>exact hen.elim
theorem StepOk.call (hC:CallOk P C) (I:InvF n 0 w L a e.get) {c:Call} {f:Nat} {as:List XO} (hop:o.op = .call c) (hcal:c.callee = .value (.func f)) (hargs:trOs c.args.toList=some as) (hd:∀ d,o.dst=some d→d < n)
    {ms:List Nat} {e':Env} (h:evS C e o.dst (.call f as ms)=some e'):StepOk P n o a w L e' Q:=by
  simp only [evS] at h
  split at h
  · rename_i k q p sz m cs hrow
    obtain ⟨hk,hsub⟩:=rowAt_some hrow
    split at h
    · rename_i hcond
      split at h
      · rename_i r outs hCr
        split at h
        · rename_i sz' m' ds hout
          split at h
          · rename_i hh
            obtain ⟨rfl,rfl⟩:=hh
            obtain rfl:=Option.some.inj h
            exact StepOk.callRow hC I hop hcal hargs hd hk hsub hcond.1 hcond.2 hCr hout
          · cases h
        · cases h
      · cases h
    · cases h
  split at h
  · rename_i ws e1 hp
    obtain ⟨L1,I1,hsz,A1,E1,B1⟩:=call_args I hargs hp
    split at h
    · split at h
      · rename_i hall
        split at h
        · rename_i r outs hCr
          obtain rfl:=Option.some.inj h
          obtain ⟨_,hcalls⟩:=hC f ws r outs hCr
          have hr0:∀ i (hi:i < ws.length),refs ws[i]=[]:=fun i hi=>by
            have:=(List.all_eq_true.1 hall) _ (List.getElem_mem hi)
            simpa using this
          unfold StepOk Oper.wp
          rw [run_call hC hop hcal hCr]
          simp only [Oper.upon]
          refine Calls.mono (hcalls _ w (fun b j=>callL Option.none (L1 b j)) hsz (I1.wf.handed _) (fun b j q p i hh=>by obtain ⟨_,_,_,_,_,hm,_⟩:=callL_own hh;cases hm) fun i hi=>⟨(A1 i hi).free (hr0 i hi) _ _,hr0 i hi⟩) fun en w'' he=>?_
          cases en with
          | returned v =>
            obtain ⟨L',W',E,bd,H,hr,_⟩:=he
            have I2:=I1.called_none W' E fun b j q p i hh=>(bd b j q p i hh).1
            obtain ⟨L3,I3,E3⟩:=I2.finish hd (RepV.home (n:=n) I1.wf E H hr (h':=some (n,[0])) fun s i=>rfl) hr
            exact ⟨L3,I3,E1.trans ((Ext.posted I1.wf E).trans E3)⟩
          | panicked=>exact he.elim
          | outgrown=>exact he.elim
        · cases h
      · cases h
    · rename_i k q p m hra
      split at h
      · rename_i cs hsub
        split at h
        · rename_i hcond
          obtain ⟨hcs,hm,hcu,hall⟩:=hcond
          split at h
          · rename_i r outs hCr
            split at h
            · rename_i ds hout
              obtain rfl:=Option.some.inj h
              obtain ⟨_,hcalls⟩:=hC f _ r outs hCr
              have hsub':Ab.sub (e1.get q) p = .box cs:=hsub
              have hk:=refAt_get hra
              obtain ⟨hklt,hkget⟩:=List.getElem?_eq_some_iff.1 hk
              have hr0:∀ i (hi:i < (ws.set k (.box cs)).length),refs (ws.set k (.box cs))[i]=[]:=fun i hi=>by
                have:=(List.all_eq_true.1 hall) _ (List.getElem_mem hi)
                simpa using this
              obtain ⟨u',hu'⟩:=I1.obj (r:=q) (p:=p) (by rw [hsub'];simp)
              rw [hsub'] at hu'
              have hbox:RepV w L1 (some (q,p)) (.box cs) ((c.args.map a.eval).getD k undef):=by
                have Ak:=A1 k hklt
                rw [hkget] at Ak
                rcases Ak with ⟨_,h1⟩ | ⟨r0,p0,i0,k0,h1,h2⟩
                · simp [refs] at h1
                · simp only [PV.ref.injEq] at h1
                  obtain ⟨rfl,rfl,rfl,rfl⟩:=h1
                  generalize (c.args.map a.eval).getD k undef=uk at h2 ⊢
                  cases h2 with
                  | ref _ _ _ _ _ b j hp0 hl =>
                    cases hu' with
                    | box _ _ _ b' o' ho hkk hcc =>
                      have h3:=hl 0 hm
                      have h4:=B1 _ _ _ _ _ (ho 0 hcs)
                      obtain ⟨rfl,h5⟩:=I.wf.inj _ _ _ _ _ _ _ h3 h4
                      obtain rfl:o' = j:=by omega
                      exact .box _ _ _ _ _ ho hkk hcc
              unfold StepOk Oper.wp
              rw [run_call hC hop hcal hCr]
              simp only [Oper.upon]
              refine Calls.mono (hcalls _ w (fun b j=>callL (some (k,q,p,Option.none)) (L1 b j)) (by simpa using hsz) (I1.wf.handed _) (fun b j q' p' i hh=>?_) fun i hi=>⟨?_,hr0 i hi⟩) fun en w'' he=>?_
              · obtain ⟨k',q1,p1,B1',s,hm',h1,_,h2,h3⟩:=callL_own hh
                simp only [Option.some.injEq,Prod.mk.injEq] at hm'
                obtain ⟨rfl,rfl,rfl,rfl⟩:=hm'
                exact ⟨h2,k,s,h3,by simpa using hklt⟩
              · by_cases hik:i=k
                · subst hik
                  rw [List.getElem_set_self]
                  exact hbox.move (σ:=callL (some (i,q,p,Option.none))) (h':=some (0,[i])) rfl (fun s j=>by simp [callL,inB]) (by simp [refs])
                · have hi':i < ws.length:=by simpa using hi
                  have hset:(ws.set k (.box cs))[i]=ws[i]:=by rw [List.getElem_set_ne (Ne.symm hik)]
                  have:=hr0 i hi
                  rw [hset] at this ⊢
                  exact (A1 i hi').free this _ _
              · cases en with
                | returned v =>
                  obtain ⟨L',W',E,bd,H,hr,houts⟩:=he
                  obtain ⟨holt,hoget⟩:=List.getElem?_eq_some_iff.1 hout
                  have ho:=(houts k holt).1
                  rw [hoget] at ho
                  have I2:=I1.called_some W' E (fun b j q p i hh=>(bd b j q p i hh).1) hsub' hcs hcu hbox ho
                  obtain ⟨L3,I3,E3⟩:=I2.finish hd (RepV.home (n:=n) I1.wf E H hr (h':=some (n,[0])) fun s i=>rfl) hr
                  exact ⟨L3,I3,E1.trans ((Ext.posted I1.wf E).trans E3)⟩
                | panicked=>exact he.elim
                | outgrown=>exact he.elim
            · cases h
          · cases h
        · cases h
      · cases h
  · cases h
theorem evS_sound (hC:CallOk P C) (I:InvF n 0 w L a e.get) {x:XOp} (ht:trOp P o.op=some x) (hd:∀ d,o.dst=some d→d < n) (hst:∀ s a v,x = .store s a v→o.dst=Option.none) {e':Env} (h:evS C e o.dst x=some e'):StepOk P n o a w L e' Q:=by
  cases hc:isCall x with
  | false=>exact evS_val I C ht hc hd hst h
  | true =>
    rcases trOp_call ht hc with ⟨c,f,as,h1,h2,h3,rfl⟩ | ⟨c,t,as,h1,h2,h3,rfl⟩
    · exact StepOk.call hC I h1 h2 h3 hd h
    · simp [evS] at h
end
end Go.Ab
namespace Go.Ab
open Go
set_option linter.unusedVariables false
set_option linter.unusedSimpArgs false
def trG (ops:Array Oper):Option (Nat × Bool)→Option (Option (Nat × Bool))
  | Option.none=>some Option.none
  | some (g,want)=>((ops[g]?).bind (·.dst)).map fun d=>some (d,want)
def storeOk:XOp→Option Nat→Bool
  | .store ..,some _=>false
  | _,_=>true
def dstOk (okD:Nat→Bool):Option Nat→Bool
  | some d=>okD d
  | Option.none=>true
def trI (P:Program) (okD:Nat→Bool) (ops:Array Oper) (o:Oper) (bar:Bool):Option XI :=
  match trOp P o.op,trG ops o.guard with
  | some x,some g=>if storeOk x o.dst && dstOk okD o.dst then some ⟨o.dst,x,g,bar⟩ else Option.none
  | _,_=>Option.none
theorem trI_some {P:Program} {okD:Nat→Bool} {ops:Array Oper} {o:Oper} {bar:Bool} {x:XI} (h:trI P okD ops o bar=some x) :
    trOp P o.op=some x.op∧trG ops o.guard=some x.guard∧x.dst=o.dst∧x.bar=bar∧(∀ d,o.dst=some d→okD d=true)∧(∀ s a v,x.op = .store s a v→o.dst=Option.none):=by
  unfold trI at h
  split at h
  · rename_i y g h1 h2
    split at h
    · rename_i hc
      simp only [Bool.and_eq_true] at hc
      obtain rfl:=Option.some.inj h
      refine ⟨h1,h2,rfl,rfl,fun d hd=>by have:=hc.2;rw [hd] at this;exact this,fun s a v hs=>?_⟩
      have h3:=hc.1
      simp only at hs
      rw [hs] at h3
      cases ho:o.dst with
      | none=>rfl
      | some d=>rw [ho] at h3;simp [storeOk] at h3
    · cases h
  · cases h
structure Ctx where
  n:Nat
  w0:World
  L0:LM
  prot:Nat→Bool
  v0:Nat→Value
def Ctx.St (X:Ctx) (g:Nat→PV) (a:Act) (w:World):Prop :=
  ∃ L,InvF X.n 0 w L a g∧Ext X.w0 X.L0 w L ∧ ∀ t,X.prot t=true→a.eval (.tmp t)=X.v0 t
theorem Ctx.St.congr {X:Ctx} {g g':Nat→PV} {a:Act} {w:World} (h:X.St g a w) (e:∀ t,g' t=g t):X.St g' a w:=by
  obtain ⟨L,I,E,F⟩:=h
  exact ⟨L,I.congr e,E,F⟩
theorem Ctx.St.forget {X:Ctx} {g g':Nat→PV} {a:Act} {w:World} (h:X.St g a w) (e:∀ t,g' t=g t ∨ g' t = .none):X.St g' a w:=by
  obtain ⟨L,I,E,F⟩:=h
  exact ⟨L,I.forget e,E,F⟩
theorem Ctx.St.drew {X:Ctx} {g:Nat→PV} {a:Act} {w:World} (h:X.St g a w):X.St g a w.drew:=by
  obtain ⟨L,I,E,F⟩:=h
  exact ⟨L,I.drew,E.trans (Grows.drew I.wf).ext,F⟩
theorem eval_put_ne {a:Act} {dst:Option Nat} {v:Value} {t:Nat} (h:dst ≠ some t):(a.put dst v).eval (.tmp t)=a.eval (.tmp t) :=
  Act.eval_put fun d hd e=>by simp only [Operand.tmp.injEq] at e;subst e;exact h hd
theorem wp_slot {P:Program} {o:Oper} {a:Act} {w:World} {K:Act→World→Prop} {Q:Exit→Act→World→Prop} (h:o.wp P a w K Q) :
    o.wp P a w (fun a' w'=>K a' w' ∧ ∀ t,o.dst ≠ some t→a'.eval (.tmp t)=a.eval (.tmp t)) Q:=by
  unfold Oper.wp at *
  generalize (execOp a.eval o).run P w=r at *
  have key:∀ (b:Act) (v:Value),b.tmps=a.tmps → ∀ t,o.dst ≠ some t→(b.put o.dst v).eval (.tmp t)=a.eval (.tmp t):=fun b v hb t ht=>by
    rw [eval_put_ne ht];simp [Act.eval,hb]
  cases r with
  | ok x w' =>
    cases x <;> simp only [Oper.upon] at h ⊢ <;>
      first
        | exact ⟨h,key _ _ rfl⟩
        | exact Calls.mono h (fun e w'' he=>by cases e <;> first | exact ⟨he,key _ _ rfl⟩ | exact he)
        | exact Rows.mono h (fun _ _ he=>⟨he,key _ _ rfl⟩)
        | exact h
  | halt x w'=>cases x <;> simp only [Oper.upon] at h ⊢ <;> exact h
section
variable {P:Program} {X:Ctx} {a:Act} {w:World} {e e':Env} {o:Oper} {ops:Array Oper} {Q:Exit→Act→World→Prop} {C:Calls'} {okD:Nat→Bool}
theorem wants_sound {n:Nat} {L:LM} {g:Nat→PV} (I:Inv n w L a g) {q:Option (Nat × Bool)} (hg:trG ops o.guard=some q) {b:Bool}
    (h:wantsG g q=some b):Region.wanted o (yielded ops a.tmps)=b:=by
  unfold Region.wanted
  cases hgu:o.guard with
  | none =>
    rw [hgu] at hg
    simp only [trG,Option.some.injEq] at hg
    subst hg
    simpa [wantsG] using h
  | some gw =>
    obtain ⟨k,want⟩:=gw
    rw [hgu] at hg
    simp only [trG,Option.map_eq_some_iff] at hg
    obtain ⟨d,hd,rfl⟩:=hg
    have H:=I.rep d
    simp only [wantsG] at h
    split at h
    · rename_i b' hb
      rw [hb] at H
      obtain rfl:=Option.some.inj h
      have e1:a.eval (.tmp d) = .bool b':=by generalize a.eval (.tmp d)=u at H;cases H;rfl
      have e2:a.tmps[d]? = some (.bool b'):=by
        simp only [Act.eval,Array.getD_eq_getD_getElem?] at e1
        cases ht:a.tmps[d]? with
        | none=>rw [ht] at e1;cases e1
        | some v=>rw [ht] at e1;simp only [Option.getD_some] at e1;rw [e1]
      simp only [yielded,hd,Option.bind_some,e2]
      cases b' <;> cases want <;> rfl
    · rename_i hb
      rw [hb] at H
      obtain rfl:=Option.some.inj h
      have e1:∃ vs,a.eval (.tmp d) = .tuple vs:=by generalize a.eval (.tmp d)=u at H;cases H;exact ⟨_,rfl⟩
      obtain ⟨vs,e1⟩:=e1
      have e2:a.tmps[d]? = Option.none ∨ a.tmps[d]? = some (.tuple vs):=by
        simp only [Act.eval,Array.getD_eq_getD_getElem?] at e1
        cases ht:a.tmps[d]? with
        | none=>exact .inl rfl
        | some v=>rw [ht] at e1;simp only [Option.getD_some] at e1;rw [e1];exact .inr rfl
      rcases e2 with e2 | e2 <;> simp [yielded,hd,e2]
    · cases h
theorem put_undef {g:Nat→PV} {n:Nat} {L:LM} (I:InvF n 0 w L a g) {d:Nat} (hd:d < n):InvF n 0 w (fun b j=>dropL d [] (L b j)) (a.put (some d) undef) (fun t=>if t=d then .tup [] else purge1 (und d []) (g t)) :=
  ((I.drop d).put hd (Grows.refl (I.wf.drop d [])) (.tup _ [] _ rfl (by simp)) fun b j r p i h=>by
    rcases I.bd _ _ _ _ _ (dropL_own h).1 with h | ⟨_,k,s,_,h⟩
    · exact h
    · omega).congr fun t=>by by_cases h:t=d <;> simp [h]
theorem step_sound (hC:CallOk P C) (hok:∀ d,okD d=true→d < X.n∧X.prot d=false) (S:X.St e.get a w) {bar:Bool} {x:XI} (ht:trI P okD ops o bar=some x) (h:step C e x=some e') :
    (Region.wanted o (yielded ops a.tmps)=true∧o.wp P a w (fun a' w'=>X.St e'.get a' w') Q) ∨ (Region.wanted o (yielded ops a.tmps)=false∧X.St e'.get (a.put o.dst undef) w):=by
  obtain ⟨L,I,E,F⟩:=S
  obtain ⟨h1,h2,h3,h4,h5,h6⟩:=trI_some ht
  have hd:∀ d,o.dst=some d→d < X.n:=fun d hd=>(hok d (h5 d hd)).1
  have hF:∀ t,X.prot t=true→o.dst ≠ some t:=fun t ht hd=>by have:=(hok t (h5 t hd)).2;rw [ht] at this;cases this
  have fin:StepOk P X.n o a w L e' Q→o.wp P a w (fun a' w'=>X.St e'.get a' w') Q:=fun hs=>by
    refine Oper.wp_mono (fun a' w' hh=>?_) (wp_slot hs)
    obtain ⟨⟨L',I',E'⟩,hsl⟩:=hh
    exact ⟨L',I',E.trans E',fun t ht=>by rw [hsl t (hF t ht)];exact F t ht⟩
  unfold step at h
  split at h
  · rename_i hw
    have hwant:=wants_sound (o:=o) (ops:=ops) I.toInv h2 (b:=true) hw
    refine .inl ⟨hwant,fin ?_⟩
    split at h
    · rename_i e1 hp
      obtain rfl:=Option.some.inj h
      unfold stepP at hp
      split at hp
      · rename_i v hv
        split at hp
        · rename_i d hxd
          obtain rfl:=Option.some.inj hp
          rw [h3] at hxd
          exact StepOk.pure I (hd d hxd) (evP_sound hC I.toInv (fun r p=>.inr rfl) h1 hxd hv)
        · cases hp
      · cases hp
    · split at h
      · cases h
      · rw [h3] at h
        exact evS_sound hC I h1 hd h6 h
  · rename_i hw
    have hwant:=wants_sound (o:=o) (ops:=ops) I.toInv h2 (b:=false) hw
    refine .inr ⟨hwant,?_⟩
    obtain rfl:=Option.some.inj h
    unfold skipped
    rw [h3]
    cases ho:o.dst with
    | none=>exact ⟨L,by simpa [Act.put] using I,E,F⟩
    | some d =>
      refine ⟨_,(put_undef I (hd d ho)).congr fun t=>?_,E.trans (Ext.relabel w L rfl rfl),fun t ht=>?_⟩
      · rw [get_setD]
      · have hne:=hF t ht
        rw [ho] at hne
        rw [eval_put_ne hne];exact F t ht
  · cases h
def trIs (P:Program) (okD:Nat→Bool) (ops:Array Oper) (first:Nat):Nat→List Oper→Option (List XI)
  | _,[]=>some []
  | i,o :: r=>match trI P okD ops o (decide (first ≤ i)),trIs P okD ops first (i + 1) r with
    | some x,some xs=>some (x :: xs)
    | _,_=>Option.none
theorem steps_sound (hC:CallOk P C) (hok:∀ d,okD d=true→d < X.n∧X.prot d=false) {first:Nat}:∀ (l:List Oper) (i:Nat) (xs:List XI) (e:Env) (a:Act) (w:World),trIs P okD ops first i l=some xs→steps C e xs=some e' → X.St e.get a w →
    (∀ a' w',X.St e'.get a' w' → Q .normal a' w')→wpList P ops Q l a w
  | [],i,xs,e,a,w,ht,h,S,hQ=>by
    simp only [trIs,Option.some.injEq] at ht
    subst ht
    simp only [steps,Option.some.injEq] at h
    subst h
    exact hQ _ _ S
  | o :: l,i,xs,e,a,w,ht,h,S,hQ=>by
    simp only [trIs] at ht
    split at ht
    · rename_i x ys hx hys
      obtain rfl:=Option.some.inj ht
      simp only [steps] at h
      split at h
      · rename_i e1 h1
        simp only [wpList]
        rcases step_sound (Q:=Q) hC hok S hx h1 with ⟨hw,hs⟩ | ⟨hw,hs⟩
        · rw [if_pos hw]
          exact .inl (Oper.wp_mono (fun a' w' hh=>steps_sound hC hok l (i + 1) ys e1 a' w' hys h hh hQ) hs)
        · rw [if_neg (by rw [hw];simp)]
          exact steps_sound hC hok l (i + 1) ys e1 _ w hys h hs hQ
      · cases h
    · cases ht
end
end Go.Ab
namespace Go.Ab
open Go
set_option linter.unusedVariables false
set_option linter.unusedSimpArgs false
def optO:Option XO→List XO
  | some x=>[x]
  | Option.none=>[]
def partsO:List (Nat × Nat × XO)→List XO
  | []=>[]
  | (_,_,x) :: r=>x :: partsO r
def XOp.opds:XOp→List XO
  | .mv x | .asg x | .box x | .load _ _ x | .un _ x | .conv _ x | .fadr _ x | .fld _ _ _ x | .len _ x | .ext x _ | .nilck x | .b2s x=>[x]
  | .pick c a b=>[c,a,b]
  | .alloc _ | .lenk _=>[]
  | .build _ ps | .bsl _ _ _ ps=>partsO ps
  | .store _ a v=>[a,v]
  | .bin _ x y | .beq _ x y | .peq _ x y | .aeq _ _ x y | .idx _ _ _ x y | .idxs x y | .iadr _ _ x y | .mx x y | .mn x y | .app _ _ x y | .mksl _ _ _ x y=>[x,y]
  | .slc _ x lo hi=>x :: (optO lo ++ optO hi)
  | .call _ as _=>as
  | .callv f as=>f :: as
  | .mkfn _ cs=>cs
theorem fillP_congr {ok:PV→Bool} {L L':XO→PV}:∀ (ps:List (Nat × Nat × XO)) (cs:List PV),(∀ x ∈ partsO ps,L x=L' x)→fillP ok L cs ps=fillP ok L' cs ps
  | [],cs,_=>rfl
  | (off,sz,x) :: r,cs,h=>by
    have h1:=h x (by simp [partsO])
    have h2:∀ cs,fillP ok L cs r=fillP ok L' cs r:=fun cs=>fillP_congr r cs fun y hy=>h y (by simp [partsO,hy])
    simp only [fillP,h1,h2]
theorem bnd_congr {L L':XO→PV} {n d:Nat} {o:Option XO} (h:∀ x ∈ optO o,L x=L' x):bnd L n o d=bnd L' n o d:=by
  cases o with
  | none=>rfl
  | some x=>simp only [bnd,h x (by simp [optO])]
theorem evP_congr {C:Calls'} {S:Subs} {L L':XO→PV} {x:XOp} (h:∀ y ∈ x.opds,L y=L' y):evP C L S x=evP C L' S x:=by
  cases x <;> simp only [XOp.opds] at h
  case build z ps=>simp only [evP,fillP_congr ps z h]
  case bsl sz len z ps=>simp only [evP,fillP_congr ps _ h]
  case slc sz y lo hi =>
    have h1:=h y (by simp)
    have h2:∀ n d,bnd L n lo d=bnd L' n lo d:=fun n d=>bnd_congr fun z hz=>h z (by simp [hz])
    have h3:∀ n d,bnd L n hi d=bnd L' n hi d:=fun n d=>bnd_congr fun z hz=>h z (by simp [hz])
    simp only [evP,h1,h2,h3]
  case call f as ms =>
    have h1:as.map L=as.map L':=List.map_congr_left h
    cases ms <;> simp only [evP,h1]
  case callv f as =>
    have h1:as.map L=as.map L':=List.map_congr_left fun y hy=>h y (by simp [hy])
    have h2:=h f (by simp)
    simp only [evP,h1,h2]
  case mkfn f as =>
    have h1:as.map L=as.map L':=List.map_congr_left h
    simp only [evP,h1]
  all_goals first
    | (simp only [evP];done)
    | (have h1:=h _ (by simp);simp only [evP,h1];done)
    | (simp only [List.mem_cons,List.not_mem_nil,or_false,forall_eq_or_imp,forall_eq] at h;simp only [evP,h];done)
end Go.Ab
namespace Go.Ab
open Go
set_option linter.unusedVariables false
set_option linter.unusedSimpArgs false
def maskE (B:List Nat) (o:Oper):Nat:=(o.after.toList.filter (Region.binds .any)).foldl (fun m e=>m ||| 2 ^ e.on ||| B.getD e.on 0) 0
def masksGo:List Oper→List Nat→List Nat
  | [],B=>B
  | o :: r,B=>masksGo r (B ++ [maskE B o])
def tempsO:List XO→List Nat
  | []=>[]
  | .t n :: r=>n :: tempsO r
  | _ :: r=>tempsO r
def tempsOf (x:XI):List Nat:=(match x.guard with | some (d,_)=>[d] | Option.none=>[]) ++ tempsO x.op.opds
def dstAt (xs:List XI) (j:Nat):Option Nat:=(xs[j]?).bind (·.dst)
def drawOk (ops:List Oper) (xs:List XI) (first:Nat):Bool :=
  let B:=masksGo ops []
  decide (first ≤ ops.length) && (List.range ops.length).all fun i =>
    match ops[i]?,xs[i]? with
    | some o,some x =>
      (B.getD i 0 == maskE B o) && o.after.toList.all (fun e=>!Region.binds .any e || decide (e.on < i)) &&
      (if i < first then
        (match x.dst with | some d=>(List.range i).all (fun j=>dstAt xs j != some d) | Option.none=>false) &&
        (tempsOf x).all fun t=>(List.range first).all fun j=>dstAt xs j != some t || (B.getD i 0).testBit j
      else (List.range i).all fun j=>(B.getD i 0).testBit j)
    | _,_=>false
structure Hint where
  keep:List Nat
  first:Nat
  bad:Bool:=false
def XC.no:XC:=.cond (.k .none) .skip .skip []
def trC (P:Program) (okD:Nat→Bool):Code→List Hint→Option (XC × List Hint)
  | .skip,hs=>some (.skip,hs)
  | .region _ ops draw,h :: hs =>
    if h.bad=true then some (.no,hs) else
    match trIs P okD ops (if draw then h.first else ops.size) 0 ops.toList with
    | some xs=>if (!draw || drawOk ops.toList xs h.first)=true then some (.reg xs draw h.keep,hs) else Option.none
    | Option.none=>Option.none
  | .seq a b,hs=>(trC P okD a hs).bind fun r=>(trC P okD b r.2).map fun q=>(.seq r.1 q.1,q.2)
  | .cond c a b,hs=>(trO c).bind fun c'=>(trC P okD a hs).bind fun r=>(trC P okD b r.2).bind fun q=>match q.2 with
    | h :: hs'=>some (.cond c' r.1 q.1 h.keep,hs')
    | []=>Option.none
  | .block id b,hs=>(trC P okD b hs).bind fun r=>match r.2 with
    | h :: hs'=>some (.block id r.1 h.keep,hs')
    | []=>Option.none
  | .loop b,hs=>(trC P okD b hs).bind fun r=>match r.2 with
    | h :: hs'=>some (.loop r.1 h.keep,hs')
    | []=>Option.none
  | .exit id,h :: hs=>some (.exit id h.keep,hs)
  | .ret,hs=>some (.ret,hs)
  | _,_=>Option.none
def exOf:Ex→Exit
  | .norm=>.normal
  | .exit id=>.exit id
  | .ret=>.ret
section
variable {P:Program}
def LoopWp (P:Program) (c:Code) (Q:Exit→Act→World→Prop) (a:Act) (w:World):Prop :=
  ∀ (b:Frame) (k:List Item) (cs:List Frame),∃ e a' w',Q e a' w' ∧ Arrives P (lone (b.at a (.code c :: .inLoop c :: k)) cs w) b k cs e a' w'
theorem LoopWp.wp {c:Code} {Q:Exit→Act→World→Prop} {a:Act} {w:World} (h:LoopWp P c Q a w):(Code.loop c).wp P Q a w:=by
  intro b k cs
  obtain ⟨e,a',w',hq,harr⟩:=h b k cs
  exact ⟨e,a',w',hq,.of_steps (.one step_loop) harr⟩
theorem LoopWp.round {c:Code} {Q:Exit→Act→World→Prop} {a:Act} {w:World} (h:c.wp P (Exit.then (LoopWp P c Q) Q) a w):LoopWp P c Q a w:=by
  intro b k cs
  obtain ⟨e,a₁,w₁,hq,harr⟩:=h b (.inLoop c :: k) cs
  cases e with
  | normal =>
    obtain ⟨e₂,a₂,w₂,hq₂,harr₂⟩:=hq b k cs
    exact ⟨e₂,a₂,w₂,hq₂,.of_steps (Steps.trans harr (.one step_inLoop)) harr₂⟩
  | exit id=>exact ⟨_,a₁,w₁,hq,.pass (x:=.inLoop c) rfl (fun _ _=>.inl (by simp)) harr⟩
  | goto l=>exact ⟨_,a₁,w₁,hq,.pass (x:=.inLoop c) rfl (fun _ _=>.inl (by simp)) harr⟩
  | ret=>exact ⟨_,a₁,w₁,hq,.pass (x:=.inLoop c) rfl (fun _ _=>.inl (by simp)) harr⟩
  | panic ch=>exact ⟨_,a₁,w₁,hq,.pass (x:=.inLoop c) rfl (fun _ _=>.inl (by simp)) harr⟩
  | outgrown=>exact ⟨_,a₁,w₁,hq,.pass (x:=.inLoop c) rfl (fun _ _=>.inl (by simp)) harr⟩
variable {X:Ctx} {C:Calls'} {okD:Nat→Bool}
def DrawOk (P:Program) (X:Ctx) (C:Calls') (okD:Nat→Bool):Prop :=
  ∀ (ops:Array Oper) (xs:List XI) (first:Nat) (e e':Env) (a:Act) (w:World) (Q:Exit→Act→World→Prop),trIs P okD ops first 0 ops.toList=some xs→drawOk ops.toList xs first=true→regD C e xs=some e' → X.St e.get a w →
    (∀ a' w',X.St e'.get a' w' → Q .normal a' w')→wpAny P .any ops Q ops.size (Array.replicate ops.size false) a w
theorem fgt_some {k:List Nat} {x:Option (Ex × Env)} {ex:Ex} {e':Env} (h:fgt k x=some (ex,e')):∃ e1,x=some (ex,e1)∧(ex = .norm→e' = e1.keep k)∧(ex ≠ .norm→e' = e1):=by
  unfold fgt at h
  split at h
  · rename_i e
    simp only [Option.some.injEq,Prod.mk.injEq] at h
    obtain ⟨rfl,rfl⟩:=h
    exact ⟨e,rfl,fun _=>rfl,fun hn=>absurd rfl hn⟩
  · rename_i hno
    exact ⟨e',h,fun hn=>absurd (hn ▸ h) (hno _),fun _=>rfl⟩
theorem Ctx.St.keepK {X:Ctx} {e:Env} {a:Act} {w:World} (h:X.St e.get a w) (k:List Nat):X.St (e.keep k).get a w:=h.forget fun t=>by
  rw [get_keep]
  by_cases hk:k.contains t=true
  · exact .inl (by simp only [hk,if_true])
  · exact .inr (by simp only [hk];rfl)
theorem Ctx.St.fgtK {X:Ctx} {k:List Nat} {ex:Ex} {e1 e':Env} {a:Act} {w:World} (h:X.St e1.get a w) (h1:ex = .norm→e' = e1.keep k) (h2:ex ≠ .norm→e' = e1):X.St e'.get a w:=by
  by_cases hn:ex = .norm
  · rw [h1 hn];exact h.keepK k
  · rw [h2 hn];exact h
theorem evC_sound (hC:CallOk P C) (hm:P.follows .mixedOrders=true) (hok:∀ d,okD d=true→d < X.n∧X.prot d=false) (hD:DrawOk P X C okD) :
    ∀ (fuel:Nat) (c:Code) (hs hs':List Hint) (xc:XC) (e e':Env) (ex:Ex) (a:Act) (w:World) (Q:Exit→Act→World→Prop),trC P okD c hs=some (xc,hs')→evC C fuel xc e=some (ex,e')→X.St e.get a w →
      (∀ a' w',X.St e'.get a' w' → Q (exOf ex) a' w')→c.wp P Q a w ∧ ∀ b,c = .loop b→LoopWp P b Q a w
  | 0,c,hs,hs',xc,e,e',ex,a,w,Q,ht,h,S,hQ=>by simp [evC] at h
  | fuel + 1, c,hs,hs',xc,e,e',ex,a,w,Q,ht,h,S,hQ=>by
    have ih:=evC_sound hC hm hok hD fuel
    cases c <;> try simp only [trC] at ht
    case skip =>
      simp only [Option.some.injEq,Prod.mk.injEq] at ht
      obtain ⟨rfl,rfl⟩:=ht
      simp only [evC,Option.some.injEq,Prod.mk.injEq] at h
      obtain ⟨rfl,rfl⟩:=h
      exact ⟨wp_skip (hQ _ _ S),fun b hb=>by cases hb⟩
    case region id ops draw =>
      refine ⟨?_,fun b hb=>by cases hb⟩
      cases hs with
      | nil=>cases ht
      | cons hh hs =>
        simp only [trC] at ht
        split at ht
        · simp only [Option.some.injEq,Prod.mk.injEq] at ht
          obtain ⟨rfl,rfl⟩:=ht
          simp [evC,XC.no,look,lookG,fgt] at h
        split at ht
        · rename_i xs hxs
          split at ht
          · rename_i hdr
            simp only [Option.some.injEq,Prod.mk.injEq] at ht
            obtain ⟨rfl,rfl⟩:=ht
            simp only [evC,Option.map_eq_some_iff,Prod.mk.injEq] at h
            obtain ⟨e1,h1,rfl,rfl⟩:=h
            have hQ':∀ a' w',X.St e1.get a' w' → Q .normal a' w':=fun a' w' S'=>hQ a' w' (S'.forget fun t=>by
              rw [get_keep]
              by_cases hk:hh.keep.contains t=true
              · exact .inl (by simp only [hk,if_true])
              · exact .inr (by simp only [hk];rfl))
            cases draw with
            | false =>
              simp only [Bool.false_eq_true,if_false] at h1 hxs
              exact wp_region_list (steps_sound hC hok ops.toList 0 xs e a w hxs h1 S hQ')
            | true =>
              simp only [if_true] at h1 hxs
              simp only [Bool.not_true,Bool.false_or] at hdr
              exact wp_region_any hm (hD ops xs hh.first e e1 a _ Q hxs hdr h1 S.drew hQ')
          · cases ht
        · cases ht
    case seq x y =>
      refine ⟨?_,fun b hb=>by cases hb⟩
      simp only [Option.bind_eq_some_iff,Option.map_eq_some_iff] at ht
      obtain ⟨⟨x',h1⟩,hx,⟨y',h2⟩,hy,h3⟩:=ht
      simp only [Prod.mk.injEq] at h3
      obtain ⟨rfl,rfl⟩:=h3
      simp only [evC] at h
      split at h
      · rename_i e1 he1
        exact wp_seq (ih x _ _ _ _ _ _ a w _ hx he1 S fun a' w' S'=>(ih y _ _ _ _ _ _ a' w' Q hy h S' hQ).1).1
      · rename_i hno
        refine wp_seq (ih x _ _ _ _ _ _ a w _ hx h S fun a' w' S'=>?_).1
        cases ex with
        | norm=>exact absurd h (hno _)
        | exit id=>exact hQ _ _ S'
        | ret=>exact hQ _ _ S'
    case cond c x y =>
      refine ⟨?_,fun b hb=>by cases hb⟩
      simp only [Option.bind_eq_some_iff] at ht
      obtain ⟨c',hc,⟨x',h1⟩,hx,⟨y',h2⟩,hy,h3⟩:=ht
      split at h3
      case h_2=>cases h3
      rename_i hh hs2 heq
      simp only at heq;subst heq
      simp only [Option.some.injEq,Prod.mk.injEq] at h3
      obtain ⟨rfl,rfl⟩:=h3
      simp only [evC] at h
      obtain ⟨e1,h,hk1,hk2⟩:=fgt_some h
      have hb:∀ b,look e c' = .bool b→a.eval c = .bool b:=fun b hb=>by
        obtain ⟨L,I,_,_⟩:=S
        have H:=I.look hc Option.none
        rw [show lookG e.get c' = .bool b from hb] at H
        generalize a.eval c=u at H
        cases H;rfl
      split at h
      · rename_i hl;exact wp_cond_true (hb _ hl) (ih x _ _ _ _ _ _ a w Q hx h S fun a' w' S'=>hQ _ _ (S'.fgtK hk1 hk2)).1
      · rename_i hl;exact wp_cond_false (hb _ hl) (ih y _ _ _ _ _ _ a w Q hy h S fun a' w' S'=>hQ _ _ (S'.fgtK hk1 hk2)).1
      · cases h
    case block id x =>
      refine ⟨?_,fun b hb=>by cases hb⟩
      simp only [Option.bind_eq_some_iff] at ht
      obtain ⟨⟨x',h1⟩,hx,h3⟩:=ht
      split at h3
      case h_2=>cases h3
      rename_i hh hs2 heq
      simp only at heq;subst heq
      simp only [Option.some.injEq,Prod.mk.injEq] at h3
      obtain ⟨rfl,rfl⟩:=h3
      simp only [evC] at h
      obtain ⟨e2,h,hk1,hk2⟩:=fgt_some h
      split at h
      · rename_i id' e1 he1
        refine wp_block (ih x _ _ _ _ _ _ a w _ hx he1 S fun a' w' S'=>?_).1
        split at h
        · rename_i hid
          simp only [Option.some.injEq,Prod.mk.injEq] at h
          obtain ⟨rfl,rfl⟩:=h
          simp only [exOf,Exit.inBlock,hid,if_true]
          exact hQ _ _ (S'.fgtK hk1 hk2)
        · rename_i hid
          simp only [Option.some.injEq,Prod.mk.injEq] at h
          obtain ⟨rfl,rfl⟩:=h
          simp only [exOf,Exit.inBlock,hid,if_false]
          exact hQ _ _ (S'.fgtK hk1 hk2)
      · rename_i hno
        refine wp_block (ih x _ _ _ _ _ _ a w _ hx h S fun a' w' S'=>?_).1
        cases ex with
        | norm=>exact hQ _ _ (S'.fgtK hk1 hk2)
        | exit id=>exact absurd h (hno _ _)
        | ret=>exact hQ _ _ (S'.fgtK hk1 hk2)
    case loop x =>
      have ht0:=ht
      simp only [Option.bind_eq_some_iff] at ht
      obtain ⟨⟨x',h1⟩,hx,h3⟩:=ht
      split at h3
      case h_2=>cases h3
      rename_i hh hs2 heq
      simp only at heq;subst heq
      simp only [Option.some.injEq,Prod.mk.injEq] at h3
      obtain ⟨rfl,rfl⟩:=h3
      have key:LoopWp P x Q a w:=by
        simp only [evC] at h
        split at h
        · rename_i e1 he1
          obtain ⟨e2,he2,hk1,hk2⟩:=fgt_some he1
          refine LoopWp.round (ih x _ _ _ _ _ _ a w _ hx he2 S fun a' w' S'=>?_).1
          exact (ih (.loop x) hs hs2 (.loop x' hh.keep) _ _ _ a' w' Q ht0 h (S'.fgtK hk1 hk2) hQ).2 x rfl
        · rename_i hno
          obtain ⟨e2,he2,hk1,hk2⟩:=fgt_some h
          refine LoopWp.round (ih x _ _ _ _ _ _ a w _ hx he2 S fun a' w' S'=>?_).1
          cases ex with
          | norm=>exact absurd h (hno _)
          | exit id=>exact hQ _ _ (S'.fgtK hk1 hk2)
          | ret=>exact hQ _ _ (S'.fgtK hk1 hk2)
      exact ⟨key.wp,fun b hb=>by cases hb;exact key⟩
    case exit id =>
      refine ⟨?_,fun b hb=>by cases hb⟩
      cases hs with
      | nil=>simp [trC] at ht
      | cons hh hs =>
        simp only [trC,Option.some.injEq,Prod.mk.injEq] at ht
        obtain ⟨rfl,rfl⟩:=ht
        simp only [evC,Option.some.injEq,Prod.mk.injEq] at h
        obtain ⟨rfl,rfl⟩:=h
        exact wp_exit (hQ _ _ (S.keepK _))
    case ret =>
      simp only [Option.some.injEq,Prod.mk.injEq] at ht
      obtain ⟨rfl,rfl⟩:=ht
      simp only [evC,Option.some.injEq,Prod.mk.injEq] at h
      obtain ⟨rfl,rfl⟩:=h
      exact ⟨wp_ret (hQ _ _ S),fun b hb=>by cases hb⟩
    all_goals (cases ht)
end
end Go.Ab
namespace Go.Ab
open Go
set_option linter.unusedVariables false
set_option linter.unusedSimpArgs false
theorem testBit_foldl (B:List Nat) (j:Nat):∀ (l:List Edge) (m:Nat),(l.foldl (fun m e=>m ||| 2 ^ e.on ||| B.getD e.on 0) m).testBit j=true→m.testBit j=true ∨ ∃ e ∈ l,e.on=j ∨ (B.getD e.on 0).testBit j=true
  | [],m,h=>.inl h
  | e :: l,m,h=>by
    simp only [List.foldl_cons] at h
    rcases testBit_foldl B j l _ h with h | ⟨e',he',h⟩
    · simp only [Nat.testBit_or,Bool.or_eq_true,Nat.testBit_two_pow,decide_eq_true_eq] at h
      rcases h with (h | h) | h
      · exact .inl h
      · exact .inr ⟨e,by simp,.inl h⟩
      · exact .inr ⟨e,by simp,.inr h⟩
    · exact .inr ⟨e',by simp [he'],h⟩
theorem maskE_bit {B:List Nat} {o:Oper} {j:Nat} (h:(maskE B o).testBit j=true):∃ e ∈ o.after.toList,Region.binds .any e=true∧(e.on=j ∨ (B.getD e.on 0).testBit j=true):=by
  unfold maskE at h
  rcases testBit_foldl B j _ 0 h with h | ⟨e,he,h⟩
  · simp at h
  · simp only [List.mem_filter] at he
    exact ⟨e,he.1,he.2,h⟩
structure DrawFacts (ops:List Oper) (xs:List XI) (first:Nat) (B:List Nat):Prop where
  le:first ≤ ops.length
  mask:∀ i o,ops[i]? = some o→B.getD i 0=maskE B o
  low:∀ i o,ops[i]? = some o → ∀ e ∈ o.after.toList,Region.binds .any e=true→e.on < i
  dst:∀ i x,i < first→xs[i]? = some x → ∃ d,x.dst=some d ∧ ∀ j,j < i→dstAt xs j ≠ some d
  see:∀ i x,i < first→xs[i]? = some x → ∀ t ∈ tempsOf x,∀ j,j < first→dstAt xs j=some t→(B.getD i 0).testBit j=true
  bar:∀ i,first ≤ i→i < ops.length → ∀ j,j < i→(B.getD i 0).testBit j=true
theorem drawOk_facts {ops:List Oper} {xs:List XI} {first:Nat} (h:drawOk ops xs first=true) (hlen:xs.length=ops.length):DrawFacts ops xs first (masksGo ops []):=by
  simp only [drawOk,Bool.and_eq_true,decide_eq_true_eq,List.all_eq_true,List.mem_range] at h
  obtain ⟨hle,h⟩:=h
  have key:∀ i o x,ops[i]? = some o→xs[i]? = some x→((masksGo ops []).getD i 0=maskE (masksGo ops []) o)∧(∀ e ∈ o.after.toList,Region.binds .any e=true→e.on < i) ∧
      (i < first→(∃ d,x.dst=some d ∧ ∀ j,j < i→dstAt xs j ≠ some d) ∧ ∀ t ∈ tempsOf x,∀ j,j < first→dstAt xs j=some t→((masksGo ops []).getD i 0).testBit j=true) ∧
      (first ≤ i → ∀ j,j < i→((masksGo ops []).getD i 0).testBit j=true):=by
    intro i o x ho hx
    obtain ⟨hi,_⟩:=List.getElem?_eq_some_iff.1 ho
    have:=h i hi
    rw [ho,hx] at this
    simp only [Bool.and_eq_true,beq_iff_eq,List.all_eq_true,Bool.or_eq_true,Bool.not_eq_true',decide_eq_true_eq] at this
    obtain ⟨⟨h1,h2⟩,h3⟩:=this
    refine ⟨h1,fun e he hb=>?_,fun hf=>?_,fun hf=>?_⟩
    · rcases h2 e he with h | h
      · rw [hb] at h;cases h
      · exact h
    · rw [if_pos hf] at h3
      simp only [Bool.and_eq_true,List.all_eq_true,List.mem_range,Bool.or_eq_true,bne_iff_ne,ne_eq] at h3
      obtain ⟨h4,h5⟩:=h3
      refine ⟨?_,fun t ht j hj hd=>?_⟩
      · cases hxd:x.dst with
        | none=>rw [hxd] at h4;cases h4
        | some d =>
          rw [hxd] at h4
          simp only [List.all_eq_true,List.mem_range,bne_iff_ne,ne_eq] at h4
          exact ⟨d,rfl,h4⟩
      · rcases h5 t ht j hj with h | h
        · exact absurd hd h
        · exact h
    · rw [if_neg (by omega)] at h3
      simp only [List.all_eq_true,List.mem_range] at h3
      exact h3
  have at_:∀ i,i < ops.length → ∃ o x,ops[i]? = some o∧xs[i]? = some x:=fun i hi=>⟨ops[i],xs[i],by simp [hi],by simp [show i < xs.length by omega]⟩
  refine ⟨hle,fun i o ho=>?_,fun i o ho=>?_,fun i x hi hx=>?_,fun i x hi hx=>?_,fun i hi hl=>?_⟩
  · obtain ⟨hi,_⟩:=List.getElem?_eq_some_iff.1 ho
    obtain ⟨_,x,_,hx⟩:=at_ i hi
    exact (key i o x ho hx).1
  · obtain ⟨hi,_⟩:=List.getElem?_eq_some_iff.1 ho
    obtain ⟨_,x,_,hx⟩:=at_ i hi
    exact (key i o x ho hx).2.1
  · obtain ⟨o,_,ho,_⟩:=at_ i (by omega)
    exact ((key i o x ho hx).2.2.1 hi).1
  · obtain ⟨o,_,ho,_⟩:=at_ i (by omega)
    exact ((key i o x ho hx).2.2.1 hi).2
  · obtain ⟨o,x,ho,hx⟩:=at_ i hl
    exact (key i o x ho hx).2.2.2 hi
theorem DrawFacts.reach {ops:List Oper} {xs:List XI} {first:Nat} {B:List Nat} (F:DrawFacts ops xs first B) {lst:Nat→Prop}
    (hcl:∀ i o,lst i→ops[i]? = some o → ∀ e ∈ o.after.toList,Region.binds .any e=true→lst e.on) :
    ∀ (k i:Nat) (o:Oper),i < k→ops[i]? = some o→(∀ e ∈ o.after.toList,Region.binds .any e=true→lst e.on) → ∀ j,(B.getD i 0).testBit j=true→lst j
  | 0,i,o,hi,_,_,j,_=>by omega
  | k + 1,i,o,hi,ho,he,j,hj=>by
    rw [F.mask i o ho] at hj
    obtain ⟨e,hm,hb,h⟩:=maskE_bit hj
    rcases h with rfl | h
    · exact he e hm hb
    · have hlow:=F.low i o ho e hm hb
      obtain ⟨hi',_⟩:=List.getElem?_eq_some_iff.1 ho
      have ho':ops[e.on]? = some (ops[e.on]'(by omega)):=by simp [show e.on < ops.length by omega]
      exact F.reach hcl k e.on _ (by omega) ho' (hcl e.on _ (he e hm hb) ho') j h
theorem DrawFacts.lt {ops:List Oper} {xs:List XI} {first:Nat} {B:List Nat} (F:DrawFacts ops xs first B) {i j:Nat} {o:Oper} (ho:ops[i]? = some o) (h:(B.getD i 0).testBit j=true):j < i :=
  F.reach (lst:=fun j=>j < i) (fun k o' hk ho' e he hb=>Nat.lt_trans (F.low k o' ho' e he hb) hk) (i + 1) i o (by omega) ho (fun e he hb=>F.low i o ho e he hb) j h
theorem trIs_get {P:Program} {okD:Nat→Bool} {ops:Array Oper} {first:Nat}:∀ {l:List Oper} {i:Nat} {xs:List XI},trIs P okD ops first i l=some xs→xs.length=l.length ∧ ∀ k (hk:k < l.length) (hk':k < xs.length),trI P okD ops l[k] (decide (first ≤ i + k))=some xs[k]
  | [],i,xs,h=>by simp [trIs] at h;subst h;exact ⟨rfl,fun k hk=>by simp at hk⟩
  | o :: l,i,xs,h=>by
    simp only [trIs] at h
    split at h
    · rename_i x ys hx hys
      obtain rfl:=Option.some.inj h
      obtain ⟨h1,h2⟩:=trIs_get hys
      refine ⟨by simp [h1],fun k hk hk'=>?_⟩
      cases k with
      | zero=>simpa using hx
      | succ k =>
        have:=h2 k (by simpa using hk) (by simpa using hk')
        rw [show i + 1 + k=i + (k + 1) by omega] at this
        simpa using this
    · cases h
theorem stepsD_spec {C:Calls'} {S:Subs} {ds:List Nat}:∀ {first:Nat} {xs:List XI} {e e':Env},stepsD C S ds e xs=some e' → first ≤ xs.length→(∀ k (hk:k < xs.length),xs[k].bar=decide (first ≤ k)) →
    ∃ (V:Nat→PV) (E:Nat→Env),E 0=e∧(∀ k x,k < first→xs[k]? = some x → ∃ d,x.dst=some d∧stepD C S ds (E k) x=some (d,V k)∧E (k + 1)=(E k).set d (V k))∧steps C (E first) (xs.drop first)=some e'
  | 0,[],e,e',h,hl,hb=>by
    simp only [stepsD,Option.some.injEq] at h
    exact ⟨fun _=>.none,fun _=>e,rfl,fun k x hk=>by omega,by simp [steps,h]⟩
  | 0,x :: r,e,e',h,hl,hb=>by
    have h0:=hb 0 (by simp)
    simp only [List.getElem_cons_zero,Nat.le_refl,decide_true] at h0
    simp only [stepsD,h0,if_true] at h
    split at h
    · exact ⟨fun _=>.none,fun _=>e,rfl,fun k x hk=>by omega,by simpa using h⟩
    · cases h
  | f + 1,[],e,e',h,hl,hb=>by simp at hl
  | f + 1, x :: r,e,e',h,hl,hb=>by
    have h0:=hb 0 (by simp)
    simp only [List.getElem_cons_zero] at h0
    have h0':x.bar=false:=by rw [h0];simp
    simp only [stepsD,h0',Bool.false_eq_true,if_false] at h
    split at h
    · rename_i d v hs
      split at h
      · obtain ⟨V,E,hE0,hE,hst⟩:=stepsD_spec (first:=f) h (by simpa using hl) fun k hk=>by
          have:=hb (k + 1) (by simpa using hk)
          simpa using this
        refine ⟨fun k=>match k with | 0=>v | k + 1=>V k,fun k=>match k with | 0=>e | k + 1=>E k,rfl,fun k y hk hy=>?_,by simpa using hst⟩
        cases k with
        | zero =>
          simp only [List.getElem?_cons_zero,Option.some.injEq] at hy
          subst hy
          refine ⟨d,?_,hs,hE0⟩
          unfold stepD at hs
          cases hd:x.dst with
          | none=>rw [hd] at hs;cases hs
          | some d' =>
            rw [hd] at hs
            simp only at hs
            split at hs
            · split at hs
              · split at hs
                · simp only [Option.some.injEq,Prod.mk.injEq] at hs;rw [hs.1]
                · cases hs
              · cases hs
            · simp only [Option.some.injEq,Prod.mk.injEq] at hs;rw [hs.1]
            · cases hs
        | succ k=>exact hE k y (by omega) (by simpa using hy)
      · cases h
    · cases h
end Go.Ab
namespace Go.Ab
open Go
set_option linter.unusedVariables false
set_option linter.unusedSimpArgs false
mutual
theorem purge1_other (f:Nat→List Nat→Bool):∀ v:PV,(∀ q ∈ refs v,f q.1 q.2=false)→purge1 f v=v
  | .ref r p i m,h=>by
    have:=h (r,p) (by simp [refs])
    simp only at this
    simp [purge1,this]
  | .view r p o n z,h=>by
    have:=h (r,p) (by simp [refs])
    simp only at this
    simp [purge1,this]
  | .agg cs,h=>by simp only [purge1];rw [purgeL_other f cs (by simpa [refs] using h)]
  | .tup cs,h=>by simp only [purge1];rw [purgeL_other f cs (by simpa [refs] using h)]
  | .fn k cs,h=>by simp only [purge1];rw [purgeL_other f cs (by simpa [refs] using h)]
  | .none,_=>rfl
  | .bool _,_=>rfl
  | .int _ _,_=>rfl
  | .str _,_=>rfl
  | .nilp,_=>rfl
  | .nils,_=>rfl
  | .nilf,_=>rfl
  | .box _,_=>rfl
  | .own _ _ _,_=>rfl
  | .sl _ _,_=>rfl
  | .sp _,_=>rfl
theorem purgeL_other (f:Nat→List Nat→Bool):∀ cs:List PV,(∀ q ∈ refsL cs,f q.1 q.2=false)→purgeL f cs=cs
  | [],_=>rfl
  | c :: cs,h=>by
    simp only [purgeL]
    rw [purge1_other f c fun q hq=>h q (by simp only [refsL,List.mem_append];exact .inl hq),purgeL_other f cs fun q hq=>h q (by simp only [refsL,List.mem_append];exact .inr hq)]
end
theorem noRefs_purge {ds:List Nat} {v:PV} (h:noRefs ds v=true) {d:Nat} (hd:d ∈ ds):purge1 (und d []) v=v:=by
  refine purge1_other _ v fun q hq=>?_
  simp only [noRefs,List.all_eq_true] at h
  have:=h q hq
  simp only [Bool.not_eq_true',List.contains_eq_mem,decide_eq_false_iff_not] at this
  simp only [und,Bool.and_eq_false_iff,beq_eq_false_iff_ne]
  exact .inl fun e=>this (by rw [e];exact hd)
theorem get_mem:∀ (e:Env) (t:Nat),e.get t = .none ∨ (t,e.get t) ∈ e
  | [],t=>.inl rfl
  | (k,v) :: r,t=>by
    simp only [Env.get]
    split
    · rename_i h;subst h;exact .inr (by simp)
    · rcases get_mem r t with h | h
      · exact .inl h
      · exact .inr (by simp [h])
open Classical in
noncomputable def GV (first:Nat) (D:Nat→Option Nat) (V:Nat→PV) (g0:Nat→PV) (lst:Nat→Bool) (t:Nat):PV :=
  if h:∃ k,k < first∧D k=some t then (if lst (Classical.choose h)=true then V (Classical.choose h) else .none) else g0 t
section
variable {first:Nat} {D:Nat→Option Nat} {V:Nat→PV} {g0:Nat→PV} {lst:Nat→Bool}
theorem GV_at (uniq:∀ k j t,k < first→j < first→D k=some t→D j=some t→k=j) {k t:Nat} (hk:k < first) (hD:D k=some t):GV first D V g0 lst t=if lst k=true then V k else .none:=by
  have h:∃ k,k < first∧D k=some t:=⟨k,hk,hD⟩
  have e:Classical.choose h=k:=uniq _ _ t (Classical.choose_spec h).1 hk (Classical.choose_spec h).2 hD
  simp only [GV,h,dif_pos,e]
theorem GV_not {t:Nat} (h:¬ ∃ k,k < first∧D k=some t):GV first D V g0 lst t=g0 t:=by
  simp only [GV,h,dif_neg,not_false_iff]
theorem GV_congr (uniq:∀ k j t,k < first→j < first→D k=some t→D j=some t→k=j) {lst':Nat→Bool} {t:Nat} (h:∀ k,k < first→D k=some t→lst k=lst' k):GV first D V g0 lst t=GV first D V g0 lst' t:=by
  by_cases hx:∃ k,k < first∧D k=some t
  · obtain ⟨k,hk,hD⟩:=hx
    rw [GV_at uniq hk hD,GV_at uniq hk hD,h k hk hD]
  · rw [GV_not hx,GV_not hx]
end
theorem dstsOf_mem:∀ {xs:List XI} {first:Nat},(∀ k (hk:k < xs.length),xs[k].bar=decide (first ≤ k)) → ∀ k d,k < first→dstAt xs k=some d→d ∈ dstsOf xs
  | [],first,hb,k,d,hk,h=>by simp [dstAt] at h
  | x :: r,first,hb,k,d,hk,h=>by
    have h0:=hb 0 (by simp)
    simp only [List.getElem_cons_zero] at h0
    have h0':x.bar=false:=by rw [h0];simp;omega
    simp only [dstsOf,h0',Bool.false_eq_true,if_false]
    cases k with
    | zero =>
      simp only [dstAt,List.getElem?_cons_zero,Option.bind_some] at h
      rw [h];simp
    | succ k =>
      have ih:=dstsOf_mem (xs:=r) (first:=first - 1) (fun k hk=>by
        have:=hb (k + 1) (by simpa using hk)
        simp only [List.getElem_cons_succ] at this
        rw [this]
        by_cases hh:first ≤ k + 1
        · simp [hh]
        · simp [hh]) k d (by omega) (by simpa [dstAt] using h)
      split
      · exact List.mem_cons_of_mem _ ih
      · exact ih
theorem tempsO_mem {n:Nat}:∀ {l:List XO},XO.t n ∈ l→n ∈ tempsO l
  | [],h=>by cases h
  | .t m :: r,h=>by
    simp only [List.mem_cons,XO.t.injEq] at h
    simp only [tempsO,List.mem_cons]
    exact h.imp id tempsO_mem
  | .k v :: r,h=>by simp only [List.mem_cons,reduceCtorEq,false_or] at h;exact tempsO_mem (l:=r) h
  | .f m :: r,h=>by simp only [List.mem_cons,reduceCtorEq,false_or] at h;exact tempsO_mem (l:=r) h
theorem lookG_congr {g g':Nat→PV} {y:XO} (h:∀ n,y = .t n→g n=g' n):lookG g y=lookG g' y:=by
  cases y with
  | t n=>simp only [lookG,h n rfl]
  | k v=>rfl
  | f n=>rfl
theorem stepD_sound {P:Program} {X:Ctx} {C:Calls'} {okD:Nat→Bool} {ops:Array Oper} {o:Oper} {x:XI} {g:Nat→PV} {E:Env} {S:Subs} {ds:List Nat} {d:Nat} {v:PV} {a:Act} {w:World} {Q:Exit→Act→World→Prop} {bar:Bool}
    (hC:CallOk P C) (hok:∀ d,okD d=true→d < X.n∧X.prot d=false) (St:X.St g a w) (ht:trI P okD ops o bar=some x) (hag:∀ t ∈ tempsOf x,g t=E.get t) (hS:SubsOk S g) (h:stepD C S ds E x=some (d,v)) (hd:d ∈ ds) (hg:∀ t,noRefs ds (g t)=true) :
    x.dst=some d∧noRefs ds v=true∧((Region.wanted o (yielded ops a.tmps)=true∧o.wp P a w (fun a' w'=>X.St (fun t=>if t=d then v else g t) a' w') Q) ∨
      (Region.wanted o (yielded ops a.tmps)=false∧X.St (fun t=>if t=d then v else g t) (a.put o.dst undef) w)):=by
  obtain ⟨L,I,E0,F⟩:=St
  obtain ⟨h1,h2,h3,h4,h5,h6⟩:=trI_some ht
  have hF:∀ t,X.prot t=true→o.dst ≠ some t:=fun t ht hd=>by have:=(hok t (h5 t hd)).2;rw [ht] at this;cases this
  have hlook:∀ y ∈ x.op.opds,lookG g y=look E y:=fun y hy=>lookG_congr fun n hn=>hag n (by subst hn;simp only [tempsOf,List.mem_append];exact .inr (tempsO_mem hy))
  have hwants:wantsG g x.guard=wants E x:=by
    unfold wants
    cases hgx:x.guard with
    | none=>rfl
    | some q =>
      obtain ⟨t,want⟩:=q
      have:=hag t (by simp [tempsOf,hgx])
      simp only [wantsG,this]
  have hpg:∀ t,purge1 (und d []) (g t)=g t:=fun t=>noRefs_purge (hg t) hd
  unfold stepD at h
  split at h
  · rename_i d' hxd
    have hodst:o.dst=some d':=by rw [← h3];exact hxd
    have hdn:d' < X.n:=(hok d' (h5 d' hodst)).1
    split at h
    · rename_i hw
      rw [← hwants] at hw
      have hwant:=wants_sound (o:=o) (ops:=ops) I.toInv h2 hw
      split at h
      · rename_i v' hv
        split at h
        · rename_i hnr
          simp only [Option.some.injEq,Prod.mk.injEq] at h
          obtain ⟨rfl,rfl⟩:=h
          rw [← evP_congr (L:=lookG g) hlook] at hv
          refine ⟨hxd,hnr,.inl ⟨hwant,?_⟩⟩
          have hp:PureOk P o a w L d' (purge1 (und d' []) v') Q:=evP_sound hC I.toInv hS h1 hodst hv
          rw [noRefs_purge hnr hd] at hp
          refine Oper.wp_mono (fun a' w' hh=>?_) (wp_slot hp)
          obtain ⟨⟨u,L',rfl,G,hrep,hlab⟩,hsl⟩:=hh
          refine ⟨L',((I.drop d').put hdn G hrep fun b j r p i h=>?_).congr fun t=>?_,E0.trans ((Ext.relabel w L rfl rfl).trans G.ext),fun t ht=>by rw [hsl t (hF t ht)];exact F t ht⟩
          · rcases hlab b j with h' | ⟨p',i',h'⟩ | h'
            · rw [h'] at h
              rcases I.bd _ _ _ _ _ (dropL_own h).1 with h | ⟨_,k,s,_,h⟩
              · exact h
              · omega
            · rw [h'] at h;simp only [Lab.own.injEq] at h;omega
            · rw [h'] at h;cases h
          · by_cases h:t=d'
            · simp [h]
            · simp [h,hpg t]
        · cases h
      · cases h
    · rename_i hw
      rw [← hwants] at hw
      have hwant:=wants_sound (o:=o) (ops:=ops) I.toInv h2 hw
      simp only [Option.some.injEq,Prod.mk.injEq] at h
      obtain ⟨rfl,rfl⟩:=h
      refine ⟨hxd,rfl,.inr ⟨hwant,?_⟩⟩
      rw [hodst]
      refine ⟨_,(put_undef I hdn).congr fun t=>?_,E0.trans (Ext.relabel w L rfl rfl),fun t ht=>?_⟩
      · by_cases h:t=d'
        · simp [h]
        · simp [h,hpg t]
      · have hne:=hF t ht
        rw [hodst] at hne
        rw [eval_put_ne hne];exact F t ht
    · cases h
  · cases h
end Go.Ab
namespace Go.Ab
open Go
set_option linter.unusedVariables false
set_option linter.unusedSimpArgs false
theorem stepD_nr {C:Calls'} {S:Subs} {ds:List Nat} {e:Env} {x:XI} {d:Nat} {v:PV} (h:stepD C S ds e x=some (d,v)):noRefs ds v=true:=by
  unfold stepD at h
  split at h
  · split at h
    · split at h
      · split at h
        · rename_i hn;simp only [Option.some.injEq,Prod.mk.injEq] at h;rw [← h.2];exact hn
        · cases h
      · cases h
    · simp only [Option.some.injEq,Prod.mk.injEq] at h;rw [← h.2];rfl
    · cases h
  · cases h
theorem ready_iff {md:Region.Mode} {ops:Array Oper} {listed:Array Bool} {i:Nat}:i ∈ Region.ready md ops listed ↔ i < ops.size∧listed.getD i true=false ∧ ∃ o,ops[i]? = some o ∧ ∀ e ∈ o.after.toList,Region.binds md e=true→listed.getD e.on false=true:=by
  unfold Region.ready
  simp only [List.mem_filter,List.mem_range,Bool.and_eq_true,Bool.not_eq_true']
  constructor
  · rintro ⟨h1,h2,h3⟩
    refine ⟨h1,h2,ops[i],by simp [h1],fun e he hb=>?_⟩
    simp only [h1,getElem?_pos,Option.map_some,Option.getD_some,Array.all_eq_true'] at h3
    have:=h3 e (by simpa using he)
    simpa [hb] using this
  · rintro ⟨h1,h2,o,ho,h3⟩
    refine ⟨h1,h2,?_⟩
    rw [ho]
    simp only [Option.map_some,Option.getD_some,Array.all_eq_true']
    intro e he
    cases hb:Region.binds md e
    · simp
    · simpa using h3 e (by simpa using he) hb
theorem cnt_lt {p p':Nat→Bool} {i:Nat}:∀ (l:List Nat),(∀ k,p' k=true→p k=true)→i ∈ l→p i=true→p' i=false→l.countP p' < l.countP p
  | [],_,h,_,_=>by cases h
  | x :: l,hle,hi,h1,h2=>by
    have hm:l.countP p' ≤ l.countP p:=List.countP_mono_left fun y _=>hle y
    simp only [List.countP_cons]
    rcases List.mem_cons.1 hi with rfl | hi
    · simp only [h1,h2,if_true,Bool.false_eq_true,if_false];omega
    · have:=cnt_lt l hle hi h1 h2
      by_cases h3:p' x=true
      · simp only [h3,hle x h3,if_true];omega
      · simp only [h3]
        by_cases h4:p x=true
        · simp only [h4,if_true];simp;omega
        · simp only [h4];simpa using this
theorem getD_set {listed:Array Bool} {i j:Nat} (hi:i < listed.size):(listed.setIfInBounds i true).getD j false=if j=i then true else listed.getD j false:=by
  simp only [Array.getD_eq_getD_getElem?,Array.getElem?_setIfInBounds]
  by_cases h:i=j
  · subst h;simp [hi]
  · simp [h,Ne.symm h]
theorem getD_tf {listed:Array Bool} {i:Nat} (hi:i < listed.size):listed.getD i true=listed.getD i false:=by
  simp [Array.getD,hi]
section
variable {P:Program} {X:Ctx} {C:Calls'} {okD:Nat→Bool}
theorem draw_ok (hC:CallOk P C) (hok:∀ d,okD d=true→d < X.n∧X.prot d=false):DrawOk P X C okD:=by
  intro ops xs first e e' a0 w0 Q ht hdr h St0 hQ
  obtain ⟨hlen,hget⟩:=trIs_get ht
  have hF:=drawOk_facts hdr hlen
  generalize hB:masksGo ops.toList []=B at hF
  have hsz:ops.toList.length=ops.size:=by simp
  have hxl:xs.length=ops.size:=by rw [hlen];simp
  have hoat:∀ i,i < ops.size → ∃ o,ops[i]? = some o∧ops.toList[i]? = some o:=fun i hi=>⟨ops[i],by simp [hi],by simp [hi]⟩
  have htr:∀ i o x,ops[i]? = some o→xs[i]? = some x→trI P okD ops o (decide (first ≤ i))=some x:=fun i o x ho hx=>by
    obtain ⟨hi,rfl⟩:=List.getElem?_eq_some_iff.1 hx
    have hi2:i < ops.size:=by omega
    have:=hget i (by simpa using hi2) hi
    simp only [Nat.zero_add,Array.getElem_toList] at this
    simp only [hi2,getElem?_pos,Option.some.injEq] at ho
    rw [← ho];exact this
  have hbar:∀ k (hk:k < xs.length),xs[k].bar=decide (first ≤ k):=fun k hk=>by
    obtain ⟨o,ho,_⟩:=hoat k (by omega)
    exact (trI_some (htr k o xs[k] ho (by simp [hk]))).2.2.2.1
  have hfle:first ≤ ops.size:=by have:=hF.le;omega
  unfold regD at h
  simp only at h
  split at h
  case isFalse=>cases h
  case isTrue hall =>
  obtain ⟨V,E,hE0,hE,hst⟩:=stepsD_spec (first:=first) h (by omega) hbar
  generalize hds:dstsOf xs=ds at *
  have hmem:∀ k d,k < first→dstAt xs k=some d→d ∈ ds:=fun k d hk hd=>by rw [← hds];exact dstsOf_mem hbar k d hk hd
  have hxat:∀ i,i < ops.size → ∃ x,xs[i]? = some x:=fun i hi=>⟨xs[i]'(by omega),by simp [show i < xs.length by omega]⟩
  have uniq:∀ k j t,k < first→j < first→dstAt xs k=some t→dstAt xs j=some t→k=j:=by
    intro k j t hk hj h1 h2
    rcases Nat.lt_trichotomy k j with hlt | heq | hlt
    · obtain ⟨x,hx⟩:=hxat j (by omega)
      obtain ⟨d,hd,hno⟩:=hF.dst j x hj hx
      have:dstAt xs j=some d:=by simp [dstAt,hx,hd]
      rw [h2] at this
      obtain rfl:=Option.some.inj this
      exact absurd h1 (hno k hlt)
    · exact heq
    · obtain ⟨x,hx⟩:=hxat k (by omega)
      obtain ⟨d,hd,hno⟩:=hF.dst k x hk hx
      have:dstAt xs k=some d:=by simp [dstAt,hx,hd]
      rw [h1] at this
      obtain rfl:=Option.some.inj this
      exact absurd h2 (hno j hlt)
  simp only [List.all_eq_true,Bool.and_eq_true,Bool.not_eq_true',List.contains_eq_mem,decide_eq_false_iff_not] at hall
  have eget:∀ d,d ∈ ds→e.get d = .none:=fun d hd=>by
    rcases get_mem e d with h | h
    · exact h
    · exact absurd hd (hall _ h).2
  have enr:∀ t,noRefs ds (e.get t)=true:=fun t=>by
    rcases get_mem e t with h | h
    · rw [h];rfl
    · exact (hall _ h).1
  have hVat:∀ i x,i < first→xs[i]? = some x → ∃ d,x.dst=some d∧dstAt xs i=some d∧stepD C e.sub ds (E i) x=some (d,V i)∧E (i + 1)=(E i).set d (V i):=fun i x hi hx=>by
    obtain ⟨d,h1,h2,h3⟩:=hE i x hi hx
    exact ⟨d,h1,by simp [dstAt,hx,h1],h2,h3⟩
  have Vnr:∀ i,i < first→noRefs ds (V i)=true:=fun i hi=>by
    obtain ⟨x,hx⟩:=hxat i (by omega)
    obtain ⟨d,_,_,h2,_⟩:=hVat i x hi hx
    exact stepD_nr h2
  let G:=GV first (dstAt xs) V e.get
  have Gnr:∀ lst t,noRefs ds (G lst t)=true:=fun lst t=>by
    by_cases hx:∃ k,k < first∧dstAt xs k=some t
    · obtain ⟨k,hk,hD⟩:=hx
      rw [show G lst t=_ from GV_at uniq hk hD]
      split
      · exact Vnr k hk
      · rfl
    · rw [show G lst t=_ from GV_not hx];exact enr t
  have Gsub:∀ lst,SubsOk e.sub (G lst):=fun lst r p=>by
    by_cases hx:∃ k,k < first∧dstAt xs k=some r
    · obtain ⟨k,hk,hD⟩:=hx
      left
      have:=eget r (hmem k r hk hD)
      simp only [Env.sub,this]
      cases p <;> simp [Ab.sub,kids]
    · right
      rw [show G lst r=_ from GV_not hx];rfl
  have hEget:∀ k,k ≤ first → ∀ t,(E k).get t=G (fun j=>decide (j < k)) t:=by
    intro k
    induction k with
    | zero =>
      intro _ t
      rw [hE0]
      by_cases hx:∃ k,k < first∧dstAt xs k=some t
      · obtain ⟨k,hk,hD⟩:=hx
        rw [show G (fun j=>decide (j < 0)) t=_ from GV_at uniq hk hD]
        simp [eget t (hmem k t hk hD)]
      · exact (GV_not hx).symm
    | succ k ih =>
      intro hk t
      obtain ⟨x,hx⟩:=hxat k (by omega)
      obtain ⟨d,h1,hD,h2,h3⟩:=hVat k x (by omega) hx
      rw [h3,get_set]
      by_cases htd:t=d
      · subst htd
        rw [if_pos rfl,show G (fun j=>decide (j < k + 1)) t=_ from GV_at uniq (by omega) hD]
        simp
      · rw [if_neg htd,ih (by omega)]
        refine GV_congr uniq fun j hj hDj=>?_
        have:j ≠ k:=by
          rintro rfl
          rw [hD] at hDj
          exact htd (Option.some.inj hDj).symm
        simp only [decide_eq_decide];omega
  let cnt:=fun (listed:Array Bool)=>(List.range ops.size).countP fun i=>!listed.getD i false
  have cnt_set:∀ (listed:Array Bool) (i:Nat),listed.size=ops.size→i < ops.size→listed.getD i false=false→cnt (listed.setIfInBounds i true) < cnt listed:=fun listed i hs hi hl=>by
    refine cnt_lt _ (fun k hk=>?_) (List.mem_range.2 hi) (by simp [hl]) (by rw [getD_set (by omega)];simp)
    rw [getD_set (by omega)] at hk
    split at hk
    · simp at hk
    · exact hk
  have cnt_zero:∀ (listed:Array Bool),cnt listed=0 → ∀ i,i < ops.size→listed.getD i false=true:=fun listed h0 i hi=>by
    have:=List.countP_eq_zero.1 h0 i (List.mem_range.2 hi)
    simpa using this
  have phB : ∀ (fuel:Nat) (listed:Array Bool) (a:Act) (w:World) (j:Nat) (ej:Env),listed.size=ops.size→(∀ i,i < ops.size→(listed.getD i false=true ↔ i < j))→first ≤ j→j ≤ ops.size→cnt listed ≤ fuel →
      X.St ej.get a w→steps C ej (xs.drop j)=some e' → wpAny P .any ops Q fuel listed a w:=by
    intro fuel
    induction fuel with
    | zero =>
      intro listed a w j ej hs hl hfj hj hc S hstp
      have hz:=cnt_zero listed (by omega)
      have hjn:j=ops.size:=by
        rcases Nat.lt_or_ge j ops.size with h | h
        · have:=(hl j h).1 (hz j h);omega
        · omega
      subst hjn
      refine ⟨?_,?_⟩
      · cases hr:Region.ready .any ops listed with
        | nil=>rfl
        | cons i r =>
          have:i ∈ Region.ready .any ops listed:=by rw [hr];simp
          obtain ⟨h1,h2,_⟩:=ready_iff.1 this
          rw [getD_tf (by omega),hz i h1] at h2;cases h2
      · rw [show xs.drop ops.size=[] by rw [← hxl];simp] at hstp
        simp only [steps,Option.some.injEq] at hstp
        subst hstp
        exact hQ _ _ S
    | succ fuel ih =>
      intro listed a w j ej hs hl hfj hj hc S hstp
      refine ⟨fun hr=>?_,fun i hi=>?_⟩
      · have hjn:j=ops.size:=by
          rcases Nat.lt_or_ge j ops.size with h | h
          · exfalso
            obtain ⟨o,ho,ho2⟩:=hoat j h
            have:j ∈ Region.ready .any ops listed:=ready_iff.2 ⟨h,by
              rw [getD_tf (by omega)]
              cases hh:listed.getD j false
              · rfl
              · have:=(hl j h).1 hh;omega,o,ho,fun ed he hb=>by
              have:=hF.low j o ho2 ed he hb
              exact (hl ed.on (by omega)).2 this⟩
            rw [hr] at this;cases this
          · omega
        subst hjn
        rw [show xs.drop ops.size=[] by rw [← hxl];simp] at hstp
        simp only [steps,Option.some.injEq] at hstp
        subst hstp
        exact hQ _ _ S
      · obtain ⟨h1,h2,o,ho,hed⟩:=ready_iff.1 hi
        obtain ⟨o',ho',ho2⟩:=hoat i h1
        rw [ho] at ho'
        obtain rfl:=Option.some.inj ho'
        rw [getD_tf (by omega)] at h2
        have hij:i=j:=by
          have hge:¬ i < j:=fun h=>by have:=(hl i h1).2 h;rw [h2] at this;cases this
          rcases Nat.lt_or_ge j i with h | h
          · exfalso
            have hreach:=hF.reach (lst:=fun k=>listed.getD k false=true) (fun k ok hk hok ed he hb=>by
              obtain ⟨hk2,_⟩:=List.getElem?_eq_some_iff.1 hok
              have hk3:k < ops.size:=by simpa using hk2
              have h3:=(hl k hk3).1 hk
              have h4:=hF.low k ok hok ed he hb
              exact (hl ed.on (by omega)).2 (by omega)) (i + 1) i o (by omega) ho2 hed j (hF.bar i (by omega) (by simpa using h1) j h)
            have:=(hl j (by omega)).1 hreach
            omega
          · omega
        subst hij
        obtain ⟨x,hx⟩:=hxat i h1
        have hdrop:xs.drop i=x :: xs.drop (i + 1):=by
          obtain ⟨hlt,rfl⟩:=List.getElem?_eq_some_iff.1 hx
          exact List.drop_eq_getElem_cons hlt
        rw [hdrop] at hstp
        simp only [steps] at hstp
        split at hstp
        · rename_i e1 he1
          have hnext:∀ a' w',X.St e1.get a' w' → wpAny P .any ops Q fuel (listed.setIfInBounds i true) a' w':=fun a' w' S' =>
            ih _ a' w' (i + 1) e1 (by simpa using hs) (fun k hk=>by
              rw [getD_set (by omega)]
              by_cases hki:k=i
              · subst hki;simp
              · rw [if_neg hki,hl k hk];omega) (by omega) (by omega) (by have:=cnt_set listed i hs h1 h2;omega) S' hstp
          unfold wpOp
          rw [ho]
          simp only
          rcases step_sound (Q:=Q) hC hok S (htr i o x ho hx) he1 with ⟨hw,hss⟩ | ⟨hw,hss⟩
          · rw [if_pos hw];exact .inl (Oper.wp_mono (fun a' w' hh=>hnext a' w' hh) hss)
          · rw [if_neg (by rw [hw];simp)];exact hnext _ _ hss
        · cases hstp
  have phA : ∀ (fuel:Nat) (listed:Array Bool) (a:Act) (w:World),listed.size=ops.size→(∀ i o,listed.getD i false=true→ops.toList[i]? = some o → ∀ ed ∈ o.after.toList,Region.binds .any ed=true→listed.getD ed.on false=true) →
      (∀ i,first ≤ i→listed.getD i false=false)→cnt listed ≤ fuel→X.St (G (fun j=>listed.getD j false)) a w→wpAny P .any ops Q fuel listed a w:=by
    intro fuel
    induction fuel with
    | zero =>
      intro listed a w hs hcl hbs hc S
      have hz:=cnt_zero listed (by omega)
      refine phB 0 listed a w first (E first) hs (fun i hi=>⟨fun hh=>?_,fun hh=>hz i hi⟩) (Nat.le_refl _) hfle hc (S.congr fun t=>?_) hst
      · rcases Nat.lt_or_ge i first with h | h
        · exact h
        · rw [hbs i h] at hh;cases hh
      · rw [hEget first (Nat.le_refl _)]
        exact GV_congr uniq fun k hk hD=>by rw [hz k (by omega)];simpa using hk
    | succ fuel ih =>
      intro listed a w hs hcl hbs hc S
      by_cases hall2:∀ k,k < first→listed.getD k false=true
      · refine phB (fuel + 1) listed a w first (E first) hs (fun i hi=>⟨fun hh=>?_,fun hh=>hall2 i hh⟩) (Nat.le_refl _) hfle hc (S.congr fun t=>?_) hst
        · rcases Nat.lt_or_ge i first with h | h
          · exact h
          · rw [hbs i h] at hh;cases hh
        · rw [hEget first (Nat.le_refl _)]
          exact GV_congr uniq fun k hk hD=>by rw [hall2 k hk];simpa using hk
      · have hne : ∃ k,k < first∧listed.getD k false=false:=by
          apply Classical.byContradiction
          intro hn
          apply hall2
          intro k hk
          cases hh:listed.getD k false
          · exact absurd ⟨k,hk,hh⟩ hn
          · rfl
        refine ⟨fun hr=>?_,fun i hi=>?_⟩
        · exfalso
          have least:∀ m,m < first→listed.getD m false=false→False:=by
            intro m
            induction m using Nat.strongRecOn with
            | _ m ihm =>
              intro hm hml
              obtain ⟨o,ho,ho2⟩:=hoat m (by omega)
              have:m ∈ Region.ready .any ops listed:=ready_iff.2 ⟨by omega,by rw [getD_tf (by omega)];exact hml,o,ho,fun ed he hb=>by
                have hlow:=hF.low m o ho2 ed he hb
                cases hh:listed.getD ed.on false
                · exact (ihm ed.on hlow (by omega) hh).elim
                · rfl⟩
              rw [hr] at this;cases this
          obtain ⟨k,hk,hkl⟩:=hne
          exact least k hk hkl
        · obtain ⟨h1,h2,o,ho,hed⟩:=ready_iff.1 hi
          obtain ⟨o',ho',ho2⟩:=hoat i h1
          rw [ho] at ho'
          obtain rfl:=Option.some.inj ho'
          rw [getD_tf (by omega)] at h2
          have hreach:=hF.reach (lst:=fun k=>listed.getD k false=true) (fun k ok hk hok ed he hb=>hcl k ok hk hok ed he hb) (i + 1) i o (by omega) ho2 hed
          have hif:i < first:=by
            rcases Nat.lt_or_ge i first with h | h
            · exact h
            · exfalso
              obtain ⟨k,hk,hkl⟩:=hne
              have:=hreach k (hF.bar i h (by simpa using h1) k (by omega))
              rw [hkl] at this;cases this
          obtain ⟨x,hx⟩:=hxat i h1
          obtain ⟨d,hxd,hD,hsd,_⟩:=hVat i x hif hx
          have hnext:∀ a' w',X.St (fun t=>if t=d then V i else G (fun j=>listed.getD j false) t) a' w' → wpAny P .any ops Q fuel (listed.setIfInBounds i true) a' w':=fun a' w' S' =>
            ih _ a' w' (by simpa using hs) (fun k ok hk hok ed he hb=>by
              rw [getD_set (by omega)] at hk ⊢
              split
              · rfl
              · split at hk
                · rename_i hki;subst hki
                  rw [ho2] at hok
                  obtain rfl:=Option.some.inj hok
                  exact hed ed he hb
                · exact hcl k ok hk hok ed he hb) (fun k hk=>by rw [getD_set (by omega),if_neg (by omega)];exact hbs k hk) (by have:=cnt_set listed i hs h1 h2;omega) (S'.congr fun t=>by
              by_cases htd:t=d
              · subst htd
                rw [if_pos rfl,show G _ t=_ from GV_at uniq hif hD,getD_set (by omega)]
                simp
              · rw [if_neg htd]
                refine GV_congr uniq fun k hk hDk=>?_
                have:k ≠ i:=by
                  rintro rfl
                  rw [hD] at hDk
                  exact htd (Option.some.inj hDk).symm
                rw [getD_set (by omega),if_neg this])
          have hag:∀ t ∈ tempsOf x,G (fun j=>listed.getD j false) t=(E i).get t:=fun t htt=>by
            rw [hEget i (by omega)]
            refine GV_congr uniq fun k hk hDk=>?_
            have hbit:=hF.see i x hif hx t htt k hk hDk
            rw [hreach k hbit]
            have:=hF.lt ho2 hbit
            simp [this]
          obtain ⟨_,_,hres⟩:=stepD_sound (Q:=Q) hC hok S (htr i o x ho hx) hag (Gsub _) hsd (hmem i d hif hD) (Gnr _)
          unfold wpOp
          rw [ho]
          simp only
          rcases hres with ⟨hw,hss⟩ | ⟨hw,hss⟩
          · rw [if_pos hw];exact .inl (Oper.wp_mono (fun a' w' hh=>hnext a' w' hh) hss)
          · rw [if_neg (by rw [hw];simp)];exact hnext _ _ hss
  refine phA ops.size _ a0 w0 (by simp) (fun i o hi=>?_) (fun i _=>?_) ?_ (St0.congr fun t=>?_)
  · simp [Array.getD] at hi
  · simp [Array.getD]
  · have:=List.countP_le_length (l:=List.range ops.size) (p:=fun i=>!(Array.replicate ops.size false).getD i false)
    rw [List.length_range] at this
    exact this
  · have:=hEget 0 (by omega) t
    rw [hE0] at this
    rw [this]
    exact GV_congr uniq fun k _ _=>by simp [Array.getD]
end
end Go.Ab
namespace Go.Ab
open Go
set_option linter.unusedVariables false
set_option linter.unusedSimpArgs false
section
variable {P:Program} {n m:Nat} {w:World} {L:LM} {a:Act} {e:Env}
theorem give_sound (I:InvF n m w L a e.get) {keep:Bool} {v y:PV} {u:Value} {e':Env} (V:RepV w L Option.none v u) (h:give keep e v=some (y,e')) :
    ∃ L',InvF n (m + 1) w L' a e'.get∧RepV w L' (some (n,[m])) y u∧refs y=[]∧FlyOk w L w L' n m∧Ext w L w L':=by
  have viaTake:take1 e v=some (y,e') → ∃ L',InvF n (m + 1) w L' a e'.get∧RepV w L' (some (n,[m])) y u∧refs y=[]∧FlyOk w L w L' n m∧Ext w L w L':=fun h=>by
    obtain ⟨L',h1,h2,h3,_,h4,h5,_⟩:=take1_sound I V h
    exact ⟨L',h1,h2,h3,h4.1,h5⟩
  have viaCopy:copy1 e v=some (y,e') → ∃ L',InvF n (m + 1) w L' a e'.get∧RepV w L' (some (n,[m])) y u∧refs y=[]∧FlyOk w L w L' n m∧Ext w L w L':=fun h=>by
    obtain ⟨L',h1,h2,h3,h4,h5,_⟩:=copy1_sound I V h
    exact ⟨L',h1.more (by omega),h2.any h3 _,free_refs h3,h5.2,h4⟩
  unfold give at h
  split at h
  · rename_i cs
    simp only [Option.map_eq_some_iff,Prod.mk.injEq] at h
    obtain ⟨⟨ys,e3⟩,h3,rfl,rfl⟩:=h
    cases V with
    | agg _ _ vs hz hcs =>
      obtain ⟨L1,gone,I1,hlen,H1,E1,B1,_,_⟩:=copyL_sound (us:=fun i=>vs.getD i undef) (l:=[]) I (fun i hi=>hcs i hi) h3
      refine ⟨L1,I1.more (by omega),.agg _ _ _ (by simp;omega) fun i hi=>?_,refsL_free fun i hi=>?_,B1.2,E1⟩
      · have hi':i < ys.length:=by simpa using hi
        simp only [List.getElem_map]
        exact (norm1_rep (H1 i hi').1).any (norm1_free (H1 i hi').2) _
      · have hi':i < ys.length:=by simpa using hi
        simp only [List.getElem_map]
        exact norm1_free (H1 i hi').2
  · exact viaTake h
  · split at h
    · exact viaTake h
    · exact viaCopy h
  · split at h
    · simp only [Option.some.injEq,Prod.mk.injEq] at h
      obtain ⟨rfl,rfl⟩:=h
      exact ⟨L,I.more (by omega),V.any rfl _,rfl,fun _ _ _ _ H _=>H,.refl _ _⟩
    · simp only [Option.some.injEq,Prod.mk.injEq] at h
      obtain ⟨rfl,rfl⟩:=h
      exact ⟨L,I.more (by omega),(norm1_rep V).any rfl _,rfl,fun _ _ _ _ H _=>H,.refl _ _⟩
  · split at h
    · rename_i hf
      simp only [Option.some.injEq,Prod.mk.injEq] at h
      obtain ⟨rfl,rfl⟩:=h
      exact ⟨L,I.more (by omega),V.any hf _,free_refs hf,fun _ _ _ _ H _=>H,.refl _ _⟩
    · cases h
def trR (P:Program):ResultVar→Option XR
  | .tmp t=>some (.tmp t)
  | .cell t ty=>(aggP P ty).bind fun agg=>(szP P ty).bind fun sz=>if agg=false→sz=1 then some (.cell t agg sz) else Option.none
def oneR (tmps:Array Value):ResultVar→Sem Value
  | .tmp t=>pure (tmps.getD t undef)
  | .cell a t=>do loadVar t (← asAddr (tmps.getD a undef))
theorem resVal_sound (I:Inv n w L a e.get) {r:ResultVar} {x:XR} (ht:trR P r=some x) {v:PV} (h:resVal e x=some v) :
    ∃ u,(oneR a.tmps r).run P w = .ok u w∧RepV w L Option.none v u:=by
  cases r with
  | tmp t =>
    simp only [trR,Option.some.injEq] at ht
    subst ht
    simp only [resVal,Option.some.injEq] at h
    subst h
    exact ⟨a.eval (.tmp t),by simp [oneR,Act.eval],I.look (o:=.tmp t) rfl _⟩
  | cell t ty =>
    simp only [trR,Option.bind_eq_some_iff] at ht
    obtain ⟨agg,ha,sz,hz,ht⟩:=ht
    split at ht
    · rename_i h1
      obtain rfl:=Option.some.inj ht
      simp only [resVal] at h
      split at h
      · rename_i r p i m e0
        split at h
        · rename_i cs hcs
          split at h
          · rename_i hle
            let o : Oper := { dst := Option.none, op := .load ty (.tmp t), type := 0, pos := "", after := #[], guard := Option.none }
            have:=ok_load_ref (o:=o) (P:=P) I rfl (x:=.tmp t) (x':=.t t) rfl ha hz h1 e0 hcs hle.1 hle.2
            obtain ⟨u,hr,hrep,_⟩:=this
            refine ⟨u,?_,?_⟩
            · have A:=I.look (o:=.tmp t) (x:=.t t) rfl Option.none
              rw [show lookG e.get (.t t) = .ref r p i m from e0] at A
              have e1:a.tmps.getD t undef=a.eval (.tmp t):=rfl
              simp only [execOp,o,Instr.loadAt] at hr
              simp only [oneR,e1]
              generalize a.eval (.tmp t)=u0 at A hr ⊢
              cases A with
              | ref _ _ _ _ _ b j hp hl =>
                simp only [Instr.sureAddr,Sem.run_bind,Sem.run_pure,Result.andThen_ok] at hr
                simp only [asAddr,Sem.run_bind,Sem.run_pure,Result.andThen_ok]
                generalize (loadVar ty ⟨b,j,Option.none⟩).run P w=res at hr ⊢
                cases res with
                | ok v' w'=>simp only [Result.andThen_ok,Sem.run_pure,Result.ok.injEq,Next.value.injEq] at hr;rw [hr.1,hr.2]
                | halt x w'=>simp [Result.andThen] at hr
            · cases agg with
              | true=>simp only [if_true,Option.some.injEq] at h;subst h;exact hrep _
              | false =>
                simp only [Bool.false_eq_true,if_false,Option.map_eq_some_iff] at h
                obtain ⟨c,hc1,rfl⟩:=h
                obtain ⟨hlt,rfl⟩:=List.getElem?_eq_some_iff.1 hc1
                have:=hrep Option.none
                simpa [hlt] using this
          · cases h
        · cases h
      · cases h
    · cases ht
end
end Go.Ab
namespace Go.Ab
open Go
set_option linter.unusedVariables false
set_option linter.unusedSimpArgs false
def trRs (P:Program):List ResultVar→Option (List XR)
  | []=>some []
  | r :: rs=>(trR P r).bind fun x=>(trRs P rs).map fun xs=>x :: xs
section
variable {P:Program} {n:Nat} {w:World} {a:Act}
theorem resL_sound {keep:Bool}:∀ {rs:List ResultVar} {xs:List XR} {m:Nat} {L:LM} {e e':Env} {ys:List PV},trRs P rs=some xs→InvF n m w L a e.get→resL keep e xs=some (ys,e') →
    ∃ L' us,InvF n (m + rs.length) w L' a e'.get∧ys.length=rs.length∧us.length=rs.length∧(rs.mapM (oneR a.tmps)).run P w = .ok us w ∧
      (∀ k (hk:k < ys.length) (hk':k < us.length),RepV w L' (some (n,[m + k])) ys[k] us[k]∧refs ys[k]=[])∧FlyOk w L w L' n m∧Ext w L w L'
  | [],xs,m,L,e,e',ys,ht,I,h=>by
    simp only [trRs,Option.some.injEq] at ht
    subst ht
    simp only [resL,Option.some.injEq,Prod.mk.injEq] at h
    obtain ⟨rfl,rfl⟩:=h
    exact ⟨L,[],by simpa using I,rfl,rfl,by simp,fun k hk=>by simp at hk,fun _ _ _ _ H _=>H,.refl _ _⟩
  | r :: rs, xs,m,L,e,e',ys,ht,I,h=>by
    simp only [trRs,Option.bind_eq_some_iff,Option.map_eq_some_iff] at ht
    obtain ⟨x,hx,xs',hxs,rfl⟩:=ht
    simp only [resL] at h
    split at h
    · rename_i v hv
      split at h
      · rename_i y e1 hg
        split at h
        · rename_i ys1 e2 h2
          simp only [Option.some.injEq,Prod.mk.injEq] at h
          obtain ⟨rfl,rfl⟩:=h
          obtain ⟨u,hr,V⟩:=resVal_sound (P:=P) I.toInv hx hv
          obtain ⟨L1,I1,H1,hr1,F1,E1⟩:=give_sound I V hg
          obtain ⟨L2,us,I2,hl1,hl2,hrun,H2,F2,E2⟩:=resL_sound hxs I1 h2
          refine ⟨L2,u :: us,by simpa [Nat.add_assoc,Nat.add_comm 1] using I2,by simp [hl1],by simp [hl2],by simp [List.mapM_cons,hr,hrun],fun k hk hk'=>?_,fun k y uy hk H hy=>F2 k y uy (by omega) (F1 k y uy hk H hy) hy,E1.trans E2⟩
          cases k with
          | zero=>exact ⟨F2 m _ _ (by omega) H1 hr1,hr1⟩
          | succ k =>
            have:=H2 k (by simpa using hk) (by simpa using hk')
            simpa [Nat.add_assoc,Nat.add_comm 1] using this
        · cases h
      · cases h
    · cases h
end
end Go.Ab
namespace Go.Ab
open Go
set_option linter.unusedVariables false
set_option linter.unusedSimpArgs false
def TOk (P:Program) (T:Nat→Option XF):Prop :=
  ∀ f x, T f = some x → (∃ k, x.ext = some k ∧ CallOk1 P f (extSem k)) ∨ x.ext = Option.none ∧ ∃ fn code hints, P.funcs[f]? = some fn ∧ (fn.name == "runtime.NumGoroutine") = false ∧ fn.body = some code ∧ x.np ≤ fn.ntmps ∧
    trC P (fun d=>decide (d < fn.ntmps) && !x.prot.contains d) code hints=some (x.body,[])∧trRs P fn.results.toList=some x.res
def inL:Lab→Lab
  | .own _ (k :: s) i=>.own k s i
  | .own _ [] _=>.out
  | l=>l
def outL (n np len:Nat):Lab→Lab
  | .own t s i=>if t=n then (match s with
      | k :: s'=>if len=1 then (if k=0 then .own 0 (0 :: s') i else .out) else .own 0 (0 :: k :: s') i
      | []=>.out)
    else if t < np then .own 0 ((1 + t) :: s) i else .out
  | l=>l
theorem inL_own {l:Lab} {r:Nat} {p:List Nat} {i:Nat} (h:inL l = .own r p i):∃ q,l = .own q (r :: p) i:=by
  cases l with
  | out=>cases h
  | sh=>cases h
  | own q s j =>
    cases s with
    | nil=>cases h
    | cons k s=>simp only [inL,Lab.own.injEq] at h;obtain ⟨rfl,rfl,rfl⟩:=h;exact ⟨q,rfl⟩
theorem outL_own {n np len:Nat} {l:Lab} {r:Nat} {p:List Nat} {i:Nat} (h:outL n np len l = .own r p i) :
    r=0∧((∃ k s,l = .own n (k :: s) i∧((len=1∧k=0∧p=0 :: s) ∨ (len ≠ 1∧p=0 :: k :: s))) ∨ (∃ t s,t ≠ n∧t < np∧l = .own t s i∧p=(1 + t) :: s)):=by
  cases l with
  | out=>cases h
  | sh=>cases h
  | own t s j =>
    simp only [outL] at h
    split at h
    · rename_i ht;subst ht
      split at h
      · rename_i k s'
        split at h
        · rename_i hl
          split at h
          · rename_i hk
            simp only [Lab.own.injEq] at h;obtain ⟨rfl,rfl,rfl⟩:=h
            exact ⟨rfl,.inl ⟨k,s',rfl,.inl ⟨hl,hk,rfl⟩⟩⟩
          · cases h
        · rename_i hl
          simp only [Lab.own.injEq] at h;obtain ⟨rfl,rfl,rfl⟩:=h
          exact ⟨rfl,.inl ⟨k,s',rfl,.inr ⟨hl,rfl⟩⟩⟩
      · cases h
    · rename_i ht
      split at h
      · rename_i hnp
        simp only [Lab.own.injEq] at h;obtain ⟨rfl,rfl,rfl⟩:=h
        exact ⟨rfl,.inr ⟨t,s,ht,hnp,rfl,rfl⟩⟩
      · cases h
theorem params_get:∀ (ws:List PV) (i t:Nat),(params i ws).get t=if i ≤ t∧t < i + ws.length then ws.getD (t - i) .none else .none
  | [],i,t=>by simp [params,Env.get]
  | v :: r,i,t=>by
    simp only [params,Env.get,params_get r (i + 1) t,List.length_cons]
    by_cases h:t=i
    · subst h;simp
    · rw [if_neg h]
      by_cases h2:i + 1 ≤ t∧t < i + 1 + r.length
      · rw [if_pos h2,if_pos (by omega),show t - i=(t - (i + 1)) + 1 by omega];simp
      · rw [if_neg h2,if_neg (by omega)]
theorem outsOf_length (prot:List Nat) (e:Env):∀ (i:Nat) (as:List PV),(outsOf prot e i as).length=as.length
  | _,[]=>rfl
  | i,a :: as=>by simp [outsOf,outsOf_length prot e (i + 1) as]
theorem outsOf_get (prot:List Nat) (e:Env):∀ (i:Nat) (as:List PV) (k:Nat) (hk:k < (outsOf prot e i as).length),(outsOf prot e i as)[k]=if prot.contains (i + k) then boxOnly (e.get (i + k)) else .none
  | i,[],k,hk=>by simp [outsOf] at hk
  | i,a :: as,k,hk=>by
    cases k with
    | zero=>simp only [outsOf,List.getElem_cons_zero,Nat.add_zero]
    | succ k =>
      have:=outsOf_get prot e (i + 1) as k (by simpa [outsOf] using hk)
      simp only [outsOf,List.getElem_cons_succ]
      rw [this,show i + 1 + k=i + (k + 1) by omega]
theorem refsL_nil {cs:List PV} (h:∀ i (hi:i < cs.length),refs cs[i]=[]):refsL cs=[]:=by
  induction cs with
  | nil=>rfl
  | cons c cs ih =>
    simp only [refsL,List.append_eq_nil_iff]
    exact ⟨h 0 (by simp),ih fun i hi=>h (i + 1) (by simpa using hi)⟩
section
variable {P:Program}
theorem WF.outed {n m np len:Nat} {w:World} {L:LM} {a:Act} {g:Nat→PV} (I:InvF n m w L a g):WF w (fun b j=>outL n np len (L b j)) where
  inj b j b' j' r p i e e':=by
    obtain ⟨_,h1⟩:=outL_own e
    obtain ⟨_,h2⟩:=outL_own e'
    rcases h1 with ⟨k,s,h1,h3⟩ | ⟨t,s,ht,htn,h1,h3⟩ <;> rcases h2 with ⟨k',s',h2,h4⟩ | ⟨t',s',ht',htn',h2,h4⟩
    · have:k=k' ∧ s=s':=by
        rcases h3 with ⟨h5,rfl,rfl⟩ | ⟨h5,rfl⟩ <;> rcases h4 with ⟨h6,rfl,h7⟩ | ⟨h6,h7⟩
        · simp at h7;exact ⟨rfl,h7⟩
        · exact absurd h5 h6
        · exact absurd h6 h5
        · simp at h7;exact h7
      obtain ⟨rfl,rfl⟩:=this
      exact I.wf.inj _ _ _ _ _ _ _ h1 h2
    · rw [h4] at h3
      rcases h3 with ⟨_,_,h⟩ | ⟨_,h⟩ <;> simp only [List.cons.injEq] at h <;> omega
    · rw [h3] at h4
      rcases h4 with ⟨_,_,h⟩ | ⟨_,h⟩ <;> simp only [List.cons.injEq] at h <;> omega
    · rw [h3] at h4
      simp only [List.cons.injEq] at h4
      obtain ⟨h5,rfl⟩:=h4
      obtain rfl:t=t':=by omega
      exact I.wf.inj _ _ _ _ _ _ _ h1 h2
  ex b j h:=I.wf.ex b j fun e=>h (by rw [e];rfl)
  thaw b j r p i e:=by
    obtain ⟨_,h1⟩:=outL_own e
    rcases h1 with ⟨k,s,h1,_⟩ | ⟨t,s,_,_,h1,_⟩
    · exact I.wf.thaw _ _ _ _ _ h1
    · exact I.wf.thaw _ _ _ _ _ h1
end
end Go.Ab
namespace Go.Ab
open Go
set_option linter.unusedVariables false
set_option linter.unusedSimpArgs false
theorem results_run {P:Program} {fn:Func} {tmps:Array Value} {w:World} {us:List Value} (h:(fn.results.toList.mapM (oneR tmps)).run P w = .ok us w):(results fn tmps).run P w = .ok (if h:us.length=1 then us[0] else .tuple us.toArray) w:=by
  have e:results fn tmps=(fn.results.mapM (oneR tmps) >>= fun vs=>pure (if h:vs.size=1 then vs[0] else .tuple vs)):=by
    unfold results
    refine congrArg (fun f=>(fn.results.mapM f >>= fun vs=>pure (if h:vs.size=1 then vs[0] else Value.tuple vs))) ?_
    funext r;cases r <;> rfl
  rw [e,Array.mapM_eq_mapM_toList]
  simp only [Sem.run_bind,Sem.run_map,h,Result.andThen_ok,Sem.run_pure]
  simp
section
variable {P:Program}
theorem entered {args:Array Value} {w:World} {L:LM} {ws:List PV} {nt:Nat} (hsz:args.size=ws.length) (hnt:ws.length ≤ nt) (W:WF w L) (bd:∀ b j q p i,L b j = .own q p i→q=0 ∧ ∃ k s,p=k :: s∧k < ws.length)
    (H:∀ i (hi:i < ws.length),RepV w L (some (0,[i])) ws[i] (args.getD i undef)∧refs ws[i]=[]) :
    InvF nt 0 w (fun b j=>inL (L b j)) { tmps:=args ++ Array.replicate (nt - args.size) undef,defers:=[] } (params 0 ws).get:=by
  refine ⟨⟨⟨fun b j b' j' r p i e e'=>?_,fun b j h=>W.ex b j fun e=>h (by rw [e];rfl),fun b j r p i e=>?_⟩,fun t=>?_,rfl,by simp;omega⟩,fun b j r p i e=>?_,fun t ht=>?_,fun t q hq=>?_⟩
  · obtain ⟨q,h1⟩:=inL_own e
    obtain ⟨q',h2⟩:=inL_own e'
    obtain ⟨rfl,_⟩:=bd _ _ _ _ _ h1
    obtain ⟨rfl,_⟩:=bd _ _ _ _ _ h2
    exact W.inj _ _ _ _ _ _ _ h1 h2
  · obtain ⟨q,h1⟩:=inL_own e
    exact W.thaw _ _ _ _ _ h1
  · rw [params_get]
    by_cases h:0 ≤ t∧t < 0 + ws.length
    · rw [if_pos h]
      have ht:t < ws.length:=by omega
      have h1:=H t ht
      have e1:Act.eval { tmps:=args ++ Array.replicate (nt - args.size) undef,defers:=[] } (.tmp t)=args.getD t undef:=by
        simp [Act.eval,Array.getD,Array.getElem_append,show t < args.size by omega,show t < args.size + (nt - args.size) by omega]
      rw [e1,Nat.sub_zero,show ws.getD t .none=ws[t] by simp [ht]]
      exact h1.1.move (σ:=inL) (h':=some (t,[])) rfl (fun s i=>rfl) (by simp [h1.2])
    · rw [if_neg h];exact .none _ _
  · obtain ⟨q,h1⟩:=inL_own e
    obtain ⟨_,k,s,h2,h3⟩:=bd _ _ _ _ _ h1
    simp only [List.cons.injEq] at h2
    exact .inl (by omega)
  · rw [params_get,if_neg (by omega)]
  · rw [params_get] at hq
    split at hq
    · rename_i h
      have ht:t < ws.length:=by omega
      rw [Nat.sub_zero,show ws.getD t .none=ws[t] by simp [ht],(H t ht).2] at hq
      cases hq
    · simp [refs] at hq
theorem norm1_refs (v:PV):refs (norm1 v)=refs v:=by cases v <;> rfl
theorem refsL_norm (cs:List PV):refsL (cs.map norm1)=refsL cs:=by
  induction cs with
  | nil=>rfl
  | cons c cs ih=>simp [refsL,norm1_refs,ih]
theorem normA_rep {w:World} {L:LM} {h:Hd} {v:PV} {u:Value} (H:RepV w L h v u):RepV w L h (normA v) u∧refs (normA v)=refs v:=by
  cases v with
  | agg cs =>
    cases H with
    | agg _ _ vs hz hc =>
      refine ⟨.agg _ _ _ (by simp;omega) fun i hi=>?_,refsL_norm cs⟩
      simp only [List.getElem_map]
      exact norm1_rep (hc i (by simpa using hi))
  | _=>exact ⟨norm1_rep H,rfl⟩
theorem argsIn_rep {nk:Bool} {w:World} {L:LM} {ws:List PV} {args:Array Value} (H:∀ i (hi:i < ws.length),RepV w L (some (0,[i])) ws[i] (args.getD i undef)∧refs ws[i]=[]) :
    (argsIn nk ws).length=ws.length ∧ ∀ i (hi:i < (argsIn nk ws).length),RepV w L (some (0,[i])) (argsIn nk ws)[i] (args.getD i undef)∧refs (argsIn nk ws)[i]=[]:=by
  unfold argsIn
  cases nk with
  | true=>exact ⟨rfl,H⟩
  | false =>
    simp only [Bool.false_eq_true,if_false]
    refine ⟨by simp,fun i hi=>?_⟩
    have hi':i < ws.length:=by simpa using hi
    obtain ⟨h1,h2⟩:=H i hi'
    obtain ⟨h3,h4⟩:=normA_rep h1
    simp only [List.getElem_map]
    exact ⟨h3,h4.trans h2⟩
theorem evF_sound (hm:P.follows .mixedOrders=true) {T:Nat→Option XF} (hT:TOk P T):∀ n,CallOk P (evF T n)
  | 0=>fun f ws r outs h=>by simp [evF] at h
  | n + 1 => fun f ws r outs h=>by
    have ih:=evF_sound hm hT n
    simp only [evF] at h
    split at h
    · rename_i x hx
      have hTx:=hT f x hx
      split at h
      · rename_i k hk
        rcases hTx with ⟨k',hk',hc⟩ | ⟨h0,_⟩
        · rw [hk,Option.some.injEq] at hk'
          subst hk'
          exact hc ws r outs h
        · rw [hk] at h0;cases h0
      rename_i hx0
      replace hTx:=(hTx.resolve_left fun ⟨k,hk,_⟩=>by rw [hx0] at hk;cases hk).2
      split at h
      · rename_i hlen
        obtain ⟨fn,code,hints,hf,hname,hbody,hnp,htr,htrr⟩:=hTx
        refine ⟨⟨fn,hf,hname,by rw [hbody];rfl⟩,fun args w L hsz W bd H=>?_⟩
        obtain ⟨hl',H'⟩:=argsIn_rep (nk:=x.nk) H
        have I0:=entered (nt:=fn.ntmps) (ws:=argsIn x.nk ws) (hsz.trans hl'.symm) (by omega) W (by rw [hl'];exact bd) H'
        generalize ha0:({ tmps:=args ++ Array.replicate (fn.ntmps - args.size) undef,defers:=[] }:Act)=a0 at I0
        let X:Ctx:={ n:=fn.ntmps,w0:=w,L0:=fun b j=>inL (L b j),prot:=fun t=>x.prot.contains t,v0:=fun t=>a0.eval (.tmp t) }
        have hok:∀ d,(decide (d < fn.ntmps) && !x.prot.contains d)=true→d < X.n∧X.prot d=false:=fun d hd=>by
          simp only [Bool.and_eq_true,decide_eq_true_eq,Bool.not_eq_true'] at hd
          exact hd
        have S0:X.St (params 0 (argsIn x.nk ws)).get a0 w:=⟨_,I0,.refl _ _,fun t _=>rfl⟩
        have fin:∀ e1 vs e2 a' w',resL x.keep e1 x.res=some (vs,e2)→r=tupOf vs→outs=outsOf x.prot e2 0 ws→X.St e1.get a' w' → a'.defers=[] ∧ ∃ v,(results fn a'.tmps).run P w' = .ok v w' ∧ RetOk w L args r outs v w':=by
          intro e1 vs e2 a' w' hres hr ho St
          obtain ⟨L1,I1,E1,F1⟩:=St
          obtain ⟨L2,us,I2,hl1,hl2,hrun,H2,_,E2⟩:=resL_sound htrr I1 hres
          refine ⟨I1.df,_,results_run hrun,?_⟩
          subst hr;subst ho
          have hn0:x.np ≤ fn.ntmps:=hnp
          have hvu:vs.length=us.length:=by omega
          have H2:∀ k (hk:k < vs.length) (hk':k < us.length),RepV w' L2 (some (fn.ntmps,[0 + k])) vs[k] us[k]∧refs vs[k]=[]:=H2
          refine ⟨fun b j=>outL fn.ntmps x.np us.length (L2 b j),WF.outed I2,(Ext.relabel w L (σ:=inL) rfl rfl).trans (E1.trans (E2.trans (Ext.relabel w' L2 (σ:=outL fn.ntmps x.np us.length) rfl rfl))),fun b j q p i hh=>?_,?_,?_,fun i hi=>?_⟩
          · obtain ⟨h0,h1⟩:=outL_own hh
            refine ⟨h0,?_⟩
            rw [outsOf_length]
            rcases h1 with ⟨k,s,_,⟨_,_,h3⟩ | ⟨_,h3⟩⟩ | ⟨t,s,_,h2,_,h3⟩
            · exact ⟨0,_,h3,by omega⟩
            · exact ⟨0,_,h3,by omega⟩
            · exact ⟨1 + t,s,h3,by omega⟩
          · by_cases h1:us.length=1
            · rw [dif_pos h1]
              obtain ⟨u,rfl⟩:=List.length_eq_one_iff.1 h1
              obtain ⟨v,rfl⟩:=List.length_eq_one_iff.1 (hvu.trans h1)
              have:=H2 0 (by simp) (by simp)
              exact this.1.move (σ:=outL fn.ntmps x.np 1) (h':=some (0,[0])) rfl (fun s i=>by simp [outL]) (fun q hq=>by rw [this.2] at hq;cases hq)
            · rw [dif_neg h1]
              have ht:tupOf vs = .tup vs:=by
                match vs,hvu with
                | [],_=>rfl
                | [v],hv=>exact absurd hv.symm h1
                | _ :: _ :: _,_=>rfl
              rw [ht]
              refine .tup _ _ _ (by simp [hvu]) fun k hk=>?_
              have:=H2 k hk (by omega)
              have e5:us.toArray.getD k undef=us[k]'(by omega):=by simp [Array.getD,show k < us.length by omega]
              rw [e5]
              exact this.1.move (σ:=outL fn.ntmps x.np us.length) (h':=Hd.snoc (some (0,[0])) k) rfl (fun s i=>by simp [outL,h1]) (fun q hq=>by rw [this.2] at hq;cases hq)
          · have hall:∀ i (hi:i < vs.length),refs vs[i]=[]:=fun i hi=>(H2 i hi (by omega)).2
            match vs,hall with
            | [],_=>rfl
            | [v],hv=>exact hv 0 (by simp)
            | a :: b :: c,hv=>exact refsL_nil hv
          · rw [outsOf_get]
            have hi':i < ws.length:=by rw [outsOf_length] at hi;exact hi
            simp only [Nat.zero_add]
            by_cases hp:x.prot.contains i=true
            · rw [if_pos hp]
              have ea:X.v0 i=args.getD i undef:=by
                show a0.eval (.tmp i)=_
                rw [← ha0]
                simp [Act.eval,Array.getD,Array.getElem_append,show i < args.size by omega,show i < args.size + (fn.ntmps - args.size) by omega]
              cases hg:e2.get i with
              | box cs =>
                have HB:=I2.rep i
                rw [hg,F1 i hp,ea] at HB
                refine ⟨HB.move (σ:=outL fn.ntmps x.np us.length) (h':=some (0,[1 + i])) rfl (fun s j=>?_) (by simp [refs]),rfl,rfl⟩
                simp [outL,show i ≠ fn.ntmps by omega,show i < x.np by omega]
              | own sz m cs =>
                have HB:=I2.rep i
                rw [hg,F1 i hp,ea] at HB
                refine ⟨HB.move (σ:=outL fn.ntmps x.np us.length) (h':=some (0,[1 + i])) rfl (fun s j=>?_) (by simp [refs]),rfl,rfl⟩
                simp [outL,show i ≠ fn.ntmps by omega,show i < x.np by omega]
              | _=>exact ⟨.none _ _,rfl,rfl⟩
            · rw [if_neg hp];exact ⟨.none _ _,rfl,rfl⟩
        refine calls_of_wp hf hbody ?_
        rw [ha0]
        split at h
        · cases h
        · rename_i ex e1 hne hev
          simp only [Option.map_eq_some_iff,Prod.mk.injEq] at h
          obtain ⟨⟨vs,e2⟩,hres,hr,ho⟩:=h
          refine (evC_sound ih hm hok (draw_ok ih hok) n code hints [] x.body _ _ _ a0 w _ htr hev S0 fun a' w' St=>?_).1
          have:=fin e1 vs e2 a' w' hres hr.symm ho.symm St
          cases ex with
          | norm=>exact this
          | ret=>exact this
          | exit id=>exact absurd rfl (hne _)
        · cases h
      · cases h
    · cases h
end
end Go.Ab
