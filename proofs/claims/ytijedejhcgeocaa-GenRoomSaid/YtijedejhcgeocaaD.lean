/-
  Texts of this seat: lemmas on the way to the statement.
-/
import Derived.Test.YtijedejhcgeocaaC
import Derived.Test.YtijedejhcgeocaaB
import Derived.Test.YtijedejhcgeocaaRows
set_option linter.unusedVariables false
set_option linter.unusedSimpArgs false
namespace Go.Ab
open Go
section
variable {P:Program} {n:Nat} {w:World} {L:LM} {A:AM} {st:HSt} {a:Act}
theorem resH1_sound{e:HEnv}(I:HInv n w L A st a e.get){r:ResultVar}{x:XR}(ht:trR P r=some x){v:HV}(h:resH1 (e,st) x=some v):
 ∃u,(oneR a.tmps r).run P w = .ok u w/\RepH w L A v u:=by
 cases r with
 | tmp t=>
   simp only[trR,Option.some.injEq] at ht
   subst ht
   simp only[resH1,Option.some.injEq] at h
   subst h
   exact⟨a.eval (.tmp t),by simp[oneR,Act.eval],(I.rep t).vis⟩
 | cell t ty=>
   simp only[trR,Option.bind_eq_some_iff] at ht
   obtain⟨agg,ha,sz,hz,ht⟩:=ht
   split at ht
   ·rename_i h1
    obtain rfl:=Option.some.inj ht
    simp only[resH1] at h
    split at h
    ·rename_i i k e0
     split at h
     ·rename_i cs hcs
      have H:=(I.rep t).vis
      rw[e0] at H
      obtain⟨b,j,u',h2,h3,h4⟩:=run_loadH (b:=0) I.ok ha hz h1 H hcs h
      have e1:a.tmps.getD t undef=a.eval (.tmp t):=rfl
      exact⟨u',by simp[oneR,e1,h2,asAddr,h3],h4⟩
     ·cases h
    ·cases h
   ·cases ht
theorem resHL_sound{e:HEnv}(I:HInv n w L A st a e.get):∀{rs:List ResultVar} {xs:List XR} {ys:List HV},trRs P rs=some xs->resHL (e,st) xs=some ys ->
 ∃us,ys.length=rs.length/\us.length=rs.length/\(rs.mapM (oneR a.tmps)).run P w = .ok us w/\∀k (hk:k<ys.length) (hk':k<us.length),RepH w L A ys[k] us[k]
 | [],xs,ys,ht,h=>by
   simp only[trRs,Option.some.injEq] at ht
   subst ht
   simp only[resHL,Option.some.injEq] at h
   subst h
   exact⟨[],rfl,rfl,by simp,fun k hk=>by simp at hk⟩
 | r::rs,xs,ys,ht,h=>by
   simp only[trRs,Option.bind_eq_some_iff,Option.map_eq_some_iff] at ht
   obtain⟨x,hx,xs',hxs,rfl⟩:=ht
   simp only[resHL] at h
   split at h
   ·rename_i v vs hv hvs
    simp only[Option.some.injEq] at h
    subst h
    obtain⟨u,hr,V⟩:=resH1_sound (P:=P) I hx hv
    obtain⟨us,h1,h2,h3,h4⟩:=resHL_sound I hxs hvs
    refine⟨u::us,by simp[h1],by simp[h2],by simp[List.mapM_cons,hr,h3],fun k hk hk'=>?_⟩
    cases k with
    | zero=>exact V
    | succ k=>simpa using h4 k (by simpa using hk) (by simpa using hk')
   ·cases h
def TOkH(P:Program)(T:Nat->Option HF):Prop:=
 ∀ f x, T f = some x → ∃ fn code hints, P.funcs[f]? = some fn ∧ (fn.name == "runtime.NumGoroutine") = false ∧ fn.body = some code ∧ x.np ≤ fn.ntmps ∧ fn.ntmps ≤ HK ∧
  trHC P (fun d=>decide (d<fn.ntmps)) code hints=some (x.body,[])/\trRs P fn.results.toList=some x.res
theorem paramsH_get:∀(ws:List HV) (i t:Nat),(paramsH i ws).get t = if i<=t/\t<i+ws.length then ws.getD (t-i) (.p .none) else .p .none
 | [],i,t=>by simp[paramsH,HEnv.get]
 | v::r,i,t=>by
   simp only[paramsH,HEnv.get,paramsH_get r (i+1) t,List.length_cons]
   by_cases h:t=i
   ·subst h;simp
   ·rw[if_neg h]
    by_cases h2:i+1<=t/\t<i+1+r.length
    ·rw[if_pos h2,if_pos (by omega),show t-i=(t-(i+1))+1 by omega];simp
    ·rw[if_neg h2,if_neg (by omega)]
theorem enteredH{args:Array Value}{ws:List HV}{nt:Nat}(hsz:args.size=ws.length)(hnt:ws.length<=nt)(O:HOk w L A st)(H:∀i (hi:i<ws.length),RepH w L A ws[i] (args.getD i undef)):
 HInv nt w L A st { tmps:=args++Array.replicate (nt-args.size) undef,defers:=[] } (paramsH 0 ws).get:=by
 refine⟨O,fun t=>?_,rfl,by simp;omega,fun t ht=>?_⟩
 ·rw[paramsH_get]
  by_cases h:0<=t/\t<0+ws.length
  ·rw[if_pos h]
   have ht:t<ws.length:=by omega
   have e1:Act.eval { tmps:=args++Array.replicate (nt-args.size) undef,defers:=[] } (.tmp t)=args.getD t undef:=by
    simp[Act.eval,Array.getD,Array.getElem_append,show t<args.size by omega,show t<args.size+(nt-args.size) by omega]
   rw[e1,Nat.sub_zero,show ws.getD t (.p .none)=ws[t] by simp[ht]]
   exact .inl (H t ht)
  ·rw[if_neg h];exact .inl (.none _)
 ·rw[paramsH_get,if_neg (by omega)]
theorem evHF_sound(hm:P.follows .mixedOrders=true){C:Calls'}(hC:CallOk P C){K:HCalls}(hK:HCallOk P K){T:Nat->Option HF}(hT:TOkH P T):∀n,HCallOk P (evHF C K T n)
 | 0=>fun f ws st r st' h=>by simp[evHF] at h
 | n+1=>fun f ws st r st' h=>by
   have ih:=evHF_sound hm hC hK hT n
   simp only[evHF] at h
   split at h
   ·rename_i rk hk
    obtain rfl:=Option.some.inj h
    exact hK f ws st r st' hk
   split at h
   ·rename_i x hx
    split at h
    ·rename_i hlen
     obtain⟨fn,code,hints,hf,hname,hbody,hnp,hnt,htr,htrr⟩:=hT f x hx
     refine⟨⟨fn,hf,hname,by rw[hbody];rfl⟩,fun args w L A hsz O bd Hargs=>?_⟩
     have I0:=enteredH (nt:=fn.ntmps) hsz (by omega) O Hargs
     generalize ha0:({ tmps:=args++Array.replicate (fn.ntmps-args.size) undef,defers:=[] }:Act)=a0 at I0
     let X:HCtx:={ n:=fn.ntmps,w0:=w,L0:=L,A0:=A,st0:=st }
     have hX:X.Good:=⟨hnt,O⟩
     have hok:∀d,decide (d<fn.ntmps)=true->d<X.n:=fun d hd=>by simpa using hd
     have S0:X.St ((paramsH 0 ws).get,st) a0 w:=⟨L,A,I0,.refl _ _ _⟩
     have fin:∀(s:HS) vs a' w',resHL (hland s (x.res.map resT)) x.res=some vs->r=tupHOf vs->st'=(hland s (x.res.map resT)).2->X.St (s.1.get,s.2) a' w'->a'.defers=[]/\∃v,(results fn a'.tmps).run P w' = .ok v w'/\HRetOk w L A r st' v w':=by
      intro s vs a' w' hres hr hs' S
      obtain⟨h1,h2⟩:=hland_G (x.res.map resT) s
      obtain⟨L1,A1,I1,E1⟩:=HCtx.St.land hX (x.res.map resT) S
      rw[←h1,←h2] at I1
      obtain⟨us,hl1,hl2,hrun,H2⟩:=resHL_sound I1 htrr hres
      refine⟨I1.df,_,results_run hrun,?_⟩
      obtain⟨Oc,Ec⟩:=I1.ok.cut
      subst hr;subst hs'
      refine⟨_,A1,Oc,fun b j q p i h=>(cutL_own h).2,?_,E1.tr O Ec⟩
      have hvu:vs.length=us.length:=by omega
      have H3:∀k (hk:k<vs.length) (hk':k<us.length),RepH w' (fun b j=>cutL (L1 b j)) A1 vs[k] us[k]:=fun k hk hk'=>(H2 k hk hk').evo Ec I1.ok.wf
      by_cases h1:us.length=1
      ·rw[dif_pos h1]
       obtain⟨u,rfl⟩:=List.length_eq_one_iff.1 h1
       obtain⟨v,rfl⟩:=List.length_eq_one_iff.1 (hvu.trans h1)
       exact H3 0 (by simp) (by simp)
      ·rw[dif_neg h1]
       have ht:tupHOf vs=mkTup vs:=by
        match vs,hvu with
        | [],_=>rfl
        | [v],hv=>exact absurd hv.symm h1
        | _::_::_,_=>rfl
       rw[ht]
       refine RepH.mkTup (by simp[hvu]) fun k hk=>?_
       have:=H3 k hk (by omega)
       have e5:us.toArray.getD k undef=us[k]'(by omega):=by simp[Array.getD,show k<us.length by omega]
       rw[e5];exact this
     refine calls_of_wp hf hbody ?_
     rw[ha0]
     split at h
     ·cases h
     ·rename_i ex s1 hne hev
      simp only[Option.map_eq_some_iff,Prod.mk.injEq] at h
      obtain⟨vs,hres,hr,ho⟩:=h
      refine (evHC_sound hX hC ih hm hok (draw_okH hX hC ih hok) n code hints [] x.body _ _ _ a0 w _ htr hev S0 fun a' w' S=>?_).1
      have:=fin s1 vs a' w' hres hr.symm ho.symm S
      cases ex with
      | norm=>exact this
      | ret=>exact this
      | exit id=>exact absurd rfl (hne _)
     ·cases h
    ·cases h
   ·cases h
end
open Go
def hintsH:HC->List HHint
 | .skip=>[]
 | .reg ops _ k=>[⟨k,ops.map fun o=>(o.bar,o.loose),false⟩]
 | .seq a b=>hintsH a++hintsH b
 | .cond (.k .none) _ _ _=>[⟨[],[],true⟩]
 | .cond _ a b k=>hintsH a++(hintsH b++[⟨k,[],false⟩])
 | .block _ b k=>hintsH b++[⟨k,[],false⟩]
 | .loop b k=>hintsH b++[⟨k,[],false⟩]
 | .exit _ k=>[⟨k,[],false⟩]
 | .ret=>[]
def OkH1(P:Program)(f:Nat)(x:HF):Prop:=
 ∃ fn code hints, P.funcs[f]? = some fn ∧ (fn.name == "runtime.NumGoroutine") = false ∧ fn.body = some code ∧ x.np ≤ fn.ntmps ∧ fn.ntmps ≤ HK ∧
  trHC P (fun d=>decide (d<fn.ntmps)) code hints=some (x.body,[])/\trRs P fn.results.toList=some x.res
def lookH:Nat->List (Nat×HF)->Option HF
 | _,[]=>Option.none
 | f,(k,x)::r=>if f=k then some x else lookH f r
def AllOk(P:Program):List (Nat×HF)->Prop
 | []=>True
 | (k,x)::r=>OkH1 P k x/\AllOk P r
theorem tok_of{P:Program}:∀{l:List (Nat×HF)},AllOk P l->TOkH P (fun f=>lookH f l)
 | [],_,f,x,h=>by cases h
 | (k,y)::r,ha,f,x,h=>by
   simp only[lookH] at h
   split at h
   ·rename_i e
    obtain rfl:=Option.some.inj h
    subst e
    obtain⟨fn,code,hints,h1⟩:=ha.1
    exact⟨fn,code,hints,h1⟩
   ·exact tok_of ha.2 f x h
open Go
def HV.isP:HV->Bool
 | .p v=>v.loose
 | _=>false
def sealed(H:HCalls):HCalls:=fun f ws st=>
 if ws.all HV.isP then match H f ws [] with
  | some (.p v,_)=>if v.flat then some (.p v,st) else Option.none
  | _=>Option.none
 else Option.none
section
variable {P:Program}
theorem sealed_ok{H:HCalls}(hH:HCallOk P H):HCallOk P (sealed H):=by
 intro f ws st r st' h
 unfold sealed at h
 split at h
 case isFalse=>cases h
 rename_i hall
 split at h
 case h_2=>cases h
 rename_i v st1 hev
 split at h
 case isFalse=>cases h
 rename_i hflat
 simp only[Option.some.injEq,Prod.mk.injEq] at h
 obtain⟨rfl,rfl⟩:=h
 obtain⟨hfn,hcalls⟩:=hH f ws [] _ _ hev
 refine⟨hfn,fun args w L A hsz O bd Hargs=>?_⟩
 have W0:=WF.outAll O.wf
 have O0:HOk w (fun b j=>outAll (L b j)) [] []:=by
  refine⟨W0,rfl,fun b j r p i h _=>?_,fun a k h=>by simp at h,fun a b o m k h=>by simp at h,fun a a' b o m o' m' ks vs h=>by simp at h⟩
  cases e:L b j <;> simp[e,outAll] at h
 have shO:∀b j,L b j = .sh->outAll (L b j) = .sh:=fun b j h=>by rw[h];rfl
 refine Calls.mono (hcalls args w _ [] hsz O0 (fun b j q p i h=>by cases e:L b j <;> simp[e,outAll] at h) fun i hi=>?_) fun en w' he=>?_
 ·have h1:=List.all_eq_true.1 hall _ (List.getElem_mem hi)
  have h2:=Hargs i hi
  generalize ws[i]=x at h1 h2
  cases x with
  | p pv=>
    obtain⟨h3,h4⟩:=h2.pv
    exact .p _ _ h3 (h4.frame (fun b j hr=>by rw[shO b j hr.shared,hr.shared]) (fun q hq=>by rw[loose_refs h3] at hq;cases hq) fun _ _ _=>rfl)
  | _=>simp[HV.isP] at h1
 ·cases en with
  | panicked=>exact he.elim
  | outgrown=>exact he.elim
  | returned u=>
    obtain⟨L',A',O',bd',Hr,E⟩:=he
    obtain⟨hl,Hr⟩:=Hr.pv
    have blk:∀b,b<w.heap.size->SameBlk (fun b j=>outAll (L b j)) b w.heap[b]? w'.heap[b]?:=fun b hb=>by
     rcases E.blk b hb with⟨a,o,m,es,c,h,_⟩|h
     ·simp at h
     ·exact h
    have blk':∀b,b<w.heap.size->SameBlk L b w.heap[b]? w'.heap[b]?:=fun b hb=>(blk b hb).weaken fun j hj=>by
     rcases hj with hj|hj <;> simp[hj,outAll]
    let L2:LM:=fun b j=>if b<w.heap.size then L b j else .out
    have hin:∀{b j},b<w.heap.size->L2 b j=L b j:=fun {b j} h=>by simp only[L2,h,if_true]
    have cell:∀b j,L b j ≠ .out->w'.cell? ⟨b,j,Option.none⟩=w.cell? ⟨b,j,Option.none⟩/\w'.frozen? ⟨b,j,Option.none⟩=w.frozen? ⟨b,j,Option.none⟩:=fun b j h=>by
     have hb:=O.wf.lt h
     obtain⟨v,hv⟩:=O.wf.ex b j h
     have hs:=blk b hb
     cases e:w.heap[b]? with
     | none=>simp[World.cell?,e] at hv
     | some ob=>
       rw[e] at hs
       cases ob with
       | cells c t fr=>
         cases e':w'.heap[b]? with
         | none=>rw[e'] at hs;cases hs
         | some ob'=>
           rw[e'] at hs
           cases ob' with
           | cells c' t' fr'=>
             obtain⟨rfl,rfl,h3,h4⟩:=hs
             refine⟨?_,by simp[World.frozen?,e,e']⟩
             have:=h4 j (by cases e2:L b j <;> simp[e2,outAll])
             simp only[World.cell?,e,e']
             simpa using this
           | _=>cases hs
       | _=>simp[World.cell?,e] at hv
    have W:WF w' L2:=by
     refine⟨fun b j b' j' r p i h h'=>?_,fun b j h=>?_,fun b j r p i h=>?_⟩
     ·have hb:b<w.heap.size:=by apply Classical.byContradiction;intro hn;simp[L2,hn] at h
      have hb':b'<w.heap.size:=by apply Classical.byContradiction;intro hn;simp[L2,hn] at h'
      rw[hin hb] at h;rw[hin hb'] at h'
      exact O.wf.inj _ _ _ _ _ _ _ h h'
     ·have hb:b<w.heap.size:=by apply Classical.byContradiction;intro hn;simp[L2,hn] at h
      rw[hin hb] at h
      obtain⟨v,hv⟩:=O.wf.ex b j h
      exact⟨v,by rw[(cell b j h).1,hv]⟩
     ·have hb:b<w.heap.size:=by apply Classical.byContradiction;intro hn;simp[L2,hn] at h
      rw[hin hb] at h
      rw[(cell b j (by rw[h];simp)).2];exact O.wf.thaw _ _ _ _ _ h
    have E2:Evo w L A w' L2 A:=⟨E.os,E.tape,E.output,E.size,fun b j hb _=>hin hb,fun b hb=>.inr (blk' b hb),Nat.le_refl _,fun _ _=>.inl rfl,fun a b o m h _=>.inl ⟨a,o,m,h⟩⟩
    have Ex:Ext w L w' L2:=⟨E.os,E.tape,E.output,E.size,fun b j hb _=>hin hb,blk'⟩
    have G:Go1 w L w' L2:=⟨W,Ex,fun b j h=>hin (O.wf.lt (fun e=>by rw[e] at h;exact h)),fun b j h=>(cell b j (fun e=>by rw[e] at h;exact h)).1⟩
    have O2:HOk w' L2 A st:=O.grow G fun b j r p i h _=>by
     have hb:b<w.heap.size:=by apply Classical.byContradiction;intro hn;simp[L2,hn] at h
     rwa [hin hb] at h
    refine⟨L2,A,O2,fun b j q p i h=>?_,.p _ _ hl (flat_rep Hr hflat),E2⟩
    have hb:b<w.heap.size:=by apply Classical.byContradiction;intro hn;simp[L2,hn] at h
    rw[hin hb] at h
    exact bd _ _ _ _ _ h
end
def HLe(H H':HCalls):Prop:=∀f ws st r,H f ws st=some r->H' f ws st=some r
theorem HLe.refl(H:HCalls):HLe H H:=fun _ _ _ _ h=>h
section
variable {C:Calls'} {H H':HCalls}
theorem evHS_mono(h:HLe H H'){L:XO->HV}{st:HSt}{x:HOp}{r:HV×HSt}(hv:evHS H L st x=some r):evHS H' L st x=some r:=by
 cases x with
 | x o=>
   cases o
   case call f az ms=>simp only[evHS] at hv ⊢;exact h _ _ _ _ hv
   case callv f az=>
    simp only[evHS] at hv ⊢
    split at hv
    ·exact h _ _ _ _ hv
    ·exact h _ _ _ _ hv
    ·exact h _ _ _ _ hv
    ·cases hv
   all_goals exact hv
 | _=>exact hv
theorem stepHL_mono(h:HLe H H'){s s':HS}{o:HI}(hv:stepHL C H s o=some s'):stepHL C H' s o=some s':=by
 unfold stepHL at hv ⊢
 split at hv
 ·rename_i v e;(try simp only[e]);exact hv
 ·rename_i e
  (try simp only[e])
  split at hv
  ·rename_i v st e2
   simp only[evHS_mono h e2];exact hv
  ·cases hv
theorem stepH_mono(h:HLe H H'){s s':HS}{o:HI}(hv:stepH C H s o=some s'):stepH C H' s o=some s':=by
 unfold stepH at hv ⊢
 split at hv
 ·rename_i e;(try simp only[e]);exact stepHL_mono h hv
 ·rename_i e;(try simp only[e]);exact hv
 ·cases hv
theorem stepsH_mono(h:HLe H H'):∀{l:List HI} {s s':HS},stepsH C H s l=some s'->stepsH C H' s l=some s'
 | [],s,s',hv=>hv
 | o::l,s,s',hv=>by
   simp only[stepsH] at hv ⊢
   split at hv
   ·rename_i s1 e;simp only[stepH_mono h e];exact stepsH_mono h hv
   ·cases hv
theorem traceHD_mono(h:HLe H H'):∀{l:List HI} {s:HS} {tr:List HS},traceHD C H s l=some tr->traceHD C H' s l=some tr
 | [],s,tr,hv=>hv
 | o::l,s,tr,hv=>by
   simp only[traceHD] at hv ⊢
   split at hv
   ·rename_i hb
    rw[if_pos hb]
    split at hv
    ·rename_i s1 e
     simp only[Option.map_eq_some_iff] at hv
     obtain⟨t,ht,rfl⟩:=hv
     simp only[stepH_mono h e,traceHD_mono h ht,Option.map_some]
    ·cases hv
   ·rename_i hb
    rw[if_neg hb]
    split at hv
    ·rename_i d v e
     simp only[Option.map_eq_some_iff] at hv
     obtain⟨t,ht,rfl⟩:=hv
     simp only[e,traceHD_mono h ht,Option.map_some]
    ·cases hv
theorem regHD_mono(h:HLe H H'){s s':HS}{l:List HI}(hv:regHD C H s l=some s'):regHD C H' s l=some s':=by
 unfold regHD at hv ⊢
 split at hv
 ·rename_i hf
  rw[if_pos hf]
  split at hv
  ·rename_i tr e;simp only[traceHD_mono h e];exact hv
  ·cases hv
 ·cases hv
theorem fgtH_inv{k:List Nat}{x:Option (Ex×HS)}{y:Ex×HS}(h:fgtH k x=some y):∃z,x=some z/\∀x',x'=some z->fgtH k x'=some y:=by
 cases x with
 | none=>simp[fgtH] at h
 | some z=>exact⟨z,rfl,fun x' e=>by rw[e];exact h⟩
theorem evHC_mono(h:HLe H H'):∀{n m:Nat} {c:HC} {s:HS} {x:Ex×HS},n<=m->evHC C H n c s=some x->evHC C H' m c s=some x
 | 0,m,c,s,x,_,hv=>by simp[evHC] at hv
 | n+1,0,c,s,x,hle,hv=>by omega
 | n+1,m+1,c,s,x,hle,hv=>by
   have ih:∀{c:HC} {s:HS} {x:Ex×HS},evHC C H n c s=some x->evHC C H' m c s=some x:=fun hv=>evHC_mono h (by omega) hv
   cases c with
   | skip=>exact hv
   | reg ops draw keep=>
     simp only[evHC,Option.map_eq_some_iff] at hv ⊢
     obtain⟨s1,h1,rfl⟩:=hv
     refine⟨s1,?_,rfl⟩
     cases draw with
     | true=>simp only[if_true] at h1 ⊢;exact regHD_mono h h1
     | false=>simp only[Bool.false_eq_true,if_false] at h1 ⊢;exact stepsH_mono h h1
   | seq a b=>
     simp only[evHC] at hv ⊢
     split at hv
     ·rename_i s1 e;simp only[ih e];exact ih hv
     ·rename_i hno
      have:=ih hv
      rw[this]
      obtain⟨ex,s1⟩:=x
      cases ex with
      | norm=>exact absurd hv (hno _)
      | _=>rfl
   | cond c a b k=>
     simp only[evHC] at hv ⊢
     obtain⟨z,hz,hf⟩:=fgtH_inv hv
     refine hf _ ?_
     split at hz
     ·rename_i e;(try simp only[e]);exact ih hz
     ·rename_i e;(try simp only[e]);exact ih hz
     ·cases hz
   | block id b k=>
     simp only[evHC] at hv ⊢
     cases hb:evHC C H n b s with
     | none=>rw[hb] at hv;simp[fgtH] at hv
     | some q=>rw[hb] at hv;rw[ih hb];exact hv
   | loop b k=>
     simp only[evHC] at hv ⊢
     cases hb:evHC C H n b s with
     | none=>rw[hb] at hv;simp[fgtH] at hv
     | some q=>
       rw[hb] at hv;rw[ih hb]
       obtain⟨ex,s1⟩:=q
       cases ex with
       | norm=>simp only[fgtH] at hv ⊢;exact ih hv
       | exit id=>exact hv
       | ret=>exact hv
   | exit id k=>exact hv
   | ret=>exact hv
variable {K:HCalls} {T:Nat->Option HF}
theorem evHF_mono:∀{n m:Nat},n<=m->HLe (evHF C K T n) (evHF C K T m)
 | 0,m,_,f,ws,st,r,h=>by simp[evHF] at h
 | n+1,0,hle,f,ws,st,r,h=>by omega
 | n+1,m+1,hle,f,ws,st,r,h=>by
   simp only[evHF] at h ⊢
   split at h
   ·rename_i k hk;(try simp only[hk]);exact h
   ·rename_i hk
    (try simp only[hk])
    split at h
    ·rename_i x hx
     (try simp only[hx])
     split at h
     ·rename_i hl
      rw[if_pos hl]
      have hle':HLe (evHF C K T n) (evHF C K T m):=evHF_mono (by omega)
      cases hb:evHC C (evHF C K T n) n x.body (paramsH 0 ws,st) with
      | none=>rw[hb] at h;cases h
      | some q=>rw[hb] at h;rw[evHC_mono hle' (by omega) hb];exact h
     ·cases h
    ·cases h
def Ans(C:Calls')(K:HCalls)(T:Nat->Option HF)(f:Nat)(ws:List HV)(st:HSt)(r:HV)(st':HSt):Prop:=∃n,evHF C K T n f ws st=some (r,st')
def Run(C:Calls')(K:HCalls)(T:Nat->Option HF)(c:HC)(s:HS)(ex:Ex)(s':HS):Prop:=∃n,evHC C (evHF C K T n) n c s=some (ex,s')
def Seq(C:Calls')(K:HCalls)(T:Nat->Option HF)(s:HS)(ops:List HI)(s':HS):Prop:=∃n,stepsH C (evHF C K T n) s ops=some s'
theorem Run.up{c:HC}{s s':HS}{ex:Ex}{n m:Nat}(hle:n<=m)(h:evHC C (evHF C K T n) n c s=some (ex,s')):evHC C (evHF C K T m) m c s=some (ex,s'):=evHC_mono (evHF_mono hle) hle h
theorem Ans.known{f:Nat}{ws:List HV}{st st':HSt}{r:HV}(h:K f ws st=some (r,st')):Ans C K T f ws st r st':=⟨1,by simp only[evHF,h]⟩
theorem Ans.intro{f:Nat}{x:HF}(hk:∀ws st,K f ws st=Option.none)(hx:T f=some x){ws:List HV}(hl:ws.length=x.np){st:HSt}{ex:Ex}{s:HS}(hb:Run C K T x.body (paramsH 0 ws,st) ex s)(hex:∀id,ex ≠ .exit id){vs:List HV}
 (hr:resHL (hland s (x.res.map resT)) x.res=some vs){r:HV}{st':HSt}(h1:r=tupHOf vs)(h2:st'=(hland s (x.res.map resT)).2):Ans C K T f ws st r st':=by
 obtain⟨n,hn⟩:=hb
 refine⟨n+1,?_⟩
 subst h1;subst h2
 simp only[evHF,hk,hx,hl,if_true,hn]
 cases ex with
 | norm=>simp[hr]
 | ret=>simp[hr]
 | exit id=>exact absurd rfl (hex id)
theorem Run.skip{s:HS}:Run C K T .skip s .norm s:=⟨1,rfl⟩
theorem Run.ret{s:HS}:Run C K T .ret s .ret s:=⟨1,rfl⟩
theorem Run.exit{s:HS}{id:Nat}{k:List Nat}:Run C K T (.exit id k) s (.exit id) (s.1.keep k,s.2):=⟨1,rfl⟩
theorem Run.seq{a b:HC}{s s1 s2:HS}{ex:Ex}(h1:Run C K T a s .norm s1)(h2:Run C K T b s1 ex s2):Run C K T (.seq a b) s ex s2:=by
 obtain⟨n,hn⟩:=h1
 obtain⟨m,hm⟩:=h2
 refine⟨max n m+1,?_⟩
 have e1:=evHC_mono (evHF_mono (C:=C) (K:=K) (T:=T) (show n<=max n m+1 by omega)) (show n<=max n m by omega) hn
 have e2:=evHC_mono (evHF_mono (C:=C) (K:=K) (T:=T) (show m<=max n m+1 by omega)) (show m<=max n m by omega) hm
 simp only[evHC,e1,e2]
def fgtS(k:List Nat)(ex:Ex)(s:HS):HS:=match ex with
 | .norm=>(s.1.keep k,s.2)
 | _=>s
theorem fgtH_S(k:List Nat)(ex:Ex)(s:HS):fgtH k (some (ex,s))=some (ex,fgtS k ex s):=by cases ex<;>rfl
def blockX(id:Nat):Ex->Ex
 | .exit id'=>if id'=id then .norm else .exit id'
 | e=>e
theorem Run.block{id:Nat}{b:HC}{k:List Nat}{s s1:HS}{ex:Ex}(h:Run C K T b s ex s1):Run C K T (.block id b k) s (blockX id ex) (fgtS k (blockX id ex) s1):=by
 obtain⟨n,hn⟩:=h
 refine⟨n+1,?_⟩
 have e1:=evHC_mono (evHF_mono (C:=C) (K:=K) (T:=T) (show n<=n+1 by omega)) (Nat.le_refl n) hn
 simp only[evHC,e1]
 cases ex with
 | norm=>rfl
 | ret=>rfl
 | exit id'=>
   by_cases hid:id'=id
   ·simp only[hid,if_true,blockX];rfl
   ·simp only[hid,if_false,blockX];rfl
theorem Run.loopX{b:HC}{k:List Nat}{s s1:HS}{ex:Ex}(h:Run C K T b s ex s1)(hx:ex ≠ .norm):Run C K T (.loop b k) s ex s1:=by
 obtain⟨n,hn⟩:=h
 refine⟨n+1,?_⟩
 have e1:=evHC_mono (evHF_mono (C:=C) (K:=K) (T:=T) (show n<=n+1 by omega)) (Nat.le_refl n) hn
 simp only[evHC,e1,fgtH_S]
 cases ex with
 | norm=>exact absurd rfl hx
 | _=>rfl
theorem Run.loopN{b:HC}{k:List Nat}{s s1 s2:HS}{ex:Ex}(h:Run C K T b s .norm s1)(h2:Run C K T (.loop b k) (s1.1.keep k,s1.2) ex s2):Run C K T (.loop b k) s ex s2:=by
 obtain⟨n,hn⟩:=h
 obtain⟨m,hm⟩:=h2
 refine⟨max n m+1,?_⟩
 have e1:=evHC_mono (evHF_mono (C:=C) (K:=K) (T:=T) (show n<=max n m+1 by omega)) (show n<=max n m by omega) hn
 have e2:=evHC_mono (evHF_mono (C:=C) (K:=K) (T:=T) (show m<=max n m+1 by omega)) (show m<=max n m by omega) hm
 simp only[evHC,e1,fgtH_S,fgtS,e2]
theorem Run.loop{b:HC}{k:List Nat}{ex:Ex}(I:HS->Prop)(Q:HS->Prop)(μ:HS->Nat)
 (step:∀s,I s->(∃s1,Run C K T b s ex s1/\ex ≠ .norm/\Q s1)\/∃s1,Run C K T b s .norm s1/\I (s1.1.keep k,s1.2)/\μ (s1.1.keep k,s1.2)<μ s):∀s,I s->∃s',Run C K T (.loop b k) s ex s'/\Q s':=by
 intro s
 induction hn:μ s using Nat.strongRecOn generalizing s with
 | ind n ih=>
   intro hs
   rcases step s hs with⟨s1,h1,h2,h3⟩|⟨s1,h1,h2,h3⟩
   ·exact⟨s1,.loopX h1 h2,h3⟩
   ·obtain⟨s',h4,h5⟩:=ih _ (by omega) _ rfl h2
    exact⟨s',.loopN h1 h4,h5⟩
theorem Run.reg{ops:List HI}{keep:List Nat}{s s':HS}(h:Seq C K T s ops s'):Run C K T (.reg ops false keep) s .norm (s'.1.keep keep,s'.2):=by
 obtain⟨n,hn⟩:=h
 refine⟨n+1,?_⟩
 have:=stepsH_mono (C:=C) (evHF_mono (C:=C) (K:=K) (T:=T) (show n<=n+1 by omega)) hn
 simp only[evHC,Bool.false_eq_true,if_false,this,Option.map_some]
theorem Run.regD{ops:List HI}{keep:List Nat}{s s':HS}(h:∃n,regHD C (evHF C K T n) s ops=some s'):Run C K T (.reg ops true keep) s .norm (s'.1.keep keep,s'.2):=by
 obtain⟨n,hn⟩:=h
 refine⟨n+1,?_⟩
 have:=regHD_mono (C:=C) (evHF_mono (C:=C) (K:=K) (T:=T) (show n<=n+1 by omega)) hn
 simp only[evHC,if_true,this,Option.map_some]
theorem Seq.nil{s:HS}:Seq C K T s [] s:=⟨0,rfl⟩
theorem Seq.cons{s s1 s':HS}{o:HI}{r:List HI}(h:∃n,stepH C (evHF C K T n) s o=some s1)(h2:Seq C K T s1 r s'):Seq C K T s (o::r) s':=by
 obtain⟨n,hn⟩:=h
 obtain⟨m,hm⟩:=h2
 refine⟨max n m,?_⟩
 simp only[stepsH,stepH_mono (evHF_mono (C:=C) (K:=K) (T:=T) (show n<=max n m by omega)) hn]
 exact stepsH_mono (evHF_mono (C:=C) (K:=K) (T:=T) (show m<=max n m by omega)) hm
end
open Go
def oel{α β:Type}(x:Option α)(f:α->β)(g:Unit->β):β:=match x with
 | some v=>f v
 | Option.none=>g ()
@[congr] theorem oel_congr{α β:Type}{x y:Option α}{f:α->β}{g:Unit->β}(h:x=y):oel x f g=oel y f g:=by rw[h]
theorem oel_some{α β:Type}{v:α}{f:α->β}{g:Unit->β}:oel (some v) f g=f v:=(rfl)
theorem oel_none{α β:Type}{f:α->β}{g:Unit->β}:oel Option.none f g=g ():=(rfl)
def bel{β:Type}(x:Bool)(f g:Unit->β):β:=match x with
 | true=>f ()
 | false=>g ()
@[congr] theorem bel_congr{β:Type}{x y:Bool}{f g:Unit->β}(h:x=y):bel x f g=bel y f g:=by rw[h]
theorem bel_true{β:Type}{f g:Unit->β}:bel true f g=f ():=(rfl)
theorem bel_false{β:Type}{f g:Unit->β}:bel false f g=g ():=(rfl)
def hvel{β:Type}(x:HV)(f g:Unit->Option β):Option β:=match x with
 | .p (.bool true)=>f ()
 | .p (.bool false)=>g ()
 | _=>Option.none
@[congr] theorem hvel_congr{β:Type}{x y:HV}{f g:Unit->Option β}(h:x=y):hvel x f g=hvel y f g:=by rw[h]
theorem hvel_true{β:Type}{f g:Unit->Option β}:hvel (.p (.bool true)) f g=f ():=(rfl)
theorem hvel_false{β:Type}{f g:Unit->Option β}:hvel (.p (.bool false)) f g=g ():=(rfl)
def exel(x:Option (Ex×HS))(f:HS->Option (Ex×HS)):Option (Ex×HS):=match x with
 | some (.norm,s)=>f s
 | r=>r
@[congr] theorem exel_congr{x y:Option (Ex×HS)}{f:HS->Option (Ex×HS)}(h:x=y):exel x f=exel y f:=by rw[h]
theorem exel_norm{s:HS}{f:HS->Option (Ex×HS)}:exel (some (.norm,s)) f=f s:=(rfl)
theorem exel_ret{s:HS}{f:HS->Option (Ex×HS)}:exel (some (.ret,s)) f=some (.ret,s):=(rfl)
theorem exel_exit{s:HS}{i:Nat}{f:HS->Option (Ex×HS)}:exel (some (.exit i,s)) f=some (.exit i,s):=(rfl)
def retel{β:Type}(x:Option (Ex×HS))(f:HS->Option β):Option β:=match x with
 | some (.exit _,_)=>Option.none
 | some (_,s)=>f s
 | Option.none=>Option.none
@[congr] theorem retel_congr{β:Type}{x y:Option (Ex×HS)}{f:HS->Option β}(h:x=y):retel x f=retel y f:=by rw[h]
theorem retel_norm{β:Type}{s:HS}{f:HS->Option β}:retel (some (.norm,s)) f=f s:=(rfl)
theorem retel_ret{β:Type}{s:HS}{f:HS->Option β}:retel (some (.ret,s)) f=f s:=(rfl)
theorem fgtH_norm{k:List Nat}{s:HS}:fgtH k (some (.norm,s))=some (.norm,(s.1.keep k,s.2)):=(rfl)
theorem fgtH_ret{k:List Nat}{s:HS}:fgtH k (some (.ret,s))=some (.ret,s):=(rfl)
theorem fgtH_exit{k:List Nat}{i:Nat}{s:HS}:fgtH k (some (.exit i,s))=some (.exit i,s):=(rfl)
def blkel(id:Nat):Option (Ex×HS)->Option (Ex×HS)
 | some (.exit id',s')=>if id'=id then some (.norm,s') else some (.exit id',s')
 | r=>r
theorem blkel_norm{id:Nat}{s:HS}:blkel id (some (.norm,s))=some (.norm,s):=(rfl)
theorem blkel_ret{id:Nat}{s:HS}:blkel id (some (.ret,s))=some (.ret,s):=(rfl)
theorem blkel_exit{id i:Nat}{s:HS}:blkel id (some (.exit i,s)) = if i=id then some (.norm,s) else some (.exit i,s):=(rfl)
theorem get_nil{t:Nat}:HEnv.get [] t = .p .none:=(rfl)
theorem get_cons{k t:Nat}{v:HV}{r:HEnv}:HEnv.get ((k,v)::r) t = if t=k then v else HEnv.get r t:=(rfl)
theorem set_nil{t:Nat}{v:HV}:HEnv.set [] t v=[(t,v)]:=(rfl)
theorem set_cons{k t:Nat}{x v:HV}{r:HEnv}:HEnv.set ((k,x)::r) t v = if t<k then (t,v)::(k,x)::r else if t=k then (t,v)::r else (k,x)::HEnv.set r t v:=(rfl)
theorem keep_nil{l:List Nat}:HEnv.keep l []=[]:=(rfl)
theorem keep_cons{l:List Nat}{k:Nat}{x:HV}{r:HEnv}:HEnv.keep l ((k,x)::r) = if l.contains k=true then (k,x)::HEnv.keep l r else HEnv.keep l r:=(rfl)
theorem params_nil{i:Nat}:paramsH i []=[]:=(rfl)
theorem params_cons{i:Nat}{v:HV}{r:List HV}:paramsH i (v::r)=(i,v)::paramsH (i+1) r:=(rfl)
theorem lookHG_t{g:Nat->HV}{n:Nat}:lookHG g (.t n)=vis (g n):=(rfl)
theorem lookHG_k{g:Nat->HV}{v:PV}:lookHG g (.k v) = .p v:=(rfl)
theorem lookHG_f{g:Nat->HV}{n:Nat}:lookHG g (.f n) = .p (.fn n []):=(rfl)
def alG(n:Nat):PV->PV
 | .agg cs=>.agg (alL n [] 0 cs)
 | .tup cs=>if noOwnL cs then .tup cs else .none
 | v=>al n [] v
theorem lookPG_t{g:Nat->HV}{n:Nat}:lookPG g (.t n)=alG n (toP (g n)):=by
 show lookG (fun t=>toP (g t)) (.t n)=_
 simp only[lookG]
 cases toP (g n)<;>rfl
theorem lookPG_k{g:Nat->HV}{v:PV}:lookPG g (.k v)=v:=(rfl)
theorem lookPG_f{g:Nat->HV}{n:Nat}:lookPG g (.f n) = .fn n []:=(rfl)
def wantsE(e:HEnv)(g:Option (Nat×Bool)):Option Bool:=wantsG (fun t=>toP (e.get t)) g
theorem wantsE_none{e:HEnv}:wantsE e Option.none=some true:=(rfl)
def wantB(want:Bool):PV->Option Bool
 | .bool b=>some (b==want)
 | .tup []=>some false
 | _=>Option.none
theorem wantsE_some{e:HEnv}{d:Nat}{b:Bool}:wantsE e (some (d,b))=wantB b (toP (e.get d)):=by
 simp only[wantsE,wantsG]
 cases toP (e.get d) with
 | tup cs=>cases cs<;>rfl
 | _=>rfl
theorem wantB_bool{w b:Bool}:wantB w (.bool b)=some (b==w):=(rfl)
theorem wantB_skip{w:Bool}:wantB w (.tup [])=some false:=(rfl)
section
variable {C:Calls'} {H K:HCalls} {T:Nat->Option HF}
theorem stepsH_nil{s:HS}:stepsH C H s []=some s:=(rfl)
theorem stepsH_cons{s:HS}{o:HI}{r:List HI}:stepsH C H s (o::r)=oel (stepH C H s o) (fun s'=>stepsH C H s' r) (fun _=>Option.none):=by
 simp only[stepsH]
 cases stepH C H s o<;>rfl
theorem stepH_eq{e:HEnv}{st:HSt}{dst:Option Nat}{op:HOp}{g:Option (Nat×Bool)}{bar:Bool}{ls:List Nat}:stepH C H (e,st) ⟨dst,op,g,bar,ls⟩ =
 oel (wantsE e g) (fun b=>bel b (fun _=>stepHL C H (hland (e,st) op.temps) ⟨dst,op,g,bar,ls⟩) (fun _=>some (setH e dst (.p (.tup [])),st))) (fun _=>Option.none):=by
 simp only[stepH,wantsE]
 cases wantsG (fun t=>toP (e.get t)) g with
 | none=>rfl
 | some b=>cases b<;>rfl
theorem stepHL_eq{e:HEnv}{st:HSt}{dst:Option Nat}{op:HOp}{g:Option (Nat×Bool)}{bar:Bool}{ls:List Nat}:stepHL C H (e,st) ⟨dst,op,g,bar,ls⟩ =
 oel (evHP C (lookHG e.get) (lookPG e.get) st op) (fun v=>oel dst (fun d=>some (e.set d v,st)) (fun _=>Option.none))
  (fun _=>oel (evHS H (lookHG e.get) st op) (fun r=>some (setH e dst r.1,r.2)) (fun _=>Option.none)):=by
 simp only[stepHL]
 cases evHP C (lookHG e.get) (lookPG e.get) st op with
 | some v=>cases dst<;>rfl
 | none=>cases evHS H (lookHG e.get) st op<;>rfl
theorem evHP_x{L:XO->HV}{LP:XO->PV}{st:HSt}{o:XOp}:evHP C L LP st (.x o) =
 oel (evHX L st o) some (fun _=>oel (evP C LP (fun _ _=>.none) o) (fun v=>if (v.loose||fresh v)=true then some (.p v) else Option.none) (fun _=>evHN L o)):=by
 simp only[evHP]
 cases evHX L st o with
 | some v=>rfl
 | none=>cases evP C LP (fun _ _=>.none) o<;>rfl
theorem evHP_bm{L:XO->HV}{LP:XO->PV}{st:HSt}{f:Nat}{l:List XO}:evHP C L LP st (.bm f l)=some (.bm f (l.map L)):=(rfl)
theorem evHP_snil{L:XO->HV}{LP:XO->PV}{st:HSt}{n:Bool}{x:XO}:evHP C L LP st (.snil n x)=evHV L st (.snil n x):=(rfl)
theorem evHP_slc0{L:XO->HV}{LP:XO->PV}{st:HSt}{x:XO}:evHP C L LP st (.slc0 x)=evHV L st (.slc0 x):=(rfl)
theorem evHP_copy{L:XO->HV}{LP:XO->PV}{st:HSt}{n:Nat}{d s:XO}:evHP C L LP st (.copy n d s)=Option.none:=(rfl)
variable {n:Nat}
theorem evHC_skip{s:HS}:evHC C H (n+1) .skip s=some (.norm,s):=(rfl)
theorem evHC_ret{s:HS}:evHC C H (n+1) .ret s=some (.ret,s):=(rfl)
theorem evHC_exit{s:HS}{i:Nat}{k:List Nat}:evHC C H (n+1) (.exit i k) s=some (.exit i,(s.1.keep k,s.2)):=(rfl)
theorem evHC_reg{s:HS}{ops:List HI}{k:List Nat}:evHC C H (n+1) (.reg ops false k) s=oel (stepsH C H s ops) (fun s'=>some (.norm,(s'.1.keep k,s'.2))) (fun _=>Option.none):=by
 simp only[evHC,Bool.false_eq_true,if_false]
 cases stepsH C H s ops<;>rfl
theorem evHC_regD{s:HS}{ops:List HI}{k:List Nat}:evHC C H (n+1) (.reg ops true k) s=oel (regHD C H s ops) (fun s'=>some (.norm,(s'.1.keep k,s'.2))) (fun _=>Option.none):=by
 simp only[evHC,if_true]
 cases regHD C H s ops<;>rfl
theorem evHC_seq{s:HS}{a b:HC}:evHC C H (n+1) (.seq a b) s=exel (evHC C H n a s) (fun s'=>evHC C H n b s'):=by
 simp only[evHC]
 cases evHC C H n a s with
 | none=>rfl
 | some r=>obtain⟨ex,s'⟩:=r;cases ex<;>rfl
theorem evHC_cond{s:HS}{x:XO}{a b:HC}{k:List Nat}:evHC C H (n+1) (.cond x a b k) s=fgtH k (hvel (lookHG s.1.get x) (fun _=>evHC C H n a s) (fun _=>evHC C H n b s)):=by
 simp only[evHC]
 congr 1
theorem evHC_block{s:HS}{i:Nat}{b:HC}{k:List Nat}:evHC C H (n+1) (.block i b k) s=fgtH k (blkel i (evHC C H n b s)):=by
 simp only[evHC]
 congr 1
theorem evHC_loop{s:HS}{b:HC}{k:List Nat}:evHC C H (n+1) (.loop b k) s=exel (fgtH k (evHC C H n b s)) (fun s'=>evHC C H n (.loop b k) s'):=by
 simp only[evHC]
 cases fgtH k (evHC C H n b s) with
 | none=>rfl
 | some r=>obtain⟨ex,s'⟩:=r;cases ex<;>rfl
theorem evHF_eq{f:Nat}{args:List HV}{st:HSt}:evHF C K T (n+1) f args st =
 oel (K f args st) some (fun _=>oel (T f) (fun x=>if args.length=x.np then
  retel (evHC C (evHF C K T n) n x.body (paramsH 0 args,st)) (fun s=>oel (resHL (hland s (x.res.map resT)) x.res) (fun vs=>some (tupHOf vs,(hland s (x.res.map resT)).2)) (fun _=>Option.none))
  else Option.none) (fun _=>Option.none)):=by
 simp only[evHF]
 cases K f args st with
 | some r=>rfl
 | none=>
   cases T f with
   | none=>rfl
   | some x=>
     show (if args.length=x.np then _ else _)=(if args.length=x.np then _ else _)
     by_cases h:args.length=x.np
     ·rw[if_pos h,if_pos h]
      cases evHC C (evHF C K T n) n x.body (paramsH 0 args,st) with
      | none=>rfl
      | some r=>
        obtain⟨ex,s⟩:=r
        cases ex with
        | exit i=>rfl
        | norm=>simp only[retel];cases resHL (hland s (x.res.map resT)) x.res<;>rfl
        | ret=>simp only[retel];cases resHL (hland s (x.res.map resT)) x.res<;>rfl
     ·rw[if_neg h,if_neg h]
theorem regHD_eq{e:HEnv}{st:HSt}{ops:List HI}:regHD C H (e,st) ops =
 if (hland (e,st) (e.map (·.1))).1.all (fun x=>!isFresh x.2)=true then
  oel (traceHD C H (hland (e,st) (e.map (·.1))) ops) (fun tr=>if stableAll tr tr ops=true then lastO tr else Option.none) (fun _=>Option.none)
 else Option.none:=by
 simp only[regHD]
 split
 ·cases traceHD C H (hland (e,st) (e.map (·.1))) ops<;>rfl
 ·rfl
theorem traceHD_nil{s:HS}:traceHD C H s []=some [s]:=(rfl)
theorem traceHD_cons{e:HEnv}{st:HSt}{dst:Option Nat}{op:HOp}{g:Option (Nat×Bool)}{bar:Bool}{ls:List Nat}{r:List HI}:traceHD C H (e,st) (⟨dst,op,g,bar,ls⟩::r) =
 bel bar (fun _=>oel (stepH C H (e,st) ⟨dst,op,g,bar,ls⟩) (fun s'=>oel (traceHD C H s' r) (fun t=>some ((e,st)::t)) (fun _=>Option.none)) (fun _=>Option.none))
  (fun _=>oel (stepHD C st e ⟨dst,op,g,bar,ls⟩) (fun p=>oel (traceHD C H (e.set p.1 p.2,st) r) (fun t=>some ((e,st)::t)) (fun _=>Option.none)) (fun _=>Option.none)):=by
 simp only[traceHD]
 cases bar with
 | true=>
   simp only[if_true,bel]
   cases stepH C H (e,st) ⟨dst,op,g,true,ls⟩ with
   | none=>rfl
   | some s'=>cases hh:traceHD C H s' r <;> simp[oel,hh]
 | false=>
   simp only[Bool.false_eq_true,if_false,bel]
   cases stepHD C st e ⟨dst,op,g,false,ls⟩ with
   | none=>rfl
   | some s'=>obtain⟨d,v⟩:=s';cases hh:traceHD C H (e.set d v,st) r <;> simp[oel,hh]
theorem stepHD_eq{e:HEnv}{st:HSt}{d:Nat}{op:HOp}{g:Option (Nat×Bool)}{bar:Bool}{ls:List Nat}:stepHD C st e ⟨some d,op,g,bar,ls⟩ =
 oel (wantsE e g) (fun b=>bel b (fun _=>oel (evHP C (lookHG e.get) (lookPG e.get) st op) (fun v=>some (d,v)) (fun _=>Option.none)) (fun _=>some (d,.p (.tup [])))) (fun _=>Option.none):=by
 simp only[stepHD,wantsE]
 cases wantsG (fun t=>toP (e.get t)) g with
 | none=>rfl
 | some b=>
   cases b with
   | false=>rfl
   | true=>simp only[oel,bel];cases evHP C (lookHG e.get) (lookPG e.get) st op<;>rfl
end
theorem fr_none:(PV.none ).free=false:=(rfl)
theorem fr_bool(b:Bool):(PV.bool b).free=true:=(rfl)
theorem fr_int(k:IntKind)(n:Int):(PV.int k n).free=true:=(rfl)
theorem fr_str(s:List UInt8):(PV.str s).free=true:=(rfl)
theorem fr_nilp:(PV.nilp ).free=true:=(rfl)
theorem fr_nils:(PV.nils ).free=true:=(rfl)
theorem fr_nilf:(PV.nilf ).free=true:=(rfl)
theorem fr_sl(n:Nat)(cs:List PV):(PV.sl n cs).free=true:=(rfl)
theorem fr_sp(cs:List PV):(PV.sp cs).free=true:=(rfl)
theorem fr_ref(r:Nat)(p:List Nat)(i n:Nat):(PV.ref r p i n).free=false:=(rfl)
theorem fr_view(r:Nat)(p:List Nat)(o l z:Nat):(PV.view r p o l z).free=false:=(rfl)
theorem fr_box(cs:List PV):(PV.box cs).free=false:=(rfl)
theorem fr_own(sz len:Nat)(cs:List PV):(PV.own sz len cs).free=false:=(rfl)
theorem fr_agg(cs:List PV):(PV.agg cs).free=false:=(rfl)
theorem fr_tup(cs:List PV):(PV.tup cs).free=false:=(rfl)
theorem fr_fn(f:Nat)(cs:List PV):(PV.fn f cs).free=false:=(rfl)
theorem getElem?_len{α:Type}(l r:List α)(k:Nat):(l++r)[l.length+k]? = r[k]?:=by
 rw[List.getElem?_append_right (by omega)];congr 1;omega
theorem getElem?_len0{α:Type}(l r:List α):(l++r)[l.length]? = r[0]?:=by
 rw[List.getElem?_append_right (by omega)];congr 1;omega
theorem set_len0{α:Type}(l r:List α)(x:α):(l++r).set l.length x=l++r.set 0 x:=by
 rw[List.set_append_right _ _ (by omega)];congr 2;omega
theorem set_len{α:Type}(l r:List α)(k:Nat)(x:α):(l++r).set (l.length+k) x=l++r.set k x:=by
 rw[List.set_append_right _ _ (by omega)];congr 2;omega
theorem len_app{α:Type}(l r:List α):(l++r).length=l.length+r.length:=List.length_append
def C0:Calls':=fun _ _=>Option.none
theorem C0_ok{P:Program}:CallOk P C0:=fun _ _ _ _ h=>by cases h
theorem evP_call0{L:XO->PV}{S:Subs}{f:Nat}{az:List XO}{ms:List Nat}:evP C0 L S (.call f az ms)=Option.none:=by
 cases ms with
 | nil=>
   simp only[evP,C0]
   split<;>rfl
 | cons=>rfl
theorem evP_callv0{L:XO->PV}{S:Subs}{x:XO}{az:List XO}:evP C0 L S (.callv x az)=Option.none:=by
 simp only[evP,C0]
 split
 ·split<;>rfl
 ·rfl
theorem evHF_in{C:Calls'}{K:HCalls}{T:Nat->Option HF}{n:Nat}{f:Nat}{args:List HV}{st:HSt}{x:HF}(hk:∀ws st,K f ws st=Option.none)(hT:T f=some x)(hl:args.length=x.np){r:Option (HV×HSt)}
 (h:retel (evHC C (evHF C K T n) n x.body (paramsH 0 args,st)) (fun s=>oel (resHL (hland s (x.res.map resT)) x.res) (fun vs=>some (tupHOf vs,(hland s (x.res.map resT)).2)) (fun _=>Option.none))=r):evHF C K T (n+1) f args st=r:=by
 rw[evHF_eq,hk,hT,oel_none,oel_some,if_pos hl];exact h
open Go Go.ChangeShapes Go.WideShapes Go.ChangeAt Go.RowKit
section
variable {H:Type} {enc:TypeId×Value->H} {P:Program} {w:World}
theorem looseL_of{cs:List PV}(h:∀i (hi:i<cs.length),cs[i].free=true):PV.loose (.agg cs)=true:=by
 have h1:noOwnL cs=true:=noOwnL_of fun c hc=>by obtain⟨i,hi,rfl⟩:=List.getElem_of_mem hc;exact free_noOwn (h i hi)
 have h2:refsL cs=[]:=refsL_nil fun i hi=>free_refs (h i hi)
 simp[PV.loose,noOwn,refs,h1,h2]
theorem arg_repH{n:Nat}{t:TypeId}{v:Value}{d:DataW H}{ps:List MemPlace}{base:Nat}{sp:Nat->Bool}{held:Bool}(hp:plainTy P n t=true)(hval:Value.okWide P w .any base t v)(h:DataW.Trod enc P w 0 sp held t v d ps):
 ∃pv,argPV P n t d=some pv/\(∀hd,RepV w (allSh w) hd pv v)/\pv.loose=true:=by
 obtain⟨fuel,hf⟩:=h
 obtain⟨pvs,h1,h2,h3⟩:=trod_rep _ _ _ _ _ _ hp hf
 have agg:∀cs,v = .agg cs->(∀hd,RepV w (allSh w) hd (.agg pvs) v)/\PV.loose (.agg pvs)=true:=fun cs hv=>by
  subst hv
  have hl:cs.size=pvs.length:=by simpa[Value.cells] using h2.symm
  refine⟨fun hd=>.agg _ _ _ hl fun i hi=>?_,looseL_of fun i hi=>(h3 i hi).2⟩
  have:=(h3 i hi).1.any (h3 i hi).2 (Hd.snoc hd i)
  simpa[Value.cells,Array.getD,List.getD,show i<cs.size by omega] using this
 have one:(∀cs,v ≠ .agg cs)->∃x,pvs=[x]/\(∀hd,RepV w (allSh w) hd x v)/\x.loose=true:=fun hv=>by
  have hc:v.cells=#[v]:=by cases v <;> first | rfl|exact absurd rfl (hv _)
  rw[hc] at h2 h3
  obtain⟨x,rfl⟩:=List.length_eq_one_iff.1 (show pvs.length=1 by simpa using h2)
  have:=h3 0 (by simp)
  exact⟨x,rfl,fun hd=>by simpa using this.1.any this.2 hd,free_loose (by simpa using this.2)⟩
 unfold argPV
 cases n with
 | zero=>simp[plainTy] at hp
 | succ n=>
   simp only[plainTy] at hp
   unfold Value.okWide at hval
   cases hu:P.underlying t with
   | none=>rw[hu] at hp;cases hp
   | some td=>
     rw[hu] at hp hval
     cases td with
     | struct fs=>
       obtain⟨cs,hv,_⟩:=hval
       exact⟨.agg pvs,by simp[h1],agg cs hv⟩
     | array m e=>
       obtain⟨cs,hv,_⟩:=hval
       exact⟨.agg pvs,by simp[h1],agg cs hv⟩
     | bool=>
       obtain⟨x,rfl,hx⟩:=one (fun cs hv=>by subst hv;simp[Cell.okWide,hu,Cell.ok] at hval)
       exact⟨x,by simp[h1],hx⟩
     | int k=>
       obtain⟨x,rfl,hx⟩:=one (fun cs hv=>by subst hv;simp[Cell.okWide,hu,Cell.ok] at hval)
       exact⟨x,by simp[h1],hx⟩
     | string=>
       obtain⟨x,rfl,hx⟩:=one (fun cs hv=>by subst hv;simp[Cell.okWide,hu,Cell.ok] at hval)
       exact⟨x,by simp[h1],hx⟩
     | slice e=>
       obtain⟨x,rfl,hx⟩:=one (fun cs hv=>by subst hv;simp[Cell.okWide,hu,Cell.ok] at hval)
       exact⟨x,by simp[h1],hx⟩
     | _=>cases hp
theorem args_repH{n:Nat}{base:Nat}{sp:Nat->Bool}{held:Bool}:∀{ts:List TypeId} {vs:List Value} {ds:List (DataW H)} {ps:List MemPlace},ts.all (fun t=>plainTy P n t)=true ->
 (∀(j:Nat) t v,ts[j]? = some t->vs[j]? = some v->Value.okWide P w .any base t v)->DataW.TrodAll enc P w 0 sp held ts vs ds ps ->
 ∃ws,argsPV P n ts ds=some ws/\ws.length=vs.length/\vs.length=ts.length/\ds.length=ts.length/\∀i (hi:i<ws.length) (hi':i<vs.length),(∀hd,RepV w (allSh w) hd ws[i] vs[i])/\ws[i].loose=true
 | [],vs,ds,ps,hp,hval,h=>by
   cases vs <;> cases ds <;> simp[DataW.TrodAll] at h
   exact⟨[],rfl,rfl,rfl,rfl,fun i hi=>by simp at hi⟩
 | t::ts,vs,ds,ps,hp,hval,h=>by
   obtain⟨v,vs',d,ds',p,q,rfl,rfl,rfl,h1,h2⟩:=trodAll_cons h
   simp only[List.all_cons,Bool.and_eq_true] at hp
   obtain⟨pv,h3,h4,h5⟩:=arg_repH hp.1 (hval 0 t v rfl rfl) h1
   obtain⟨ws,h6,h7,h8,h9,h10⟩:=args_repH hp.2 (fun j t' v' ht hv=>hval (j+1) t' v' (by simpa using ht) (by simpa using hv)) h2
   refine⟨pv::ws,by simp[argsPV,h3,h6],by simp[h7],by simp[h8],by simp[h9],fun i hi hi'=>?_⟩
   cases i with
   | zero=>exact⟨h4,h5⟩
   | succ i=>exact h10 i (by simpa using hi) (by simpa using hi')
theorem law_contractH{HC:HCalls}(hH:HCallOk P HC)(hl:laidOutB P=true){f:Nat}{fn:Func}{rt:TypeId}(hr:fn.resultTypes=#[rt])(hrt:P.underlying rt=some .bool)
 {ts:List TypeId}{N:Nat}(hps:fn.params.toList=ts)(hplain:ts.all (fun t=>plainTy P N t)=true)(hread:ts.all (fun t=>P.readableRec t&&decide (t<P.types.size))=true)
 {s:ChangeSpec}(hvars:s.vars=[]){args:Array Value}{ds gs:List (DataW H)}{before:List MemPlace}{base:Nat}(hs0:ds.length=ts.length->s.fn H ds={ results:=[.lit (.bool true)],args:=ds })
 (hval:∀(j:Nat) t v,fn.params[j]? = some t->args[j]? = some v->Value.okWide P w .any base t v)
 (hW:DataW.Whole enc P fn.params.toList s.vars false w args.toList ds gs before)
 (hwt:(DataW.weightsEach P (fn.params.toList++s.plain.varTypes P) (ds++gs)).all (·<=reachBytes)=true)
 (law:∀ws,(argsPV P N ts ds=some ws/\∀x∈DataW.weightsEach P ts ds,x<=reachBytes)->∃st',HC f (ws.map .p) []=some (.p (.bool true),st')):
 Calls P f args w fun e w'=>∃v,e = .returned v/\s.post enc P fn false true false false w args v w':=by
 have hW':=hW
 obtain⟨p,q,hA,hV,rfl,hfz,hnd⟩:=hW
 rw[hps] at hA
 obtain⟨ws,h1,h2,h3,h4,h5⟩:=args_repH hplain (fun j t v ht hv=>hval j t v (by rw[←hps] at ht;simpa using ht) (by simpa using hv)) hA
 have hs:=hs0 h4
 have hwt':∀x∈DataW.weightsEach P ts ds,x<=reachBytes:=fun x hx=>by
  have:=List.all_eq_true.1 hwt x (by rw[hps];exact weightsEach_left h4 x hx)
  simpa using this
 obtain⟨st',hev⟩:=law ws ⟨h1,hwt'⟩
 obtain⟨_,hcall⟩:=hH f (ws.map .p) _ _ _ hev
 have hsz:args.size=(ws.map HV.p).length:=by simpa using h2.symm
 have O0:HOk w (allSh w) [] []:=by
  refine⟨allSh_wf w,rfl,fun b j r p i h _=>?_,fun a k h=>by simp at h,fun a b o m k h=>by simp at h,fun a a' b o m o' m' ks vs h=>by simp at h⟩
  simp only[allSh] at h;split at h <;> cases h
 refine Calls.mono (hcall args w (allSh w) [] hsz O0 (fun b j q p i h=>by simp only[allSh] at h;split at h <;> cases h) fun i hi=>?_) fun e w' he=>?_
 ·have hi0:i<ws.length:=by simpa using hi
  have hi':i<args.size:=by omega
  have:=h5 i hi0 (by simpa using hi')
  have h6:=this.1 Option.none
  have:RepH w (allSh w) [] (.p ws[i]) (args.getD i undef):=.p _ _ this.2 (by simpa[Array.getD,hi'] using h6)
  simpa using this
 ·cases e with
  | returned v=>
    obtain⟨L',A',O',_,HR,E0⟩:=he
    have E:Ext w (allSh w) w' L':=⟨E0.os,E0.tape,E0.output,E0.size,E0.lab,fun b hb=>by
     rcases E0.blk b hb with⟨a,o,m,es,c,h,_⟩|h
     ·simp at h
     ·exact h⟩
    have hb:=below_of_ext E
    obtain⟨_,HR⟩:=HR.pv
    cases HR
    have hq:q=[]/\gs=[]:=by
     rw[hvars] at hV
     cases gs with
     | nil=>exact⟨by simpa[DataW.TrodVars] using hV,rfl⟩
     | cons g gs=>simp[DataW.TrodVars] at hV
    obtain⟨rfl,rfl⟩:=hq
    have hlt:∀x∈p,x.block<w.heap.size:=fun x hx=>hW'.lt x (by simp[hx])
    refine⟨_,rfl,ds,[],p++[],[],p,[],hW',?_,?_,?_,hb.frame _,fun h=>by cases h⟩
    ·rw[List.append_nil,hs,hr]
     exact trodAll_mk1 (shut_bool hrt true)
    ·rw[List.append_nil,hs,hps]
     exact trods_stay hl hread hA (fun x hx=>hb.same (hlt x hx)) (fun x hx=>by simpa using hlt x hx)
    ·rw[List.append_nil,hs,hvars];rfl
  | panicked=>exact he.elim
  | outgrown=>exact he.elim
noncomputable def evHI(C:Calls')(K:HCalls)(T:Nat->Option HF):HCalls:=fun f ws st=>limO fun n=>evHF C K T n f ws st
theorem evHI_some{C:Calls'}{K:HCalls}{T:Nat->Option HF}{f:Nat}{ws:List HV}{st:HSt}{r:HV×HSt}:evHI C K T f ws st=some r↔∃n,evHF C K T n f ws st=some r:=
 limO_some fun n m x hn h=>evHF_mono hn _ _ _ _ h
theorem evHI_sound(hm:P.follows .mixedOrders=true){C:Calls'}(hC:CallOk P C){K:HCalls}(hK:HCallOk P K){T:Nat->Option HF}(hT:TOkH P T):HCallOk P (evHI C K T):=by
 intro f ws st r st' h
 obtain⟨n,hn⟩:=evHI_some.1 h
 exact evHF_sound hm hC hK hT n f ws st r st' hn
end
open Go
set_option maxRecDepth 100000
theorem rna0:type_of% (And.intro (And.intro (And.intro (And.intro (And.intro @evX_seq (And.intro @evX_block @evX_cond)) (And.intro (And.intro @evX_reg @evX_regD) (And.intro @evX_skip @evX_exit))) (And.intro (And.intro (And.intro @evX_ret @step.eq_1) (And.intro @steps.eq_1 @steps.eq_2)) (And.intro (And.intro @stepP.eq_1 @evP.eq_1) (And.intro @evP.eq_2 @evP.eq_3)))) (And.intro (And.intro (And.intro @evP.eq_4 (And.intro @evP.eq_5 @evP.eq_6)) (And.intro (And.intro @evP.eq_7 @evP.eq_8) (And.intro @evP.eq_9 @evP.eq_10))) (And.intro (And.intro (And.intro @evP.eq_11 @evP.eq_12) (And.intro @evP.eq_13 @evP.eq_14)) (And.intro (And.intro @evP.eq_15 @evP.eq_16) (And.intro @evP.eq_17 @evP.eq_18))))) (And.intro (And.intro (And.intro (And.intro @evP.eq_19 (And.intro @evP.eq_20 @evP.eq_21)) (And.intro (And.intro @evP.eq_22 @evP.eq_23) (And.intro @evP.eq_24 @evP.eq_25))) (And.intro (And.intro (And.intro @evP.eq_26 @evP.eq_27) (And.intro @evP.eq_28 @evP.eq_29)) (And.intro (And.intro @evP.eq_30 @evP.eq_31) (And.intro @evS.eq_1 @evS.eq_3)))) (And.intro (And.intro (And.intro @evS.eq_5 (And.intro @evS.eq_6 @evS.eq_9)) (And.intro (And.intro @evS.eq_11 @evS.eq_14) (And.intro @blocked.eq_1 @wants.eq_1))) (And.intro (And.intro (And.intro @wantsG.eq_1 @wantsG.eq_2) (And.intro @skipped.eq_1 @look.eq_1)) (And.intro (And.intro @lookG.eq_1 @lookG.eq_2) (And.intro @lookG.eq_3 @al.eq_1)))))):=(And.intro (And.intro (And.intro (And.intro (And.intro @evX_seq (And.intro @evX_block @evX_cond)) (And.intro (And.intro @evX_reg @evX_regD) (And.intro @evX_skip @evX_exit))) (And.intro (And.intro (And.intro @evX_ret @step.eq_1) (And.intro @steps.eq_1 @steps.eq_2)) (And.intro (And.intro @stepP.eq_1 @evP.eq_1) (And.intro @evP.eq_2 @evP.eq_3)))) (And.intro (And.intro (And.intro @evP.eq_4 (And.intro @evP.eq_5 @evP.eq_6)) (And.intro (And.intro @evP.eq_7 @evP.eq_8) (And.intro @evP.eq_9 @evP.eq_10))) (And.intro (And.intro (And.intro @evP.eq_11 @evP.eq_12) (And.intro @evP.eq_13 @evP.eq_14)) (And.intro (And.intro @evP.eq_15 @evP.eq_16) (And.intro @evP.eq_17 @evP.eq_18))))) (And.intro (And.intro (And.intro (And.intro @evP.eq_19 (And.intro @evP.eq_20 @evP.eq_21)) (And.intro (And.intro @evP.eq_22 @evP.eq_23) (And.intro @evP.eq_24 @evP.eq_25))) (And.intro (And.intro (And.intro @evP.eq_26 @evP.eq_27) (And.intro @evP.eq_28 @evP.eq_29)) (And.intro (And.intro @evP.eq_30 @evP.eq_31) (And.intro @evS.eq_1 @evS.eq_3)))) (And.intro (And.intro (And.intro @evS.eq_5 (And.intro @evS.eq_6 @evS.eq_9)) (And.intro (And.intro @evS.eq_11 @evS.eq_14) (And.intro @blocked.eq_1 @wants.eq_1))) (And.intro (And.intro (And.intro @wantsG.eq_1 @wantsG.eq_2) (And.intro @skipped.eq_1 @look.eq_1)) (And.intro (And.intro @lookG.eq_1 @lookG.eq_2) (And.intro @lookG.eq_3 @al.eq_1))))))
theorem rna1:type_of% (And.intro (And.intro (And.intro (And.intro (And.intro @al.eq_2 (And.intro @al.eq_3 @al.eq_4)) (And.intro (And.intro @al.eq_5 @al.eq_6) (And.intro @alL.eq_1 @alL.eq_2))) (And.intro (And.intro (And.intro @purge1.eq_1 @purge1.eq_2) (And.intro @purge1.eq_3 @purge1.eq_4)) (And.intro (And.intro @purge1.eq_5 @purgeL.eq_1) (And.intro @purgeL.eq_2 @Env.get.eq_1)))) (And.intro (And.intro (And.intro @Env.get.eq_2 (And.intro @Env.set.eq_1 @Env.set.eq_2)) (And.intro (And.intro @Env.keep.eq_1 @Env.keep.eq_2) (And.intro @Env.purgeBy.eq_1 @Env.purgeBy.eq_2))) (And.intro (And.intro (And.intro @Env.purge.eq_1 @Env.setD.eq_1) (And.intro @Env.sub.eq_1 @Env.upd.eq_1)) (And.intro (And.intro @sub.eq_1 @sub.eq_2) (And.intro @upd.eq_1 @upd.eq_2))))) (And.intro (And.intro (And.intro (And.intro @kids.eq_1 (And.intro @kids.eq_2 @kids.eq_3)) (And.intro (And.intro @kids.eq_4 @setKid.eq_1) (And.intro @setKid.eq_2 @setKid.eq_3))) (And.intro (And.intro (And.intro @setKid.eq_4 @frz.eq_1) (And.intro @frz.eq_2 @frz.eq_3)) (And.intro (And.intro @frz.eq_4 @frz.eq_5) (And.intro @frz.eq_6 @frz.eq_7)))) (And.intro (And.intro (And.intro @frz.eq_8 (And.intro @frz.eq_9 @frzL.eq_1)) (And.intro (And.intro @frzL.eq_2 @refs.eq_1) (And.intro @refs.eq_2 @refs.eq_3))) (And.intro (And.intro (And.intro @refs.eq_4 @refs.eq_5) (And.intro @refsL.eq_1 @refsL.eq_2)) (And.intro (And.intro @noOwn.eq_1 @noOwn.eq_2) (And.intro @noOwn.eq_3 @noOwn.eq_4)))))):=(And.intro (And.intro (And.intro (And.intro (And.intro @al.eq_2 (And.intro @al.eq_3 @al.eq_4)) (And.intro (And.intro @al.eq_5 @al.eq_6) (And.intro @alL.eq_1 @alL.eq_2))) (And.intro (And.intro (And.intro @purge1.eq_1 @purge1.eq_2) (And.intro @purge1.eq_3 @purge1.eq_4)) (And.intro (And.intro @purge1.eq_5 @purgeL.eq_1) (And.intro @purgeL.eq_2 @Env.get.eq_1)))) (And.intro (And.intro (And.intro @Env.get.eq_2 (And.intro @Env.set.eq_1 @Env.set.eq_2)) (And.intro (And.intro @Env.keep.eq_1 @Env.keep.eq_2) (And.intro @Env.purgeBy.eq_1 @Env.purgeBy.eq_2))) (And.intro (And.intro (And.intro @Env.purge.eq_1 @Env.setD.eq_1) (And.intro @Env.sub.eq_1 @Env.upd.eq_1)) (And.intro (And.intro @sub.eq_1 @sub.eq_2) (And.intro @upd.eq_1 @upd.eq_2))))) (And.intro (And.intro (And.intro (And.intro @kids.eq_1 (And.intro @kids.eq_2 @kids.eq_3)) (And.intro (And.intro @kids.eq_4 @setKid.eq_1) (And.intro @setKid.eq_2 @setKid.eq_3))) (And.intro (And.intro (And.intro @setKid.eq_4 @frz.eq_1) (And.intro @frz.eq_2 @frz.eq_3)) (And.intro (And.intro @frz.eq_4 @frz.eq_5) (And.intro @frz.eq_6 @frz.eq_7)))) (And.intro (And.intro (And.intro @frz.eq_8 (And.intro @frz.eq_9 @frzL.eq_1)) (And.intro (And.intro @frzL.eq_2 @refs.eq_1) (And.intro @refs.eq_2 @refs.eq_3))) (And.intro (And.intro (And.intro @refs.eq_4 @refs.eq_5) (And.intro @refsL.eq_1 @refsL.eq_2)) (And.intro (And.intro @noOwn.eq_1 @noOwn.eq_2) (And.intro @noOwn.eq_3 @noOwn.eq_4))))))
theorem rna2:type_of% (And.intro (And.intro (And.intro (And.intro (And.intro @noOwn.eq_5 (And.intro @noOwnL.eq_1 @noOwnL.eq_2)) (And.intro (And.intro @PV.free.eq_1 @PV.free.eq_2) (And.intro @PV.free.eq_3 @PV.free.eq_4))) (And.intro (And.intro (And.intro @PV.free.eq_5 @PV.free.eq_6) (And.intro @PV.free.eq_7 @PV.free.eq_8)) (And.intro (And.intro @take1.eq_1 @take1.eq_2) (And.intro @takeL.eq_1 @takeL.eq_2)))) (And.intro (And.intro (And.intro @copy1.eq_1 (And.intro @copyL.eq_1 @copyL.eq_2)) (And.intro (And.intro @pass1.eq_1 @pass1.eq_2) (And.intro @pass1.eq_3 @passL.eq_1))) (And.intro (And.intro (And.intro @passL.eq_2 @share.eq_1) (And.intro @lend.eq_1 @lend.eq_2)) (And.intro (And.intro @lend1.eq_1 @lendL.eq_1) (And.intro @lendL.eq_2 @lend1L.eq_1))))) (And.intro (And.intro (And.intro (And.intro @lend1L.eq_2 (And.intro @give.eq_1 @give.eq_2)) (And.intro (And.intro @give.eq_3 @give.eq_4) (And.intro @resVal.eq_1 @resVal.eq_2))) (And.intro (And.intro (And.intro @resL.eq_1 @resL.eq_2) (And.intro @outsOf.eq_1 @outsOf.eq_2)) (And.intro (And.intro @tupOf.eq_1 @params.eq_1) (And.intro @params.eq_2 @stepD.eq_1)))) (And.intro (And.intro (And.intro @stepsD.eq_1 (And.intro @stepsD.eq_2 @regD.eq_1)) (And.intro (And.intro @dstsOf.eq_1 @dstsOf.eq_2) (And.intro @setCells.eq_1 @setCells.eq_2))) (And.intro (And.intro (And.intro @putObj.eq_1 @cells.eq_1) (And.intro @fillP.eq_1 @fillP.eq_2)) (And.intro (And.intro @rep.eq_1 @rep.eq_2) (And.intro @part.eq_1 @objCells.eq_1)))))):=(And.intro (And.intro (And.intro (And.intro (And.intro @noOwn.eq_5 (And.intro @noOwnL.eq_1 @noOwnL.eq_2)) (And.intro (And.intro @PV.free.eq_1 @PV.free.eq_2) (And.intro @PV.free.eq_3 @PV.free.eq_4))) (And.intro (And.intro (And.intro @PV.free.eq_5 @PV.free.eq_6) (And.intro @PV.free.eq_7 @PV.free.eq_8)) (And.intro (And.intro @take1.eq_1 @take1.eq_2) (And.intro @takeL.eq_1 @takeL.eq_2)))) (And.intro (And.intro (And.intro @copy1.eq_1 (And.intro @copyL.eq_1 @copyL.eq_2)) (And.intro (And.intro @pass1.eq_1 @pass1.eq_2) (And.intro @pass1.eq_3 @passL.eq_1))) (And.intro (And.intro (And.intro @passL.eq_2 @share.eq_1) (And.intro @lend.eq_1 @lend.eq_2)) (And.intro (And.intro @lend1.eq_1 @lendL.eq_1) (And.intro @lendL.eq_2 @lend1L.eq_1))))) (And.intro (And.intro (And.intro (And.intro @lend1L.eq_2 (And.intro @give.eq_1 @give.eq_2)) (And.intro (And.intro @give.eq_3 @give.eq_4) (And.intro @resVal.eq_1 @resVal.eq_2))) (And.intro (And.intro (And.intro @resL.eq_1 @resL.eq_2) (And.intro @outsOf.eq_1 @outsOf.eq_2)) (And.intro (And.intro @tupOf.eq_1 @params.eq_1) (And.intro @params.eq_2 @stepD.eq_1)))) (And.intro (And.intro (And.intro @stepsD.eq_1 (And.intro @stepsD.eq_2 @regD.eq_1)) (And.intro (And.intro @dstsOf.eq_1 @dstsOf.eq_2) (And.intro @setCells.eq_1 @setCells.eq_2))) (And.intro (And.intro (And.intro @putObj.eq_1 @cells.eq_1) (And.intro @fillP.eq_1 @fillP.eq_2)) (And.intro (And.intro @rep.eq_1 @rep.eq_2) (And.intro @part.eq_1 @objCells.eq_1))))))
theorem rna3:type_of% (And.intro (And.intro (And.intro (And.intro (And.intro @objCells.eq_2 (And.intro @pvBin.eq_1 @pvBin.eq_2)) (And.intro (And.intro @intBin.eq_1 @intBin.eq_2) (And.intro @intBin.eq_3 @intBin.eq_4))) (And.intro (And.intro (And.intro @intBin.eq_5 @intBin.eq_6) (And.intro @intBin.eq_7 @intBin.eq_8)) (And.intro (And.intro @intBin.eq_9 @intBin.eq_10) (And.intro @intBin.eq_11 @intBin.eq_12)))) (And.intro (And.intro (And.intro @intBin.eq_13 (And.intro @intBin.eq_14 @intBin.eq_15)) (And.intro (And.intro @intBin.eq_16 @intBin.eq_17) (And.intro @strBin.eq_1 @strBin.eq_2))) (And.intro (And.intro (And.intro @strBin.eq_3 @slCells.eq_1) (And.intro @slCells.eq_2 @slCells.eq_3)) (And.intro (And.intro @bnd.eq_1 @bnd.eq_2) (And.intro @refAt.eq_1 @refAt.eq_2))))) (And.intro (And.intro (And.intro (And.intro @waysOf.eq_1 (And.intro @und.eq_1 @deep.eq_1)) (And.intro (And.intro @canUpd.eq_1 @isT.eq_1) (And.intro @setO.eq_1 @setO.eq_2))) (And.intro (And.intro (And.intro @boxOnly.eq_1 @boxOnly.eq_2) (And.intro @purges.eq_1 @purges.eq_2)) (And.intro (And.intro @PV.lok.eq_1 @PV.lok.eq_2) (And.intro @eqCells.eq_1 @eqCells.eq_2)))) (And.intro (And.intro (And.intro @eqCells.eq_3 (And.intro @eqCells.eq_4 @pvBeq.eq_1)) (And.intro (And.intro @pvAeq.eq_1 @pvPeq.eq_1) (And.intro @pvPeq.eq_2 @pvPeq.eq_3))) (And.intro (And.intro (And.intro @pvPeq.eq_4 @pvPeq.eq_5) (And.intro @pvUn.eq_1 @pvUn.eq_2)) (And.intro (And.intro @PV.isNone.eq_1 @lent.eq_1) (And.intro @lent.eq_2 @lent.eq_3)))))):=(And.intro (And.intro (And.intro (And.intro (And.intro @objCells.eq_2 (And.intro @pvBin.eq_1 @pvBin.eq_2)) (And.intro (And.intro @intBin.eq_1 @intBin.eq_2) (And.intro @intBin.eq_3 @intBin.eq_4))) (And.intro (And.intro (And.intro @intBin.eq_5 @intBin.eq_6) (And.intro @intBin.eq_7 @intBin.eq_8)) (And.intro (And.intro @intBin.eq_9 @intBin.eq_10) (And.intro @intBin.eq_11 @intBin.eq_12)))) (And.intro (And.intro (And.intro @intBin.eq_13 (And.intro @intBin.eq_14 @intBin.eq_15)) (And.intro (And.intro @intBin.eq_16 @intBin.eq_17) (And.intro @strBin.eq_1 @strBin.eq_2))) (And.intro (And.intro (And.intro @strBin.eq_3 @slCells.eq_1) (And.intro @slCells.eq_2 @slCells.eq_3)) (And.intro (And.intro @bnd.eq_1 @bnd.eq_2) (And.intro @refAt.eq_1 @refAt.eq_2))))) (And.intro (And.intro (And.intro (And.intro @waysOf.eq_1 (And.intro @und.eq_1 @deep.eq_1)) (And.intro (And.intro @canUpd.eq_1 @isT.eq_1) (And.intro @setO.eq_1 @setO.eq_2))) (And.intro (And.intro (And.intro @boxOnly.eq_1 @boxOnly.eq_2) (And.intro @purges.eq_1 @purges.eq_2)) (And.intro (And.intro @PV.lok.eq_1 @PV.lok.eq_2) (And.intro @eqCells.eq_1 @eqCells.eq_2)))) (And.intro (And.intro (And.intro @eqCells.eq_3 (And.intro @eqCells.eq_4 @pvBeq.eq_1)) (And.intro (And.intro @pvAeq.eq_1 @pvPeq.eq_1) (And.intro @pvPeq.eq_2 @pvPeq.eq_3))) (And.intro (And.intro (And.intro @pvPeq.eq_4 @pvPeq.eq_5) (And.intro @pvUn.eq_1 @pvUn.eq_2)) (And.intro (And.intro @PV.isNone.eq_1 @lent.eq_1) (And.intro @lent.eq_2 @lent.eq_3))))))
theorem rna4:type_of% (And.intro (And.intro (And.intro (And.intro @PV.flat1.eq_1 @PV.flat1.eq_2) (And.intro @PV.flat1.eq_3 @PV.flat.eq_1)) (And.intro (And.intro @PV.flat.eq_2 @norm1.eq_1) (And.intro @lendCaps.eq_1 @lendCaps.eq_2))) (And.intro (And.intro (And.intro @fgt.eq_1 @seqK.eq_1) (And.intro @blockK.eq_1 @condK.eq_1)) (And.intro (And.intro @condK.eq_2 @PV.isView.eq_1) (And.intro @PV.isRef.eq_1 @bytesOf.eq_1)))):=(And.intro (And.intro (And.intro (And.intro @PV.flat1.eq_1 @PV.flat1.eq_2) (And.intro @PV.flat1.eq_3 @PV.flat.eq_1)) (And.intro (And.intro @PV.flat.eq_2 @norm1.eq_1) (And.intro @lendCaps.eq_1 @lendCaps.eq_2))) (And.intro (And.intro (And.intro @fgt.eq_1 @seqK.eq_1) (And.intro @blockK.eq_1 @condK.eq_1)) (And.intro (And.intro @condK.eq_2 @PV.isView.eq_1) (And.intro @PV.isRef.eq_1 @bytesOf.eq_1))))
theorem rnb0:(∀(r:Nat) (p:List Nat) (b:Bool),al r p (.bool b)=(.bool b)) /\
 (∀(r:Nat) (p:List Nat) (k:IntKind) (n:Int),al r p (.int k n)=(.int k n)) /\
 (∀(r:Nat) (p:List Nat) (s:List UInt8),al r p (.str s)=(.str s)) /\
 (∀(r:Nat) (p:List Nat) ,al r p (.nilp)=(.nilp)) /\
 (∀(r:Nat) (p:List Nat) ,al r p (.nilf)=(.nilf)) /\
 (∀(r:Nat) (p:List Nat) (l:Nat) (c:List PV),al r p (.sl l c)=(.sl l c)) /\
 (∀(r:Nat) (p:List Nat) (c:List PV),al r p (.sp c)=(.sp c)) /\
 (∀(r:Nat) (p:List Nat) ,al r p (.nils)=(.nils)) /\
 (∀(r:Nat) (p:List Nat) ,al r p (PV.none)=(PV.none)) /\
 (∀(r:Nat) (p:List Nat) (r2:Nat) (p2:List Nat) (o l z:Nat),al r p (.view r2 p2 o l z)=(.view r2 p2 o l z)) /\
 (∀(r:Nat) (p:List Nat) (r2:Nat) (p2:List Nat) (i n:Nat),al r p (.ref r2 p2 i n)=(.ref r2 p2 i n)) /\
 (∀(f:Nat->List Nat->Bool) (b:Bool),purge1 f (.bool b)=(.bool b)) /\
 (∀(f:Nat->List Nat->Bool) (k:IntKind) (n:Int),purge1 f (.int k n)=(.int k n)) /\
 (∀(f:Nat->List Nat->Bool) (s:List UInt8),purge1 f (.str s)=(.str s)) /\
 (∀(f:Nat->List Nat->Bool) ,purge1 f (.nilp)=(.nilp)) /\
 (∀(f:Nat->List Nat->Bool) ,purge1 f (.nilf)=(.nilf)) /\
 (∀(f:Nat->List Nat->Bool) (l:Nat) (c:List PV),purge1 f (.sl l c)=(.sl l c)) /\
 (∀(f:Nat->List Nat->Bool) (c:List PV),purge1 f (.sp c)=(.sp c)) /\
 (∀(f:Nat->List Nat->Bool) ,purge1 f (.nils)=(.nils)) /\
 (∀(f:Nat->List Nat->Bool) ,purge1 f (PV.none)=(PV.none)) /\
 (∀(f:Nat->List Nat->Bool) (a l:Nat) (c:List PV),purge1 f (.own a l c)=(.own a l c)) /\
 (∀(f:Nat->List Nat->Bool) (c:List PV),purge1 f (.box c)=(.box c)) /\
 (∀(k:IntKind) (n:Int),kids (.int k n)=[]) /\
 (∀(b:Bool),frz (.bool b)=some (.bool b)) /\
 (∀(k:IntKind) (n:Int),frz (.int k n)=some (.int k n)) /\
 (∀(s:List UInt8),frz (.str s)=some (.str s)) /\
 (frz (.nilp)=some (.nilp)) /\
 (frz (.nilf)=some (.nilf)) /\
 (∀(l:Nat) (c:List PV),frz (.sl l c)=some (.sl l c)) /\
 (∀(c:List PV),frz (.sp c)=some (.sp c)) /\
 (∀(b:Bool),refs (.bool b)=[]) /\
 (∀(k:IntKind) (n:Int),refs (.int k n)=[]) /\
 (∀(s:List UInt8),refs (.str s)=[]) /\
 (refs (.nilp)=[]) /\
 (refs (.nilf)=[]) /\
 (∀(l:Nat) (c:List PV),refs (.sl l c)=[]) /\
 (∀(c:List PV),refs (.sp c)=[]) /\
 (refs (.nils)=[]) /\
 (refs (PV.none)=[]) /\
 (∀(a l:Nat) (c:List PV),refs (.own a l c)=[]) /\
 (∀(c:List PV),refs (.box c)=[]) /\
 (∀(ds:List Nat) (b:Bool),noRefs ds (.bool b)=true) /\
 (∀(ds:List Nat) (k:IntKind) (n:Int),noRefs ds (.int k n)=true) /\
 (∀(ds:List Nat) (s:List UInt8),noRefs ds (.str s)=true) /\
 (∀(ds:List Nat) ,noRefs ds (.nilp)=true) /\
 (∀(ds:List Nat) ,noRefs ds (.nilf)=true) /\
 (∀(ds:List Nat) (l:Nat) (c:List PV),noRefs ds (.sl l c)=true) /\
 (∀(ds:List Nat) (c:List PV),noRefs ds (.sp c)=true) /\
 (∀(ds:List Nat) ,noRefs ds (.nils)=true) /\
 (∀(ds:List Nat) ,noRefs ds (PV.none)=true) /\
 (∀(ds:List Nat) (a l:Nat) (c:List PV),noRefs ds (.own a l c)=true) /\
 (∀(ds:List Nat) (c:List PV),noRefs ds (.box c)=true) /\
 (∀(ds:List Nat) (r:Nat) (p:List Nat) (i n:Nat),noRefs ds (.ref r p i n)=(!ds.contains r&&true)) /\
 (∀(ds:List Nat) (r:Nat) (p:List Nat) (o l z:Nat),noRefs ds (.view r p o l z)=(!ds.contains r&&true)) /\
 (∀(ds:List Nat),noRefs ds (.tup [])=true) /\
 (∀(b:Bool),noOwn (.bool b)=true) /\
 (∀(k:IntKind) (n:Int),noOwn (.int k n)=true) /\
 (∀(s:List UInt8),noOwn (.str s)=true) /\
 (noOwn (.nilp)=true) /\
 (noOwn (.nilf)=true):=by
 refine⟨?_,?_,?_,?_,?_,?_,?_,?_,?_,?_,?_,?_,?_,?_,?_,?_,?_,?_,?_,?_,?_,?_,?_,?_,?_,?_,?_,?_,?_,?_,?_,?_,?_,?_,?_,?_,?_,?_,?_,?_,?_,?_,?_,?_,?_,?_,?_,?_,?_,?_,?_,?_,?_,?_,?_,?_,?_,?_,?_,?_⟩<;>intros<;>rfl
theorem rnb1:(∀(l:Nat) (c:List PV),noOwn (.sl l c)=true) /\
 (∀(c:List PV),noOwn (.sp c)=true) /\
 (noOwn (.nils)=true) /\
 (noOwn (PV.none)=true) /\
 (∀(r2:Nat) (p2:List Nat) (o l z:Nat),noOwn (.view r2 p2 o l z)=true) /\
 (∀(r2:Nat) (p2:List Nat) (i n:Nat),noOwn (.ref r2 p2 i n)=true) /\
 (∀(b:Bool),PV.free (.bool b)=true) /\
 (∀(k:IntKind) (n:Int),PV.free (.int k n)=true) /\
 (∀(s:List UInt8),PV.free (.str s)=true) /\
 (PV.free (.nilp)=true) /\
 (PV.free (.nilf)=true) /\
 (∀(l:Nat) (c:List PV),PV.free (.sl l c)=true) /\
 (∀(c:List PV),PV.free (.sp c)=true) /\
 (PV.free (.nils)=true) /\
 (∀(e:Env) (b:Bool),take1 e (.bool b)=some ((.bool b),e)) /\
 (∀(e:Env) (k:IntKind) (n:Int),take1 e (.int k n)=some ((.int k n),e)) /\
 (∀(e:Env) (s:List UInt8),take1 e (.str s)=some ((.str s),e)) /\
 (∀(e:Env) ,take1 e (.nilp)=some ((.nilp),e)) /\
 (∀(e:Env) ,take1 e (.nilf)=some ((.nilf),e)) /\
 (∀(e:Env) (l:Nat) (c:List PV),take1 e (.sl l c)=some ((.sl l c),e)) /\
 (∀(e:Env) (c:List PV),take1 e (.sp c)=some ((.sp c),e)) /\
 (∀(e:Env) ,take1 e (.nils)=some ((.nils),e)) /\
 (∀(e:Env) (b:Bool),copy1 e (.bool b)=some ((.bool b),e)) /\
 (∀(e:Env) (k:IntKind) (n:Int),copy1 e (.int k n)=some ((.int k n),e)) /\
 (∀(e:Env) (s:List UInt8),copy1 e (.str s)=some ((.str s),e)) /\
 (∀(e:Env) ,copy1 e (.nilp)=some ((.nilp),e)) /\
 (∀(e:Env) ,copy1 e (.nilf)=some ((.nilf),e)) /\
 (∀(e:Env) (l:Nat) (c:List PV),copy1 e (.sl l c)=some ((.sl l c),e)) /\
 (∀(e:Env) (c:List PV),copy1 e (.sp c)=some ((.sp c),e)) /\
 (∀(e:Env) ,copy1 e (.nils)=some ((.nils),e)) /\
 (∀(e:Env) (b:Bool),pass1 e (.bool b)=some ((.bool b),e)) /\
 (∀(e:Env) (k:IntKind) (n:Int),pass1 e (.int k n)=some ((.int k n),e)) /\
 (∀(e:Env) (s:List UInt8),pass1 e (.str s)=some ((.str s),e)) /\
 (∀(e:Env) ,pass1 e (.nilp)=some ((.nilp),e)) /\
 (∀(e:Env) ,pass1 e (.nilf)=some ((.nilf),e)) /\
 (∀(e:Env) (l:Nat) (c:List PV),pass1 e (.sl l c)=some ((.sl l c),e)) /\
 (∀(e:Env) (c:List PV),pass1 e (.sp c)=some ((.sp c),e)) /\
 (∀(e:Env) ,pass1 e (.nils)=copy1 e (.nils)) /\
 (∀(e:Env) (r2:Nat) (p2:List Nat) (o l z:Nat),pass1 e (.view r2 p2 o l z)=copy1 e (.view r2 p2 o l z)) /\
 (∀(S:Subs) (b:Bool),lend1 S (.bool b)=some (.bool b)) /\
 (∀(S:Subs) (k:IntKind) (n:Int),lend1 S (.int k n)=some (.int k n)) /\
 (∀(S:Subs) (s:List UInt8),lend1 S (.str s)=some (.str s)) /\
 (∀(S:Subs) ,lend1 S (.nilp)=some (.nilp)) /\
 (∀(S:Subs) ,lend1 S (.nilf)=some (.nilf)) /\
 (∀(S:Subs) (l:Nat) (c:List PV),lend1 S (.sl l c)=some (.sl l c)) /\
 (∀(S:Subs) (c:List PV),lend1 S (.sp c)=some (.sp c)) /\
 (∀(S:Subs) ,lend1 S (.nils)=some (.nils)) /\
 (∀(S:Subs) (r2:Nat) (p2:List Nat) (i n:Nat),lend1 S (.ref r2 p2 i n)=none) /\
 (∀(S:Subs) (b:Bool),lend S (.bool b)=lend1 S (.bool b)) /\
 (∀(S:Subs) (k:IntKind) (n:Int),lend S (.int k n)=lend1 S (.int k n)) /\
 (∀(S:Subs) (s:List UInt8),lend S (.str s)=lend1 S (.str s)) /\
 (∀(S:Subs) ,lend S (.nilp)=lend1 S (.nilp)) /\
 (∀(S:Subs) ,lend S (.nilf)=lend1 S (.nilf)) /\
 (∀(S:Subs) (l:Nat) (c:List PV),lend S (.sl l c)=lend1 S (.sl l c)) /\
 (∀(S:Subs) (c:List PV),lend S (.sp c)=lend1 S (.sp c)) /\
 (∀(S:Subs) ,lend S (.nils)=lend1 S (.nils)) /\
 (∀(S:Subs) (r2:Nat) (p2:List Nat) (o l z:Nat),lend S (.view r2 p2 o l z)=lend1 S (.view r2 p2 o l z)) /\
 (∀(S:Subs) (r2:Nat) (p2:List Nat) (i n:Nat),lend S (.ref r2 p2 i n)=lend1 S (.ref r2 p2 i n)) /\
 (∀(kp:Bool) (e:Env) (b:Bool),give kp e (.bool b)=some ((.bool b),e)) /\
 (∀(kp:Bool) (e:Env) (k:IntKind) (n:Int),give kp e (.int k n)=some ((.int k n),e)):=by
 refine⟨?_,?_,?_,?_,?_,?_,?_,?_,?_,?_,?_,?_,?_,?_,?_,?_,?_,?_,?_,?_,?_,?_,?_,?_,?_,?_,?_,?_,?_,?_,?_,?_,?_,?_,?_,?_,?_,?_,?_,?_,?_,?_,?_,?_,?_,?_,?_,?_,?_,?_,?_,?_,?_,?_,?_,?_,?_,?_,?_,?_⟩<;>intros<;>rfl
theorem rnb2:(∀(kp:Bool) (e:Env) (s:List UInt8),give kp e (.str s)=some ((.str s),e)) /\
 (∀(kp:Bool) (e:Env) ,give kp e (.nilp)=some ((.nilp),e)) /\
 (∀(kp:Bool) (e:Env) ,give kp e (.nilf)=some ((.nilf),e)) /\
 (∀(kp:Bool) (e:Env) (l:Nat) (c:List PV),give kp e (.sl l c)=some ((.sl l c),e)) /\
 (∀(kp:Bool) (e:Env) (c:List PV),give kp e (.sp c)=some ((.sp c),e)) /\
 (∀(a b:PV) (r:List PV),tupOf (a::b::r) = .tup (a::b::r)) /\
 (tupOf [] = .tup []) /\
 (∀(b:Bool),objCells (.bool b)=Option.none) /\
 (∀(k:IntKind) (n:Int),objCells (.int k n)=Option.none) /\
 (∀(s:List UInt8),objCells (.str s)=Option.none) /\
 (objCells (.nilp)=Option.none) /\
 (objCells (.nilf)=Option.none) /\
 (∀(l:Nat) (c:List PV),objCells (.sl l c)=Option.none) /\
 (∀(c:List PV),objCells (.sp c)=Option.none) /\
 (objCells (.nils)=Option.none) /\
 (objCells (PV.none)=Option.none) /\
 (∀(b:Bool),cells (.bool b)=[(.bool b)]) /\
 (∀(k:IntKind) (n:Int),cells (.int k n)=[(.int k n)]) /\
 (∀(s:List UInt8),cells (.str s)=[(.str s)]) /\
 (cells (.nilp)=[(.nilp)]) /\
 (cells (.nilf)=[(.nilf)]) /\
 (∀(l:Nat) (c:List PV),cells (.sl l c)=[(.sl l c)]) /\
 (∀(c:List PV),cells (.sp c)=[(.sp c)]) /\
 (cells (.nils)=[(.nils)]) /\
 (∀(r2:Nat) (p2:List Nat) (o l z:Nat),cells (.view r2 p2 o l z)=[(.view r2 p2 o l z)]) /\
 (∀(r2:Nat) (p2:List Nat) (i n:Nat),cells (.ref r2 p2 i n)=[(.ref r2 p2 i n)]) /\
 (∀(b:Bool),waysOf (.bool b)=refs (.bool b)) /\
 (∀(k:IntKind) (n:Int),waysOf (.int k n)=refs (.int k n)) /\
 (∀(s:List UInt8),waysOf (.str s)=refs (.str s)) /\
 (waysOf (.nilp)=refs (.nilp)) /\
 (waysOf (.nilf)=refs (.nilf)) /\
 (∀(l:Nat) (c:List PV),waysOf (.sl l c)=refs (.sl l c)) /\
 (∀(c:List PV),waysOf (.sp c)=refs (.sp c)) /\
 (waysOf (.nils)=refs (.nils)) /\
 (∀(r2:Nat) (p2:List Nat) (o l z:Nat),waysOf (.view r2 p2 o l z)=refs (.view r2 p2 o l z)) /\
 (∀(b:Bool),boxOnly (.bool b)=PV.none) /\
 (∀(k:IntKind) (n:Int),boxOnly (.int k n)=PV.none) /\
 (∀(s:List UInt8),boxOnly (.str s)=PV.none) /\
 (boxOnly (.nilp)=PV.none) /\
 (boxOnly (.nilf)=PV.none) /\
 (∀(l:Nat) (c:List PV),boxOnly (.sl l c)=PV.none) /\
 (∀(c:List PV),boxOnly (.sp c)=PV.none) /\
 (boxOnly (.nils)=PV.none) /\
 (boxOnly (PV.none)=PV.none) /\
 (∀(r2:Nat) (p2:List Nat) (o l z:Nat),boxOnly (.view r2 p2 o l z)=PV.none) /\
 (∀(r2:Nat) (p2:List Nat) (i n:Nat),boxOnly (.ref r2 p2 i n)=PV.none) /\
 (∀(c:List PV),boxOnly (.agg c) = .none) /\
 (∀(c:List PV),boxOnly (.tup c) = .none) /\
 (∀(b:Bool),PV.lok (.bool b)=true) /\
 (∀(k:IntKind) (n:Int),PV.lok (.int k n)=true) /\
 (∀(s:List UInt8),PV.lok (.str s)=true) /\
 (PV.lok (.nilp)=true) /\
 (PV.lok (.nilf)=true) /\
 (∀(l:Nat) (c:List PV),PV.lok (.sl l c)=true) /\
 (∀(c:List PV),PV.lok (.sp c)=true) /\
 (PV.lok (.nils)=true) /\
 (∀(b:Bool),PV.isNone (.bool b)=false) /\
 (∀(k:IntKind) (n:Int),PV.isNone (.int k n)=false) /\
 (∀(s:List UInt8),PV.isNone (.str s)=false) /\
 (PV.isNone (.nilp)=false):=by
 refine⟨?_,?_,?_,?_,?_,?_,?_,?_,?_,?_,?_,?_,?_,?_,?_,?_,?_,?_,?_,?_,?_,?_,?_,?_,?_,?_,?_,?_,?_,?_,?_,?_,?_,?_,?_,?_,?_,?_,?_,?_,?_,?_,?_,?_,?_,?_,?_,?_,?_,?_,?_,?_,?_,?_,?_,?_,?_,?_,?_,?_⟩<;>intros<;>rfl
theorem rnb3:(PV.isNone (.nilf)=false) /\
 (∀(l:Nat) (c:List PV),PV.isNone (.sl l c)=false) /\
 (∀(c:List PV),PV.isNone (.sp c)=false) /\
 (PV.isNone (.nils)=false) /\
 (∀(r2:Nat) (p2:List Nat) (o l z:Nat),PV.isNone (.view r2 p2 o l z)=false) /\
 (∀(r2:Nat) (p2:List Nat) (i n:Nat),PV.isNone (.ref r2 p2 i n)=false) /\
 (∀(c:List PV),PV.isNone (.agg c)=false) /\
 (∀(b:Bool),PV.isView (.bool b)=false) /\
 (∀(k:IntKind) (n:Int),PV.isView (.int k n)=false) /\
 (∀(s:List UInt8),PV.isView (.str s)=false) /\
 (PV.isView (.nilp)=false) /\
 (PV.isView (.nilf)=false) /\
 (∀(l:Nat) (c:List PV),PV.isView (.sl l c)=false) /\
 (∀(c:List PV),PV.isView (.sp c)=false) /\
 (PV.isView (.nils)=false) /\
 (∀(b:Bool),lent (.bool b)=false) /\
 (∀(k:IntKind) (n:Int),lent (.int k n)=false) /\
 (∀(s:List UInt8),lent (.str s)=false) /\
 (lent (.nilp)=false) /\
 (lent (.nilf)=false) /\
 (∀(l:Nat) (c:List PV),lent (.sl l c)=false) /\
 (∀(c:List PV),lent (.sp c)=false) /\
 (lent (.nils)=false) /\
 (∀(r2:Nat) (p2:List Nat) (i n:Nat),lent (.ref r2 p2 i n)=false) /\
 (PV.flat1 (.nilp)=false) /\
 (∀(l:Nat) (c:List PV),PV.flat1 (.sl l c)=false) /\
 (∀(c:List PV),PV.flat1 (.sp c)=false) /\
 (∀(b:Bool),PV.flat (.bool b)=PV.flat1 (.bool b)) /\
 (∀(k:IntKind) (n:Int),PV.flat (.int k n)=PV.flat1 (.int k n)) /\
 (∀(s:List UInt8),PV.flat (.str s)=PV.flat1 (.str s)) /\
 (PV.flat (.nilp)=PV.flat1 (.nilp)) /\
 (PV.flat (.nilf)=PV.flat1 (.nilf)) /\
 (∀(l:Nat) (c:List PV),PV.flat (.sl l c)=PV.flat1 (.sl l c)) /\
 (∀(c:List PV),PV.flat (.sp c)=PV.flat1 (.sp c)) /\
 (∀(b:Bool),norm1 (.bool b)=(.bool b)) /\
 (∀(k:IntKind) (n:Int),norm1 (.int k n)=(.int k n)) /\
 (∀(s:List UInt8),norm1 (.str s)=(.str s)) /\
 (norm1 (.nilp)=(.nilp)) /\
 (norm1 (.nilf)=(.nilf)) /\
 (∀(l:Nat) (c:List PV),norm1 (.sl l c)=(.sl l c)) /\
 (∀(c:List PV),norm1 (.sp c)=(.sp c)) /\
 (∀(ws:List PV),argsIn false ws=ws.map normA) /\
 (∀(ws:List PV),argsIn true ws=ws) /\
 (∀(b:Bool),normA (.bool b)=(.bool b)) /\
 (∀(k:IntKind) (n:Int),normA (.int k n)=(.int k n)) /\
 (∀(s:List UInt8),normA (.str s)=(.str s)) /\
 (normA (.nilp)=(.nilp)) /\
 (normA (.nilf)=(.nilf)) /\
 (∀(l:Nat) (c:List PV),normA (.sl l c)=(.sl l c)) /\
 (∀(c:List PV),normA (.sp c)=(.sp c)) /\
 (∀(r2:Nat) (p2:List Nat) (o l z:Nat),normA (.view r2 p2 o l z)=(.view r2 p2 o l z)) /\
 (∀(r2:Nat) (p2:List Nat) (i n:Nat),normA (.ref r2 p2 i n)=(.ref r2 p2 i n)) /\
 (∀(a l:Nat) (c:List PV),normA (.own a l c)=(.own a l c)) /\
 (∀(c:List PV),normA (.box c)=(.box c)) /\
 (normA .nils = .sl 0 []) /\
 (∀(c:List PV),normA (.agg c) = .agg (c.map norm1)) /\
 (∀(f:Nat) (c:List PV),normA (.fn f c) = .fn f c) /\
 (∀(e:Env) (vs:List PV),rowAt e [] vs=Option.none) /\
 (∀(e:Env) (k:Nat) (m:List Nat) (vs:List PV),rowAt e (k::m) vs=(match vs[k]? with | some (.view q p off len z)=>(match e.sub q p with | .own sz n cs=>if off=0/\len=n/\z=sz then some (k,q,p,sz,n,cs) else Option.none|_=>Option.none) | _=>Option.none)) /\
 (∀(r:List PV) (b:Bool),refAt ((.bool b)::r)=(refAt r).map fun (k,q)=>(k+1,q)):=by
 refine⟨?_,?_,?_,?_,?_,?_,?_,?_,?_,?_,?_,?_,?_,?_,?_,?_,?_,?_,?_,?_,?_,?_,?_,?_,?_,?_,?_,?_,?_,?_,?_,?_,?_,?_,?_,?_,?_,?_,?_,?_,?_,?_,?_,?_,?_,?_,?_,?_,?_,?_,?_,?_,?_,?_,?_,?_,?_,?_,?_,?_⟩<;>intros<;>rfl
theorem rnb4:(∀(r:List PV) (k:IntKind) (n:Int),refAt ((.int k n)::r)=(refAt r).map fun (k,q)=>(k+1,q)) /\
 (∀(r:List PV) (s:List UInt8),refAt ((.str s)::r)=(refAt r).map fun (k,q)=>(k+1,q)) /\
 (∀(r:List PV) ,refAt ((.nilp)::r)=(refAt r).map fun (k,q)=>(k+1,q)) /\
 (∀(r:List PV) ,refAt ((.nilf)::r)=(refAt r).map fun (k,q)=>(k+1,q)) /\
 (∀(r:List PV) (l:Nat) (c:List PV),refAt ((.sl l c)::r)=(refAt r).map fun (k,q)=>(k+1,q)) /\
 (∀(r:List PV) (c:List PV),refAt ((.sp c)::r)=(refAt r).map fun (k,q)=>(k+1,q)) /\
 (∀(r:List PV) ,refAt ((.nils)::r)=(refAt r).map fun (k,q)=>(k+1,q)) /\
 (∀(c r:List PV),refAt (.agg c::r)=(refAt r).map fun (k,q)=>(k+1,q)) /\
 (∀(C:Calls') (L:XO->PV) (S:Subs) (x:XO),evP C L S (.asg x)=Option.none) /\
 (∀(C:Calls') (L:XO->PV) (S:Subs) (n:Nat) (x y:XO),evP C L S (.store n x y)=Option.none) /\
 (∀(C:Calls') (L:XO->PV) (S:Subs) (x:XO),blocked C L S (.asg x)=false) /\
 (∀(C:Calls') (L:XO->PV) (S:Subs) (n:Nat) (x y:XO),blocked C L S (.store n x y)=false) /\
 (∀(C:Calls') (L:XO->PV) (S:Subs) (n m:Nat) (x y:XO),blocked C L S (.app n m x y)=false) /\
 (∀(C:Calls') (L:XO->PV) (S:Subs) (x:XO) (n:Nat),blocked C L S (.ext x n)=false) /\
 (∀(C:Calls') (L:XO->PV) (S:Subs) (n m:Nat) (z:List PV) (p:List (Nat×Nat×XO)),blocked C L S (.bsl n m z p)=false) /\
 (∀(C:Calls') (L:XO->PV) (S:Subs) (x:XO),blocked C L S (.box x)=false) /\
 (∀(k:IntKind) (x y:Int),intBits .and k x y=some (bAnd k x y)) /\
 (∀(k:IntKind) (x y:Int),intBits .or k x y=some (bOr k x y)) /\
 (∀(k:IntKind) (x y:Int),intBits .xor k x y=some (bXor k x y)) /\
 (IntKind.bits .i8=8) /\
 (IntKind.bits .u8=8) /\
 (IntKind.bits .i16=16) /\
 (IntKind.bits .u16=16) /\
 (IntKind.bits .i32=32) /\
 (IntKind.bits .u32=32) /\
 (IntKind.bits .i64=64) /\
 (IntKind.bits .u64=64) /\
 ((true==true)=true) /\
 ((true==false)=false) /\
 ((false==true)=false) /\
 ((false==false)=true) /\
 (∀(id:Nat) (e:Env) (k:Env->Option (Ex×Env)),seqK (some (.exit id,e)) k=some (.exit id,e)) /\
 (∀(e:Env) (k:Env->Option (Ex×Env)),seqK (some (.ret,e)) k=some (.ret,e)) /\
 (∀(i:Nat) (e:Env),blockK i (some (.norm,e))=some (.norm,e)) /\
 (∀(i:Nat) (e:Env),blockK i (some (.ret,e))=some (.ret,e)) /\
 (∀(l:List Nat) (i:Nat) (e:Env),fgt l (some (.exit i,e))=some (.exit i,e)) /\
 (∀(l:List Nat) (e:Env),fgt l (some (.ret,e))=some (.ret,e)) /\
 (∀(x:XF) (ws:List PV) (e:Env),retK x ws (some (.ret,e))=(resL x.keep e x.res).map fun (vs,e')=>(tupOf vs,outsOf x.prot e' 0 ws)) /\
 (∀(x:XF) (ws:List PV) (e:Env),retK x ws (some (.norm,e))=(resL x.keep e x.res).map fun (vs,e')=>(tupOf vs,outsOf x.prot e' 0 ws)) /\
 (∀(d:Nat) (w:Bool) (g:Nat->PV),wantsG g (some (d,w))=(match g d with | .bool b=>some (b==w) | .tup []=>some false|_=>Option.none)):=by
 refine⟨?_,?_,?_,?_,?_,?_,?_,?_,?_,?_,?_,?_,?_,?_,?_,?_,?_,?_,?_,?_,?_,?_,?_,?_,?_,?_,?_,?_,?_,?_,?_,?_,?_,?_,?_,?_,?_,?_,?_,?_⟩<;>intros<;>rfl
theorem rn:type_of% (And.intro (And.intro (And.intro rna0 rna1) (And.intro rna2 (And.intro rna3 rna4))) (And.intro (And.intro rnb0 rnb1) (And.intro rnb2 (And.intro rnb3 rnb4)))):=(And.intro (And.intro (And.intro rna0 rna1) (And.intro rna2 (And.intro rna3 rna4))) (And.intro (And.intro rnb0 rnb1) (And.intro rnb2 (And.intro rnb3 rnb4))))
theorem nzg:(∀(k:IntKind) (xs:List Int),(xs.flatMap (cint k)).length=xs.length*1)/\(∀(xs:List Bool),(xs.flatMap cbool).length=xs.length*1)/\(∀(xs:List Str),(xs.flatMap cstr).length=xs.length*1)/\(∀(α:Type) (c:α->List PV) (xs:List (List α)),(xs.flatMap (csl c)).length=xs.length*1) /\
 (∀(k:IntKind) (xs:List Int),frzL (xs.flatMap (cint k))=some (xs.flatMap (cint k)))/\(∀(xs:List Bool),frzL (xs.flatMap cbool)=some (xs.flatMap cbool))/\(∀(xs:List Str),frzL (xs.flatMap cstr)=some (xs.flatMap cstr))/\(∀(α:Type) (c:α->List PV) (xs:List (List α)),frzL (xs.flatMap (csl c))=some (xs.flatMap (csl c))) /\
 (∀(k:IntKind) (xs:List Int),(xs.flatMap (cint k)).all PV.free=true)/\(∀(xs:List Bool),(xs.flatMap cbool).all PV.free=true)/\(∀(xs:List Str),(xs.flatMap cstr).all PV.free=true)/\(∀(α:Type) (c:α->List PV) (xs:List (List α)),(xs.flatMap (csl c)).all PV.free=true) /\
 (∀(k:IntKind) (xs:List Int),(xs.flatMap (cint k)).take (xs.length*1)=xs.flatMap (cint k))/\(∀(xs:List Bool),(xs.flatMap cbool).take (xs.length*1)=xs.flatMap cbool)/\(∀(xs:List Str),(xs.flatMap cstr).take (xs.length*1)=xs.flatMap cstr)/\(∀(α:Type) (c:α->List PV) (xs:List (List α)),(xs.flatMap (csl c)).take (xs.length*1)=xs.flatMap (csl c)) /\
 (∀(k:IntKind) (ds:List Nat) (xs:List Int),(xs.flatMap (cint k)).all (noRefs ds)=true)/\(∀(ds:List Nat) (xs:List Bool),(xs.flatMap cbool).all (noRefs ds)=true)/\(∀(ds:List Nat) (xs:List Str),(xs.flatMap cstr).all (noRefs ds)=true)/\(∀(α:Type) (c:α->List PV) (ds:List Nat) (xs:List (List α)),(xs.flatMap (csl c)).all (noRefs ds)=true)/\(∀n:Nat,(n=n*1)=True):=
 ⟨fun k=>enl_len (sz_int k),enl_len sz_bool,enl_len sz_str,fun _ c=>enl_len (sz_sl c),fun k=>enl_frz (fz_int k),enl_frz fz_bool,enl_frz fz_str,fun _ c=>enl_frz (fz_sl c),fun k=>enl_free (fz_int k),enl_free fz_bool,enl_free fz_str,fun _ c=>enl_free (fz_sl c),fun k=>enl_take (sz_int k),enl_take sz_bool,enl_take sz_str,fun _ c=>enl_take (sz_sl c),fun k=>enl_noRefs (fz_int k),enl_noRefs fz_bool,enl_noRefs fz_str,fun _ c=>enl_noRefs (fz_sl c),fun n=>by simp⟩
theorem nzc:((0:Nat):Int)=0/\((1:Nat):Int)=1/\((2:Nat):Int)=2/\((3:Nat):Int)=3/\((4:Nat):Int)=4/\((5:Nat):Int)=5/\((6:Nat):Int)=6/\((7:Nat):Int)=7/\((8:Nat):Int)=8/\((9:Nat):Int)=9/\((10:Nat):Int)=10/\((11:Nat):Int)=11/\((12:Nat):Int)=12/\((13:Nat):Int)=13/\((14:Nat):Int)=14/\((15:Nat):Int)=15/\((16:Nat):Int)=16:=⟨rfl,rfl,rfl,rfl,rfl,rfl,rfl,rfl,rfl,rfl,rfl,rfl,rfl,rfl,rfl,rfl,rfl⟩
theorem nzt:(∀(σ ρ β:Type) (f:σ->β) (g:ρ->β) (s:σ),stpK f g (.next s)=f s)/\(∀(σ ρ β:Type) (f:σ->β) (g:ρ->β) (r:ρ),stpK f g (.stop r)=g r):=⟨fun _ _ _ _ _ _=>rfl,fun _ _ _ _ _ _=>rfl⟩
theorem nz:type_of% (And.intro (And.intro (And.intro (And.intro (And.intro (And.intro nzg nzc) (And.intro nzt (And.intro @List.length_nil.{0} @List.flatMap_nil.{0,0}))) (And.intro (And.intro @mkOwn_nil @mkOwn_succ) (And.intro @mkView_nil (And.intro @mkView_succ @List.length_cons.{0})))) (And.intro (And.intro (And.intro @List.flatMap_cons.{0,0} @List.length_set.{0}) (And.intro @List.append_nil.{0} (And.intro @List.cons_append.{0} @List.nil_append.{0}))) (And.intro (And.intro @Nat.zero_add @Nat.zero_mul) (And.intro @List.drop_zero.{0} (And.intro @Nat.le_refl @eq_self.{1}))))) (And.intro (And.intro (And.intro (And.intro @and_true @true_and) (And.intro @and_self (And.intro @ne_eq.{1} @not_true_eq_false))) (And.intro (And.intro @not_false_eq_true @or_false) (And.intro @false_or (And.intro @or_self @Bool.or_true)))) (And.intro (And.intro (And.intro @Bool.true_or @Bool.or_false) (And.intro @Bool.false_or (And.intro @Bool.and_true @Bool.true_and))) (And.intro (And.intro @Bool.and_false (And.intro @Bool.false_and @Bool.not_true)) (And.intro @Bool.not_false (And.intro @List.isEmpty_nil.{0} @List.all_cons.{0})))))) (And.intro (And.intro (And.intro (And.intro (And.intro @List.all_nil.{0} @List.any_cons.{0}) (And.intro @List.any_nil.{0} (And.intro @List.map_cons.{0,0} @List.map_nil.{0,0}))) (And.intro (And.intro @List.getElem?_cons_zero.{0} @List.getElem?_cons_succ.{0}) (And.intro @List.set_cons_zero.{0} (And.intro @List.set_cons_succ.{0} @List.take_succ_cons.{0})))) (And.intro (And.intro (And.intro @List.take_zero.{0} @List.drop_succ_cons.{0}) (And.intro @List.take_nil.{0} (And.intro @List.drop_nil.{0} @Bool.not_eq_false))) (And.intro (And.intro @Bool.not_eq_true @Bool.true_eq_false) (And.intro @beq_self_eq_true.{0} (And.intro @lim_eq @refs_mkOwn))))) (And.intro (And.intro (And.intro (And.intro @noRefs_mkOwn @noRefs_agg) (And.intro @purge1_mkOwn (And.intro @noOwnL_int @purgeL_int))) (And.intro (And.intro @alL_int @refsL_int) (And.intro @bytesOf_enl (And.intro @cint.eq_1 @cbool.eq_1)))) (And.intro (And.intro (And.intro @cstr.eq_1 @csl.eq_1) (And.intro @decide_true (And.intro @decide_false @Option.bind_some.{0,0}))) (And.intro (And.intro @List.isPrefixOf_nil_left.{0} (And.intro @Bool.false_xor @Bool.true_xor)) (And.intro @List.length_append.{0} (And.intro @List.replicate_zero.{0} @List.flatMap_append.{0,0}))))))):=(And.intro (And.intro (And.intro (And.intro (And.intro (And.intro nzg nzc) (And.intro nzt (And.intro @List.length_nil.{0} @List.flatMap_nil.{0,0}))) (And.intro (And.intro @mkOwn_nil @mkOwn_succ) (And.intro @mkView_nil (And.intro @mkView_succ @List.length_cons.{0})))) (And.intro (And.intro (And.intro @List.flatMap_cons.{0,0} @List.length_set.{0}) (And.intro @List.append_nil.{0} (And.intro @List.cons_append.{0} @List.nil_append.{0}))) (And.intro (And.intro @Nat.zero_add @Nat.zero_mul) (And.intro @List.drop_zero.{0} (And.intro @Nat.le_refl @eq_self.{1}))))) (And.intro (And.intro (And.intro (And.intro @and_true @true_and) (And.intro @and_self (And.intro @ne_eq.{1} @not_true_eq_false))) (And.intro (And.intro @not_false_eq_true @or_false) (And.intro @false_or (And.intro @or_self @Bool.or_true)))) (And.intro (And.intro (And.intro @Bool.true_or @Bool.or_false) (And.intro @Bool.false_or (And.intro @Bool.and_true @Bool.true_and))) (And.intro (And.intro @Bool.and_false (And.intro @Bool.false_and @Bool.not_true)) (And.intro @Bool.not_false (And.intro @List.isEmpty_nil.{0} @List.all_cons.{0})))))) (And.intro (And.intro (And.intro (And.intro (And.intro @List.all_nil.{0} @List.any_cons.{0}) (And.intro @List.any_nil.{0} (And.intro @List.map_cons.{0,0} @List.map_nil.{0,0}))) (And.intro (And.intro @List.getElem?_cons_zero.{0} @List.getElem?_cons_succ.{0}) (And.intro @List.set_cons_zero.{0} (And.intro @List.set_cons_succ.{0} @List.take_succ_cons.{0})))) (And.intro (And.intro (And.intro @List.take_zero.{0} @List.drop_succ_cons.{0}) (And.intro @List.take_nil.{0} (And.intro @List.drop_nil.{0} @Bool.not_eq_false))) (And.intro (And.intro @Bool.not_eq_true @Bool.true_eq_false) (And.intro @beq_self_eq_true.{0} (And.intro @lim_eq @refs_mkOwn))))) (And.intro (And.intro (And.intro (And.intro @noRefs_mkOwn @noRefs_agg) (And.intro @purge1_mkOwn (And.intro @noOwnL_int @purgeL_int))) (And.intro (And.intro @alL_int @refsL_int) (And.intro @bytesOf_enl (And.intro @cint.eq_1 @cbool.eq_1)))) (And.intro (And.intro (And.intro @cstr.eq_1 @csl.eq_1) (And.intro @decide_true (And.intro @decide_false @Option.bind_some.{0,0}))) (And.intro (And.intro @List.isPrefixOf_nil_left.{0} (And.intro @Bool.false_xor @Bool.true_xor)) (And.intro @List.length_append.{0} (And.intro @List.replicate_zero.{0} @List.flatMap_append.{0,0})))))))
open Go
set_option maxRecDepth 100000
set_option maxHeartbeats 4000000
structure Shape where
 Slots:Int
 Mask:Int
 deriving DecidableEq
instance:Inhabited Shape:=⟨⟨default,default⟩⟩
def cShape(x:Shape):List PV:=[.int .i64 x.Slots,.int .i64 x.Mask]
theorem szShape:Sz cShape 2:=fun _=>rfl
theorem fzShape:Fz cShape:=fun _=>⟨rfl,rfl⟩
theorem nzShape:type_of% (And.intro @cShape.eq_1 (And.intro (enl_len szShape) (And.intro (enl_frz fzShape) (And.intro (enl_free fzShape) (And.intro (enl_take szShape) (And.intro (enl_purge fzShape) (And.intro (enl_al fzShape) (And.intro (enl_refs fzShape) ((enl_noRefs fzShape)))))))))):=And.intro @cShape.eq_1 (And.intro (enl_len szShape) (And.intro (enl_frz fzShape) (And.intro (enl_free fzShape) (And.intro (enl_take szShape) (And.intro (enl_purge fzShape) (And.intro (enl_al fzShape) (And.intro (enl_refs fzShape) ((enl_noRefs fzShape)))))))))
structure Area where
 Lo:Int
 Hi:Int
 Next:Int
 deriving DecidableEq
instance:Inhabited Area:=⟨⟨default,default,default⟩⟩
def cArea(x:Area):List PV:=[.int .i64 x.Lo,.int .i64 x.Hi,.int .i64 x.Next]
theorem szArea:Sz cArea 3:=fun _=>rfl
theorem fzArea:Fz cArea:=fun _=>⟨rfl,rfl⟩
theorem nzArea:type_of% (And.intro @cArea.eq_1 (And.intro (enl_len szArea) (And.intro (enl_frz fzArea) (And.intro (enl_free fzArea) (And.intro (enl_take szArea) (And.intro (enl_purge fzArea) (And.intro (enl_al fzArea) (And.intro (enl_refs fzArea) ((enl_noRefs fzArea)))))))))):=And.intro @cArea.eq_1 (And.intro (enl_len szArea) (And.intro (enl_frz fzArea) (And.intro (enl_free fzArea) (And.intro (enl_take szArea) (And.intro (enl_purge fzArea) (And.intro (enl_al fzArea) (And.intro (enl_refs fzArea) ((enl_noRefs fzArea)))))))))
structure r26_Object where
 At:Int
 Shape:Shape
 Slots:List Int
 deriving DecidableEq
instance:Inhabited r26_Object:=⟨⟨default,default,default⟩⟩
def cr26_Object(x:r26_Object):List PV:=[.int .i64 x.At,.int .i64 x.Shape.Slots,.int .i64 x.Shape.Mask,.sl x.Slots.length (x.Slots.flatMap (cint .i64))]
structure l27_Op where
 Kind:Int
 Id:Int
 Slot:Int
 N:Int
 Mask:Int
 deriving DecidableEq
instance:Inhabited l27_Op:=⟨⟨default,default,default,default,default⟩⟩
def cl27_Op(x:l27_Op):List PV:=[.int .i64 x.Kind,.int .u8 x.Id,.int .u8 x.Slot,.int .u8 x.N,.int .u16 x.Mask]
theorem szl27_Op:Sz cl27_Op 5:=fun _=>rfl
noncomputable def l12_Shape_l5_b(p0:Int)(m1:Int)(i2:Int):Option (Stp (Int×Int) Int):=
 if decide ((IntKind.wrap .i64 (Int.tmod (IntKind.wrap .u64 p0) 17))<i2) then
  if decide ((IntKind.wrap .i64 (i2-1))<0) then
   Option.none
  else
   some (.next ((if decide ((IntKind.wrap .i64 (1*2 ^ (min (IntKind.wrap .i64 (i2-1)).toNat 64)))<=m1) then IntKind.wrap .i64 (m1-(IntKind.wrap .i64 (1*2 ^ (min (IntKind.wrap .i64 (i2-1)).toNat 64)))) else m1),IntKind.wrap .i64 (i2-1)))
 else
  some (.stop m1)
noncomputable def l12_Shape_l5(p0:Int)(s:Int×Int):Option Int:=runL (fun s=>l12_Shape_l5_b p0 s.1 s.2) s
noncomputable def l12_Shape(p0:Int)(p1:Int):Option Shape:=
 (l12_Shape_l5 p0 (IntKind.wrap .i64 p1,16)).bind fun m4=>
 some (⟨IntKind.wrap .i64 (Int.tmod (IntKind.wrap .u64 p0) 17),m4⟩:Shape)
noncomputable def shape_Check(p0:Shape):Option Int:=
 if ((decide (p0.Slots<0))||(((decide (16<p0.Slots))||(((decide (p0.Mask<0))||(decide ((IntKind.wrap .i64 (1*2 ^ (min p0.Slots.toNat 64)))<=p0.Mask))))))) then
  some 16
 else
  some 0
noncomputable def shape_Of(p0:Int):Option (Shape×Int):=
 if ((decide (p0<0))||(decide (2097152<=p0))) then
  some ((⟨0,0⟩:Shape),16)
 else
  (shape_Check ((⟨bAnd .i64 p0 31,Int.fdiv p0 (2 ^ (min (5:Int).toNat 64))⟩:Shape))).bind fun r2=>
  if (r2 != 0) then
   some ((⟨0,0⟩:Shape),r2)
  else
   some ((⟨bAnd .i64 p0 31,Int.fdiv p0 (2 ^ (min (5:Int).toNat 64))⟩:Shape),0)
noncomputable def shape_Head(p0:Shape):Option Int:=
 some (bOr .i64 (IntKind.wrap .i64 (p0.Mask*2 ^ (min (5:Int).toNat 64))) p0.Slots)
noncomputable def shape_bits:Option (List Int):=
 some ([1,2,4,8,16,32,64,128,256,512,1024,2048,4096,8192,16384,32768])
noncomputable def shape_Pointer_j1(p0:Shape)(p1:Int):Option Bool:=
 if decide (0<=p1) then
  if decide (p1<p0.Slots) then
   (shape_bits).bind fun r1=>
   (ixa r1 16 p1).bind fun x_2=>
   some ((bAnd .i64 p0.Mask x_2) != 0)
  else
   some false
 else
  some false
noncomputable def shape_Pointer(p0:Shape)(p1:Int):Option Bool:=
 (shape_Pointer_j1 p0 p1).bind fun v3=>
 some v3
noncomputable def space_In(p0:Area)(p1:Int):Option Bool:=
 some ((decide (p0.Lo<=p1))&&(decide (p1<p0.Next)))
noncomputable def r26_Find_l1_b(p0:List r26_Object)(p1:Int)(i1:Int):Option (Stp Int (Stp Unit Int)):=
 if decide (0<=i1) then
  (ix p0 i1).bind fun x_2=>
  if (x_2.At==p1) then
   some (.stop (.stop (i1)))
  else
   some (.next (IntKind.wrap .i64 (i1-1)))
 else
  some (.stop (.next ()))
noncomputable def r26_Find_l1(p0:List r26_Object)(p1:Int)(s:Int):Option (Stp Unit Int):=runL (fun s=>r26_Find_l1_b p0 p1 s) s
noncomputable def r26_Find(p0:List r26_Object)(p1:Int):Option Int:=
 (r26_Find_l1 p0 p1 (IntKind.wrap .i64 (((p0.length:Int))-1))).bind fun
   | .next _=>
     some (-1)
   | .stop v3=>
     some v3
noncomputable def r26_Starts_j4(p0:List r26_Object)(p1:Area)(out1:List Int)(v2:Int)(r3:Int):Option (List Int):=
 if decide (0<=r3) then
  (app out1 [v2] 8).bind fun l_4=>
  some l_4
 else
  some out1
noncomputable def r26_Starts_l5_b(p0:List r26_Object)(p1:Area)(out1:List Int)(v2:Int):Option (Stp (List Int×Int) (List Int)):=
 if decide (v2<p1.Next) then
  (r26_Find p0 v2).bind fun r3=>
  (r26_Starts_j4 p0 p1 out1 v2 r3).bind fun out5=>
  some (.next (out5,IntKind.wrap .i64 (v2+1)))
 else
  some (.stop out1)
noncomputable def r26_Starts_l5(p0:List r26_Object)(p1:Area)(s:List Int×Int):Option (List Int):=runL (fun s=>r26_Starts_l5_b p0 p1 s.1 s.2) s
noncomputable def r26_Starts(p0:List r26_Object)(p1:Area):Option (List Int):=
 (r26_Starts_l5 p0 p1 ([],p1.Lo)).bind fun out6=>
 some out6
open Go
set_option maxRecDepth 100000
set_option maxHeartbeats 4000000
def q(d:Nat)(o:XOp):XI:=⟨some d,o,.none,false⟩
def x75_1:XC:=.seq (.seq (.reg [⟨some 5,.mv (.t 4),.none,false⟩,⟨some 6,.mv (.t 0),.none,false⟩,⟨some 7,.bin .lss (.t 5) (.t 6),.none,false⟩] false [0,3,4,7]) (.cond (.t 7) (.skip) (.exit 0 [3]) [0,3,4])) (.seq (.block 1 (.reg [⟨some 10,.mv (.t 3),.none,false⟩,⟨some 11,.bin .mul (.t 10) (.k (.int .i64 2)),.none,false⟩,⟨some 3,.asg (.t 11),.none,false⟩] false [0,3,4]) [0,3,4]) (.reg [⟨some 8,.mv (.t 4),.none,false⟩,⟨some 9,.bin .add (.t 8) (.k (.int .i64 1)),.none,false⟩,⟨some 4,.asg (.t 9),.none,false⟩] false [0,3,4]))
def x75:XF:=⟨1,13,[.tmp 2],.seq (.reg [⟨some 2,.asg (.k (.int .i64 0)),.none,false⟩] false [0]) (.seq (.reg [⟨some 3,.asg (.k (.int .i64 1)),.none,false⟩] false [0,3]) (.seq (.seq (.reg [⟨some 4,.asg (.k (.int .i64 0)),.none,false⟩] false [0,3,4]) (.block 0 (.loop x75_1 [0,3,4]) [3])) (.seq (.reg [⟨some 12,.mv (.t 3),.none,false⟩,⟨some 2,.asg (.t 12),.none,false⟩] false [2]) (.ret)))),[],false,false,.none⟩
def x23_1:XC:=.reg [⟨some 5,.mv (.t 1),.none,false⟩,⟨some 6,.bin .lss (.t 5) (.k (.int .i64 0)),.none,false⟩,⟨some 7,.mv (.t 6),.none,false⟩,⟨some 8,.mv (.t 1),some (7,false),false⟩,⟨some 9,.fadr 0 (.t 2),some (7,false),false⟩,⟨some 10,.load false 1 (.t 9),some (7,false),false⟩,⟨some 11,.bin .geq (.t 8) (.t 10),some (7,false),false⟩,⟨some 12,.pick (.t 7) (.k (.bool true)) (.t 11),.none,false⟩] false [1,2,12]
def x23:XF:=⟨2,20,[.tmp 4],.seq (.reg [⟨some 2,.box (.t 0),.none,false⟩,⟨some 4,.asg (.k (.bool false)),.none,false⟩] false [1,2]) (.seq (.seq x23_1 (.cond (.t 12) (.seq (.reg [⟨some 4,.asg (.k (.bool false)),.none,false⟩] false [4]) (.ret)) (.skip) [1,2])) (.seq (.reg [⟨some 13,.fadr 1 (.t 2),.none,false⟩,⟨some 14,.load false 1 (.t 13),.none,false⟩,⟨some 15,.mv (.t 1),.none,false⟩,⟨some 16,.call 75 [.t 15] [],.none,false⟩,⟨some 17,.bin .quo (.t 14) (.t 16),.none,true⟩,⟨some 18,.bin .rem (.t 17) (.k (.int .i64 2)),.none,true⟩,⟨some 19,.bin .eql (.t 18) (.k (.int .i64 1)),.none,true⟩,⟨some 4,.asg (.t 19),.none,true⟩] true [4]) (.ret))),[],false,false,.none⟩
def x35_1:XC:=.cond (.t 23) (.reg [⟨some 24,.mv (.t 6),.none,false⟩,⟨some 25,.mv (.t 7),.none,false⟩,⟨some 26,.bin .sub (.t 25) (.k (.int .i64 1)),.none,false⟩,⟨some 27,.bin .shl (.k (.int .i64 1)) (.t 26),.none,false⟩,⟨some 28,.bin .sub (.t 24) (.t 27),.none,false⟩,⟨some 6,.asg (.t 28),.none,false⟩] false [4,5,6,7]) (.skip) [4,5,6,7]
def x35_2:XC:=.seq (.seq (.reg [⟨some 14,.mv (.t 7),.none,false⟩,⟨some 15,.mv (.t 5),.none,false⟩,⟨some 16,.bin .gtr (.t 14) (.t 15),.none,false⟩] false [4,5,6,7,16]) (.cond (.t 16) (.skip) (.exit 0 [4,5,6]) [4,5,6,7])) (.seq (.block 1 (.seq (.reg [⟨some 19,.mv (.t 6),.none,false⟩,⟨some 20,.mv (.t 7),.none,false⟩,⟨some 21,.bin .sub (.t 20) (.k (.int .i64 1)),.none,false⟩,⟨some 22,.bin .shl (.k (.int .i64 1)) (.t 21),.none,false⟩,⟨some 23,.bin .geq (.t 19) (.t 22),.none,false⟩] false [4,5,6,7,23]) x35_1) [4,5,6,7]) (.reg [⟨some 17,.mv (.t 7),.none,false⟩,⟨some 18,.bin .sub (.t 17) (.k (.int .i64 1)),.none,false⟩,⟨some 7,.asg (.t 18),.none,false⟩] false [4,5,6,7]))
def x35:XF:=⟨2,32,[.cell 4 true 2],.seq (.reg [⟨some 4,.alloc [.int .i64 0,.int .i64 0],.none,false⟩] false [0,1,4]) (.seq (.reg [⟨some 8,.mv (.t 0),.none,false⟩,⟨some 9,.conv .u64 (.t 8),.none,false⟩,⟨some 10,.bin .rem (.t 9) (.k (.int .u64 17)),.none,false⟩,⟨some 11,.conv .i64 (.t 10),.none,false⟩,⟨some 5,.asg (.t 11),.none,false⟩] false [1,4,5]) (.seq (.reg [⟨some 12,.mv (.t 1),.none,false⟩,⟨some 13,.conv .i64 (.t 12),.none,false⟩,⟨some 6,.asg (.t 13),.none,false⟩] false [4,5,6]) (.seq (.seq (.reg [⟨some 7,.asg (.k (.int .i64 16)),.none,false⟩] false [4,5,6,7]) (.block 0 (.loop x35_2 [4,5,6,7]) [4,5,6])) (.seq (.reg [⟨some 29,.mv (.t 5),.none,false⟩,⟨some 30,.mv (.t 6),.none,false⟩,⟨some 31,.build [.int .i64 0,.int .i64 0] [(0,1,.t 29),(1,1,.t 30)],.none,false⟩,⟨.none,.store 2 (.t 4) (.t 31),.none,false⟩] false [4]) (.ret))))),[],false,false,.none⟩
def x97_1:XC:=.reg [⟨some 3,.fadr 0 (.t 1),.none,false⟩,⟨some 4,.load false 1 (.t 3),.none,false⟩,⟨some 5,.bin .lss (.t 4) (.k (.int .i64 0)),.none,false⟩,⟨some 6,.mv (.t 5),.none,false⟩,⟨some 7,.fadr 0 (.t 1),some (6,false),false⟩,⟨some 8,.load false 1 (.t 7),some (6,false),false⟩,⟨some 9,.bin .gtr (.t 8) (.k (.int .i64 16)),some (6,false),false⟩,⟨some 10,.pick (.t 6) (.k (.bool true)) (.t 9),.none,false⟩,⟨some 11,.mv (.t 10),.none,false⟩,⟨some 12,.fadr 1 (.t 1),some (11,false),false⟩,⟨some 13,.load false 1 (.t 12),some (11,false),false⟩,⟨some 14,.bin .lss (.t 13) (.k (.int .i64 0)),some (11,false),false⟩,⟨some 15,.pick (.t 11) (.k (.bool true)) (.t 14),.none,false⟩,⟨some 16,.mv (.t 15),.none,false⟩,⟨some 17,.fadr 1 (.t 1),some (16,false),false⟩,⟨some 18,.load false 1 (.t 17),some (16,false),false⟩,⟨some 19,.fadr 0 (.t 1),some (16,false),false⟩,⟨some 20,.load false 1 (.t 19),some (16,false),false⟩,⟨some 21,.bin .shl (.k (.int .i64 1)) (.t 20),some (16,false),false⟩,⟨some 22,.bin .geq (.t 18) (.t 21),some (16,false),true⟩,⟨some 23,.pick (.t 16) (.k (.bool true)) (.t 22),.none,true⟩] true [23]
def x97:XF:=⟨1,24,[.tmp 2],.seq (.reg [⟨some 1,.box (.t 0),.none,false⟩,⟨some 2,.asg (.k (.int .i64 0)),.none,false⟩] false [1]) (.seq (.seq x97_1 (.cond (.t 23) (.seq (.reg [⟨some 2,.asg (.k (.int .i64 16)),.none,false⟩] false [2]) (.ret)) (.skip) [])) (.seq (.reg [⟨some 2,.asg (.k (.int .i64 0)),.none,false⟩] false [2]) (.ret))),[],false,false,.none⟩
def x74_1:XC:=.reg [⟨some 6,.mv (.t 0),.none,false⟩,⟨some 7,.bin .lss (.t 6) (.k (.int .i64 0)),.none,false⟩,⟨some 8,.mv (.t 7),.none,false⟩,⟨some 9,.mv (.t 0),some (8,false),false⟩,⟨some 10,.bin .geq (.t 9) (.k (.int .i64 2097152)),some (8,false),false⟩,⟨some 11,.pick (.t 8) (.k (.bool true)) (.t 10),.none,false⟩] false [0,2,11]
def x74:XF:=⟨1,25,[.cell 2 true 2,.tmp 3],.seq (.reg [⟨some 2,.alloc [.int .i64 0,.int .i64 0],.none,false⟩,⟨some 3,.asg (.k (.int .i64 0)),.none,false⟩] false [0,2]) (.seq (.seq x74_1 (.cond (.t 11) (.seq (.reg [⟨some 12,.build [.int .i64 0,.int .i64 0] [],.none,false⟩,⟨.none,.store 2 (.t 2) (.t 12),.none,false⟩,⟨some 3,.asg (.k (.int .i64 16)),.none,false⟩] false [2,3]) (.ret)) (.skip) [0,2])) (.seq (.reg [⟨some 13,.mv (.t 0),.none,false⟩,⟨some 14,.bin .and (.t 13) (.k (.int .i64 31)),.none,false⟩,⟨some 15,.mv (.t 0),.none,false⟩,⟨some 16,.bin .shr (.t 15) (.k (.int .u64 5)),.none,false⟩,⟨some 17,.build [.int .i64 0,.int .i64 0] [(0,1,.t 14),(1,1,.t 16)],.none,false⟩,⟨some 4,.alloc [.int .i64 0,.int .i64 0],.none,false⟩,⟨.none,.store 2 (.t 4) (.t 17),.none,false⟩] false [2,4]) (.seq (.seq (.reg [⟨some 18,.load true 2 (.t 4),.none,false⟩,⟨some 19,.call 97 [.t 18] [],.none,false⟩,⟨some 5,.asg (.t 19),.none,false⟩] false [2,4,5]) (.seq (.reg [⟨some 20,.mv (.t 5),.none,false⟩,⟨some 21,.bin .neq (.t 20) (.k (.int .i64 0)),.none,false⟩] false [2,4,5,21]) (.cond (.t 21) (.seq (.reg [⟨some 22,.build [.int .i64 0,.int .i64 0] [],.none,false⟩,⟨some 23,.mv (.t 5),.none,false⟩,⟨.none,.store 2 (.t 2) (.t 22),.none,false⟩,⟨some 3,.asg (.t 23),.none,false⟩] false [2,3]) (.ret)) (.skip) [2,4]))) (.seq (.reg [⟨some 24,.load true 2 (.t 4),.none,false⟩,⟨.none,.store 2 (.t 2) (.t 24),.none,false⟩,⟨some 3,.asg (.k (.int .i64 0)),.none,false⟩] false [2,3]) (.ret))))),[],false,false,.none⟩
def x113:XF:=⟨1,9,[.tmp 2],.seq (.reg [⟨some 1,.box (.t 0),.none,false⟩,⟨some 2,.asg (.k (.int .i64 0)),.none,false⟩] false [1]) (.seq (.reg [⟨some 3,.fadr 1 (.t 1),.none,false⟩,⟨some 4,.load false 1 (.t 3),.none,false⟩,⟨some 5,.bin .shl (.t 4) (.k (.int .u64 5)),.none,false⟩,⟨some 6,.fadr 0 (.t 1),.none,false⟩,⟨some 7,.load false 1 (.t 6),.none,false⟩,⟨some 8,.bin .or (.t 5) (.t 7),.none,false⟩,⟨some 2,.asg (.t 8),.none,false⟩] false [2]) (.ret)),[],false,false,.none⟩
def x120:XF:=⟨0,2,[.cell 0 true 16],.seq (.reg [⟨some 0,.alloc [.int .i64 0,.int .i64 0,.int .i64 0,.int .i64 0,.int .i64 0,.int .i64 0,.int .i64 0,.int .i64 0,.int .i64 0,.int .i64 0,.int .i64 0,.int .i64 0,.int .i64 0,.int .i64 0,.int .i64 0,.int .i64 0],.none,false⟩] false [0]) (.seq (.reg [⟨some 1,.build [.int .i64 0,.int .i64 0,.int .i64 0,.int .i64 0,.int .i64 0,.int .i64 0,.int .i64 0,.int .i64 0,.int .i64 0,.int .i64 0,.int .i64 0,.int .i64 0,.int .i64 0,.int .i64 0,.int .i64 0,.int .i64 0] [(0,1,.k (.int .i64 1)),(1,1,.k (.int .i64 2)),(2,1,.k (.int .i64 4)),(3,1,.k (.int .i64 8)),(4,1,.k (.int .i64 16)),(5,1,.k (.int .i64 32)),(6,1,.k (.int .i64 64)),(7,1,.k (.int .i64 128)),(8,1,.k (.int .i64 256)),(9,1,.k (.int .i64 512)),(10,1,.k (.int .i64 1024)),(11,1,.k (.int .i64 2048)),(12,1,.k (.int .i64 4096)),(13,1,.k (.int .i64 8192)),(14,1,.k (.int .i64 16384)),(15,1,.k (.int .i64 32768))],.none,false⟩,⟨.none,.store 16 (.t 0) (.t 1),.none,false⟩] false [0]) (.ret)),[],false,false,.none⟩
def x98_1:XC:=.reg [⟨some 5,.mv (.t 1),.none,false⟩,⟨some 6,.bin .geq (.t 5) (.k (.int .i64 0)),.none,false⟩,⟨some 7,.mv (.t 6),.none,false⟩,⟨some 8,.mv (.t 1),some (7,true),false⟩,⟨some 9,.fadr 0 (.t 2),some (7,true),false⟩,⟨some 10,.load false 1 (.t 9),some (7,true),false⟩,⟨some 11,.bin .lss (.t 8) (.t 10),some (7,true),false⟩,⟨some 12,.pick (.t 7) (.t 11) (.k (.bool false)),.none,false⟩,⟨some 13,.mv (.t 12),.none,false⟩,⟨some 14,.fadr 1 (.t 2),some (13,true),false⟩,⟨some 15,.load false 1 (.t 14),some (13,true),false⟩,⟨some 16,.call 120 [] [],some (13,true),false⟩,⟨some 17,.mv (.t 1),some (13,true),false⟩,⟨some 18,.idx false 1 16 (.t 16) (.t 17),some (13,true),false⟩,⟨some 19,.bin .and (.t 15) (.t 18),some (13,true),true⟩,⟨some 20,.bin .neq (.t 19) (.k (.int .i64 0)),some (13,true),true⟩,⟨some 21,.pick (.t 13) (.t 20) (.k (.bool false)),.none,true⟩,⟨some 4,.asg (.t 21),.none,true⟩] true [4]
def x98:XF:=⟨2,22,[.tmp 4],.seq (.reg [⟨some 2,.box (.t 0),.none,false⟩,⟨some 4,.asg (.k (.bool false)),.none,false⟩] false [1,2]) (.seq x98_1 (.ret)),[],false,false,.none⟩
def x67_1:XC:=.reg [⟨some 5,.mv (.t 1),.none,false⟩,⟨some 6,.fadr 0 (.t 2),.none,false⟩,⟨some 7,.load false 1 (.t 6),.none,false⟩,⟨some 8,.bin .geq (.t 5) (.t 7),.none,false⟩,⟨some 9,.mv (.t 8),.none,false⟩,⟨some 10,.mv (.t 1),some (9,true),false⟩,⟨some 11,.fadr 2 (.t 2),some (9,true),false⟩,⟨some 12,.load false 1 (.t 11),some (9,true),false⟩,⟨some 13,.bin .lss (.t 10) (.t 12),some (9,true),false⟩,⟨some 14,.pick (.t 9) (.t 13) (.k (.bool false)),.none,false⟩,⟨some 4,.asg (.t 14),.none,false⟩] false [4]
def x67:XF:=⟨2,15,[.tmp 4],.seq (.reg [⟨some 2,.box (.t 0),.none,false⟩,⟨some 4,.asg (.k (.bool false)),.none,false⟩] false [1,2]) (.seq x67_1 (.ret)),[],false,false,.none⟩
def x21_1:XC:=.seq (.seq (.reg [⟨some 9,.mv (.t 5),.none,false⟩,⟨some 10,.bin .geq (.t 9) (.k (.int .i64 0)),.none,false⟩] false [0,1,5,10]) (.cond (.t 10) (.skip) (.exit 0 []) [0,1,5])) (.seq (.block 1 (.seq (.reg [⟨some 13,.mv (.t 0),.none,false⟩,⟨some 14,.mv (.t 5),.none,false⟩,⟨some 15,.iadr 4 .none (.t 13) (.t 14),.none,false⟩,⟨some 16,.fadr 0 (.t 15),.none,false⟩,⟨some 17,.load false 1 (.t 16),.none,false⟩,⟨some 18,.mv (.t 1),.none,false⟩,⟨some 19,.bin .eql (.t 17) (.t 18),.none,false⟩] false [0,1,5,19]) (.cond (.t 19) (.seq (.reg [⟨some 20,.mv (.t 5),.none,false⟩,⟨some 4,.asg (.t 20),.none,false⟩] false [4]) (.ret)) (.skip) [0,1,5])) [0,1,5]) (.reg [⟨some 11,.mv (.t 5),.none,false⟩,⟨some 12,.bin .sub (.t 11) (.k (.int .i64 1)),.none,false⟩,⟨some 5,.asg (.t 12),.none,false⟩] false [0,1,5]))
def x21:XF:=⟨2,21,[.tmp 4],.seq (.reg [⟨some 4,.asg (.k (.int .i64 0)),.none,false⟩] false [0,1]) (.seq (.seq (.reg [⟨some 6,.mv (.t 0),.none,false⟩,⟨some 7,.len false (.t 6),.none,false⟩,⟨some 8,.bin .sub (.t 7) (.k (.int .i64 1)),.none,false⟩,⟨some 5,.asg (.t 8),.none,false⟩] false [0,1,5]) (.block 0 (.loop x21_1 [0,1,5]) [])) (.seq (.reg [⟨some 4,.asg (.k (.int .i64 (-1))),.none,false⟩] false [4]) (.ret))),[],false,false,.none⟩
def x26_1:XC:=.cond (.t 18) (.reg [⟨some 19,.mv (.t 5),.none,false⟩,⟨some 20,.mv (.t 6),.none,false⟩,⟨some 21,.bsl 1 1 [.int .i64 0] [(0,1,.t 20)],.none,false⟩,⟨some 22,.app 1 8 (.t 19) (.t 21),.none,false⟩,⟨some 5,.asg (.t 22),.none,false⟩] false [0,3,5,6]) (.skip) [0,3,5,6]
def x26_2:XC:=.seq (.seq (.reg [⟨some 9,.mv (.t 6),.none,false⟩,⟨some 10,.fadr 2 (.t 3),.none,false⟩,⟨some 11,.load false 1 (.t 10),.none,false⟩,⟨some 12,.bin .lss (.t 9) (.t 11),.none,false⟩] false [0,3,5,6,12]) (.cond (.t 12) (.skip) (.exit 0 [5]) [0,3,5,6])) (.seq (.block 1 (.seq (.reg [⟨some 15,.mv (.t 0),.none,false⟩,⟨some 16,.mv (.t 6),.none,false⟩,⟨some 17,.call 21 [.t 15,.t 16] [],.none,false⟩,⟨some 18,.bin .geq (.t 17) (.k (.int .i64 0)),.none,false⟩] false [0,3,5,6,18]) x26_1) [0,3,5,6]) (.reg [⟨some 13,.mv (.t 6),.none,false⟩,⟨some 14,.bin .add (.t 13) (.k (.int .i64 1)),.none,false⟩,⟨some 6,.asg (.t 14),.none,false⟩] false [0,3,5,6]))
def x26:XF:=⟨2,24,[.tmp 4],.seq (.reg [⟨some 3,.box (.t 1),.none,false⟩,⟨some 4,.asg (.k (.nils)),.none,false⟩] false [0,3]) (.seq (.reg [⟨some 5,.asg (.k (.nils)),.none,false⟩] false [0,3,5]) (.seq (.seq (.reg [⟨some 7,.fadr 0 (.t 3),.none,false⟩,⟨some 8,.load false 1 (.t 7),.none,false⟩,⟨some 6,.asg (.t 8),.none,false⟩] false [0,3,5,6]) (.block 0 (.loop x26_2 [0,3,5,6]) [5])) (.seq (.reg [⟨some 23,.mv (.t 5),.none,false⟩,⟨some 4,.asg (.t 23),.none,false⟩] false [4]) (.ret)))),[],false,false,.none⟩
def tt:TT:=(.node 74 x74 (.node 26 x26 (.node 23 x23 (.node 21 x21 .leaf .leaf) .leaf) (.node 67 x67 (.node 35 x35 .leaf .leaf) .leaf)) (.node 98 x98 (.node 97 x97 (.node 75 x75 .leaf .leaf) .leaf) (.node 120 x120 (.node 113 x113 .leaf .leaf) .leaf)))
def T:Nat->Option XF:=tt.get
def hintsOf:Nat->List Hint
 | 75=>[⟨[0],1,false⟩,⟨[0,3],1,false⟩,⟨[0,3,4],1,false⟩,⟨[0,3,4,7],3,false⟩,⟨[3],0,false⟩,⟨[0,3,4],0,false⟩,⟨[0,3,4],3,false⟩,⟨[0,3,4],0,false⟩,⟨[0,3,4],3,false⟩,⟨[0,3,4],0,false⟩,⟨[3],0,false⟩,⟨[2],2,false⟩]
 | 23=>[⟨[1,2],2,false⟩,⟨[1,2,12],8,false⟩,⟨[4],1,false⟩,⟨[1,2],0,false⟩,⟨[4],4,false⟩]
 | 35=>[⟨[0,1,4],1,false⟩,⟨[1,4,5],5,false⟩,⟨[4,5,6],3,false⟩,⟨[4,5,6,7],1,false⟩,⟨[4,5,6,7,16],3,false⟩,⟨[4,5,6],0,false⟩,⟨[4,5,6,7],0,false⟩,⟨[4,5,6,7,23],5,false⟩,⟨[4,5,6,7],6,false⟩,⟨[4,5,6,7],0,false⟩,⟨[4,5,6,7],0,false⟩,⟨[4,5,6,7],3,false⟩,⟨[4,5,6,7],0,false⟩,⟨[4,5,6],0,false⟩,⟨[4],4,false⟩]
 | 97=>[⟨[1],2,false⟩,⟨[23],19,false⟩,⟨[2],1,false⟩,⟨[],0,false⟩,⟨[2],1,false⟩]
 | 74=>[⟨[0,2],2,false⟩,⟨[0,2,11],6,false⟩,⟨[2,3],3,false⟩,⟨[0,2],0,false⟩,⟨[2,4],7,false⟩,⟨[2,4,5],3,false⟩,⟨[2,4,5,21],2,false⟩,⟨[2,3],4,false⟩,⟨[2,4],0,false⟩,⟨[2,3],3,false⟩]
 | 113=>[⟨[1],2,false⟩,⟨[2],7,false⟩]
 | 120=>[⟨[0],1,false⟩,⟨[0],2,false⟩]
 | 98=>[⟨[1,2],2,false⟩,⟨[4],14,false⟩]
 | 67=>[⟨[1,2],2,false⟩,⟨[4],11,false⟩]
 | 21=>[⟨[0,1],1,false⟩,⟨[0,1,5],4,false⟩,⟨[0,1,5,10],2,false⟩,⟨[],0,false⟩,⟨[0,1,5],0,false⟩,⟨[0,1,5,19],7,false⟩,⟨[4],2,false⟩,⟨[0,1,5],0,false⟩,⟨[0,1,5],0,false⟩,⟨[0,1,5],3,false⟩,⟨[0,1,5],0,false⟩,⟨[],0,false⟩,⟨[4],1,false⟩]
 | 26=>[⟨[0,3],2,false⟩,⟨[0,3,5],1,false⟩,⟨[0,3,5,6],3,false⟩,⟨[0,3,5,6,12],4,false⟩,⟨[5],0,false⟩,⟨[0,3,5,6],0,false⟩,⟨[0,3,5,6,18],4,false⟩,⟨[0,3,5,6],5,false⟩,⟨[0,3,5,6],0,false⟩,⟨[0,3,5,6],0,false⟩,⟨[0,3,5,6],3,false⟩,⟨[0,3,5,6],0,false⟩,⟨[5],0,false⟩,⟨[4],2,false⟩]
 | _=>[]
open Go
set_option maxRecDepth 100000
set_option maxHeartbeats 4000000
def Ok1 (P : Program) (f : Nat) (x : XF) : Prop := x.ext = Option.none ∧ ∃ fn code hints, P.funcs[f]? = some fn ∧ (fn.name == "runtime.NumGoroutine") = false ∧ fn.body = some code ∧ x.np ≤ fn.ntmps ∧ trC P (fun d => decide (d < fn.ntmps) && !x.prot.contains d) code hints = some (x.body, []) ∧ trRs P fn.results.toList = some x.res
theorem tok21:Ok1 Go.Proofs.Try.prog 21 x21:=⟨rfl,Go.Proofs.Try.f21,_,hintsOf 21,Go.Proofs.Try.func21,by kernel_rfl,rfl,by decide,by kernel_rfl,by kernel_rfl⟩
theorem tok23:Ok1 Go.Proofs.Try.prog 23 x23:=⟨rfl,Go.Proofs.Try.f23,_,hintsOf 23,Go.Proofs.Try.func23,by kernel_rfl,rfl,by decide,by kernel_rfl,by kernel_rfl⟩
theorem tok26:Ok1 Go.Proofs.Try.prog 26 x26:=⟨rfl,Go.Proofs.Try.f26,_,hintsOf 26,Go.Proofs.Try.func26,by kernel_rfl,rfl,by decide,by kernel_rfl,by kernel_rfl⟩
theorem tok35:Ok1 Go.Proofs.Try.prog 35 x35:=⟨rfl,Go.Proofs.Try.f35,_,hintsOf 35,Go.Proofs.Try.func35,by kernel_rfl,rfl,by decide,by kernel_rfl,by kernel_rfl⟩
theorem tok67:Ok1 Go.Proofs.Try.prog 67 x67:=⟨rfl,Go.Proofs.Try.f67,_,hintsOf 67,Go.Proofs.Try.func67,by kernel_rfl,rfl,by decide,by kernel_rfl,by kernel_rfl⟩
theorem tok74:Ok1 Go.Proofs.Try.prog 74 x74:=⟨rfl,Go.Proofs.Try.f74,_,hintsOf 74,Go.Proofs.Try.func74,by kernel_rfl,rfl,by decide,by kernel_rfl,by kernel_rfl⟩
theorem tok75:Ok1 Go.Proofs.Try.prog 75 x75:=⟨rfl,Go.Proofs.Try.f75,_,hintsOf 75,Go.Proofs.Try.func75,by kernel_rfl,rfl,by decide,by kernel_rfl,by kernel_rfl⟩
theorem tok97:Ok1 Go.Proofs.Try.prog 97 x97:=⟨rfl,Go.Proofs.Try.f97,_,hintsOf 97,Go.Proofs.Try.func97,by kernel_rfl,rfl,by decide,by kernel_rfl,by kernel_rfl⟩
theorem tok98:Ok1 Go.Proofs.Try.prog 98 x98:=⟨rfl,Go.Proofs.Try.f98,_,hintsOf 98,Go.Proofs.Try.func98,by kernel_rfl,rfl,by decide,by kernel_rfl,by kernel_rfl⟩
theorem tok113:Ok1 Go.Proofs.Try.prog 113 x113:=⟨rfl,Go.Proofs.Try.f113,_,hintsOf 113,Go.Proofs.Try.func113,by kernel_rfl,rfl,by decide,by kernel_rfl,by kernel_rfl⟩
theorem tok120:Ok1 Go.Proofs.Try.prog 120 x120:=⟨rfl,Go.Proofs.Try.f120,_,hintsOf 120,Go.Proofs.Try.func120,by kernel_rfl,rfl,by decide,by kernel_rfl,by kernel_rfl⟩
theorem tok:TOk Go.Proofs.Try.prog T:=fun f x hx=>TT.get_all (t:=tt) (Q:=fun f x=>(∃k,x.ext=some k/\CallOk1 Go.Proofs.Try.prog f (extSem k))\/Ok1 Go.Proofs.Try.prog f x) ⟨.inr tok74,⟨.inr tok26,⟨.inr tok23,⟨.inr tok21,trivial,trivial⟩,trivial⟩,⟨.inr tok67,⟨.inr tok35,trivial,trivial⟩,trivial⟩⟩,⟨.inr tok98,⟨.inr tok97,⟨.inr tok75,trivial,trivial⟩,trivial⟩,⟨.inr tok120,⟨.inr tok113,trivial,trivial⟩,trivial⟩⟩⟩ f x hx
theorem mixed:Go.Proofs.Try.prog.follows .mixedOrders=true:=by kernel_rfl
open Go
set_option maxRecDepth 100000
set_option maxHeartbeats 4000000
open Go.ChangeShapes Go.WideShapes Go.ChangeAt Go.RowKit
theorem own:ownKnob Go.Proofs.Try.prog.godebug=none:=by kernel_rfl
theorem laidOut:laidOutB Go.Proofs.Try.prog=true:=by kernel_rfl
def Rl27_Op(x:l27_Op):Prop:=Rng .i64 x.Kind/\Rng .u8 x.Id/\Rng .u8 x.Slot/\Rng .u8 x.N/\Rng .u16 x.Mask
theorem opnl27_Op(n:Nat):Opn Go.Proofs.Try.prog (n+2) 114 cl27_Op Rl27_Op:=by
 intro H d pvs h hw
 obtain⟨ds,g0⟩:=pv_struct Go.Proofs.Try.underlying114 h hw
 clear h hw
 obtain⟨d1,ds1,a1,b1,rfl,h1,g1,rfl⟩:=zipL_cons g0
 obtain⟨d2,ds2,a2,b2,rfl,h2,g2,rfl⟩:=zipL_cons g1
 obtain⟨d3,ds3,a3,b3,rfl,h3,g3,rfl⟩:=zipL_cons g2
 obtain⟨d4,ds4,a4,b4,rfl,h4,g4,rfl⟩:=zipL_cons g3
 obtain⟨d5,ds5,a5,b5,rfl,h5,g5,rfl⟩:=zipL_cons g4
 obtain rfl:=zipL_nil g5
 obtain⟨x1,rfl,r1⟩:=(opn_int (n:=n+0) Go.Proofs.Try.underlying3:Opn Go.Proofs.Try.prog (n+1) 3 (cint .i64) (Rng .i64)) H d1 a1 h1.1 h1.2
 obtain⟨x2,rfl,r2⟩:=(opn_int (n:=n+0) Go.Proofs.Try.underlying5:Opn Go.Proofs.Try.prog (n+1) 5 (cint .u8) (Rng .u8)) H d2 a2 h2.1 h2.2
 obtain⟨x3,rfl,r3⟩:=(opn_int (n:=n+0) Go.Proofs.Try.underlying5:Opn Go.Proofs.Try.prog (n+1) 5 (cint .u8) (Rng .u8)) H d3 a3 h3.1 h3.2
 obtain⟨x4,rfl,r4⟩:=(opn_int (n:=n+0) Go.Proofs.Try.underlying5:Opn Go.Proofs.Try.prog (n+1) 5 (cint .u8) (Rng .u8)) H d4 a4 h4.1 h4.2
 obtain⟨x5,rfl,r5⟩:=(opn_int (n:=n+0) Go.Proofs.Try.underlying69:Opn Go.Proofs.Try.prog (n+1) 69 (cint .u16) (Rng .u16)) H d5 a5 h5.1 h5.2
 exact⟨⟨x1,x2,x3,x4,x5⟩,rfl,r1,r2,r3,r4,r5⟩
theorem readGenRoom(H:Type)(ds:List (DataW H))(ws:List PV)(h:argsPV Go.Proofs.Try.prog 12 [5,90] ds=some ws/\∀x∈DataW.weightsEach Go.Proofs.Try.prog [5,90] ds,x<=reachBytes):∃(x1:Int) (x2:List l27_Op),(Rng .u8 x1)/\(x2.length<140737488355328/\∀y∈x2,Rl27_Op y)/\ws=[.int .u8 x1,.sl x2.length (x2.flatMap cl27_Op)]:=by
 obtain⟨d1,ds1,w1,ws1,rfl,rfl,h1,h⟩:=args_cons h
 obtain⟨d2,ds2,w2,ws2,rfl,rfl,h2,h⟩:=args_cons h
 obtain⟨rfl,rfl⟩:=args_nil h
 obtain⟨x1,rfl,r1⟩:=arg_one (by kernel_rfl) (opn_int (n:=11) Go.Proofs.Try.underlying5) h1
 obtain⟨x2,rfl,r2⟩:=arg_one (by kernel_rfl) (opn_sl (n:=11) Go.Proofs.Try.underlying90 (by decide +kernel) (opnl27_Op 9)) h2
 exact⟨x1,x2,r1,r2,rfl⟩
open Go
noncomputable def pureC(T:Nat->Option XF)(l:List Nat):Calls':=fun f ws=>if l.contains f=true then evI T f ws else Option.none
theorem pureC_ok{P:Program}(hm:P.follows .mixedOrders=true){T:Nat->Option XF}(hT:TOk P T)(l:List Nat):CallOk P (pureC T l):=by
 intro f ws r outs h
 unfold pureC at h
 split at h
 ·obtain⟨n,hn⟩:=evI_some.1 h
  exact evF_sound hm hT n f ws r outs hn
 ·cases h
section
variable {C:Calls'} {K:HCalls} {T:Nat->Option HF}
theorem Run.all{c:HC}{s s':HS}{ex:Ex}(h:Run C K T c s ex s'):∃n,∀a b,n<=a->n<=b->evHC C (evHF C K T a) b c s=some (ex,s'):=by
 obtain⟨n,hn⟩:=h
 exact⟨n,fun a b ha hb=>evHC_mono (evHF_mono ha) hb hn⟩
theorem Ans.all{f:Nat}{ws:List HV}{st st':HSt}{r:HV}(h:Ans C K T f ws st r st'):∃n,∀a,n<=a->evHF C K T a f ws st=some (r,st'):=by
 obtain⟨n,hn⟩:=h
 exact⟨n,fun a ha=>evHF_mono ha _ _ _ _ hn⟩
theorem Run.of{c:HC}{s s':HS}{ex:Ex}(n:Nat)(h:evHC C (evHF C K T n) n c s=some (ex,s')):Run C K T c s ex s':=⟨n,h⟩
end
open Go
def allO{α β:Type}(f:α->Option β):List α->Option (List β)
 | []=>some []
 | c::r=>match f c,allO f r with
   | some x,some xs=>some (x::xs)
   | _,_=>Option.none
def rdV(st:HSt):Nat->HV->Option PV
 | _,.p v=>if v.free then some v else Option.none
 | k+1,.row a off len sz=>match st[a]? with
   | some (.row sz' n cs)=>if sz'=sz/\off+len*sz<=cs.length then (allO (rdV st k) ((cs.drop off).take (len*sz))).map (.sl len) else Option.none
   | _=>Option.none
 | _,_=>Option.none
def rdH(st:HSt):HV->Option PV
 | .p v=>if v.loose then some v else Option.none
 | .agg cs=>(allO (rdV st 3) cs).map .agg
 | .row a off len sz=>rdV st 4 (.row a off len sz)
 | _=>Option.none
def rdL(st:HSt):List HV->Option (List PV)
 | []=>some []
 | v::r=>match rdH st v,rdL st r with
   | some x,some xs=>some (x::xs)
   | _,_=>Option.none
def lentC(C:Calls'):HCalls:=fun f ws st=>match rdL st ws with
 | some vs=>match C f vs with
   | some (v,_)=>if v.flat then some (.p v,st) else Option.none
   | _=>Option.none
 | _=>Option.none
theorem allO_get{α β:Type}{f:α->Option β}:∀{cs:List α} {vs:List β},allO f cs=some vs->vs.length=cs.length/\∀i (hi:i<cs.length) (hi':i<vs.length),f cs[i]=some vs[i]
 | [],vs,h=>by simp only[allO,Option.some.injEq] at h;subst h;exact⟨rfl,fun i hi=>by simp at hi⟩
 | c::cs,vs,h=>by
   simp only[allO] at h
   split at h
   ·rename_i x xs hx hxs
    obtain rfl:=Option.some.inj h
    obtain⟨h1,h2⟩:=allO_get hxs
    refine⟨by simp[h1],fun i hi hi'=>?_⟩
    cases i with
    | zero=>exact hx
    | succ i=>exact h2 i (by simpa using hi) (by simpa using hi')
   ·cases h
theorem rdL_get{st:HSt}:∀{ws:List HV} {vs:List PV},rdL st ws=some vs->vs.length=ws.length/\∀i (hi:i<ws.length) (hi':i<vs.length),rdH st ws[i]=some vs[i]
 | [],vs,h=>by simp only[rdL,Option.some.injEq] at h;subst h;exact⟨rfl,fun i hi=>by simp at hi⟩
 | w::ws,vs,h=>by
   simp only[rdL] at h
   split at h
   ·rename_i x xs hx hxs
    obtain rfl:=Option.some.inj h
    obtain⟨h1,h2⟩:=rdL_get hxs
    refine⟨by simp[h1],fun i hi hi'=>?_⟩
    cases i with
    | zero=>exact hx
    | succ i=>exact h2 i (by simpa using hi) (by simpa using hi')
   ·cases h
section
variable {P:Program}
theorem shAll_frame{w:World}{L:LM}{v:PV}{u:Value}(h3:v.loose=true)(h4:RepV w L Option.none v u):RepV w (fun b j=>shAll (L b j)) Option.none v u:=
 h4.frame (fun b j hr=>by rw[hr.shared];rfl) (fun q hq=>by rw[loose_refs h3] at hq;cases hq) fun _ _ _=>rfl
theorem rdV_rep{w:World}{L:LM}{A:AM}{st:HSt}(O:HOk w L A st):∀{k:Nat} {x:HV} {v:PV} {u:Value},rdV st k x=some v->RepH w L A x u ->
 RepV w (fun b j=>shAll (L b j)) Option.none v u/\v.free=true:=by
 have pc:∀{pv v:PV} {u:Value},(if pv.free=true then some pv else Option.none)=some v->RepH w L A (.p pv) u->RepV w (fun b j=>shAll (L b j)) Option.none v u/\v.free=true:=fun {pv v u} h H=>by
  split at h
  ·rename_i hf
   obtain rfl:=Option.some.inj h
   obtain⟨h3,h4⟩:=H.pv
   exact⟨shAll_frame h3 h4,hf⟩
  ·cases h
 intro k
 induction k with
 | zero=>
   intro x v u h H
   cases x with
   | p pv=>exact pc (by simpa only[rdV] using h) H
   | _=>simp[rdV] at h
 | succ k ih=>
   intro x v u h H
   cases x with
   | p pv=>exact pc (by simpa only[rdV] using h) H
   | row a off len sz=>
     simp only[rdV] at h
     split at h
     ·rename_i sz' n cs hst
      split at h
      ·rename_i hc
       obtain⟨rfl,hle⟩:=hc
       simp only[Option.map_eq_some_iff] at h
       obtain⟨vs,hvs,rfl⟩:=h
       obtain⟨h1,h2⟩:=allO_get hvs
       obtain⟨⟨b',o,m⟩,hA⟩:=O.live a _ hst (by simp)
       obtain⟨hb,ho,hn,hm,hlab,hcm,hcells⟩:=O.blk a b' o m _ hA hst
       subst ho
       have hl1:((cs.drop off).take (len*sz')).length=len*sz':=by simp;omega
       cases H with
       | row _ _ _ _ b j cap ha hl hh=>
         obtain⟨rfl,rfl,hcap⟩:=hh b' 0 m hA
         have hcell:∀i (hi:i<vs.length),RepV w (fun b j=>shAll (L b j)) Option.none vs[i] (cv w b (0+off+i))/\vs[i].free=true:=fun i hi=>by
          have hi1:i<((cs.drop off).take (len*sz')).length:=by omega
          have e1:=h2 i hi1 hi
          have hi2:off+i<cs.length:=by omega
          have h3:=hcells (off+i) hi2
          have e3:((cs.drop off).take (len*sz'))[i]=cs[off+i]:=by simp
          rw[e3] at e1
          rw[←Nat.add_assoc] at h3
          exact ih e1 h3
         refine⟨.sl _ len vs b (0+off) cap hl (fun i hi=>?_) (fun i hi=>free_cok (hcell i hi).2) (fun i hi=>(hcell i hi).1),rfl⟩
         have:=hlab (off+i) (by omega)
         rw[show 0+off+i=0+(off+i) by omega,this];rfl
      ·cases h
     ·cases h
   | _=>simp[rdV] at h
theorem rdH_rep{w:World}{L:LM}{A:AM}{st:HSt}(O:HOk w L A st)(shO:∀b j,L b j = .sh->shAll (L b j) = .sh){x:HV}{v:PV}{u:Value}(h:rdH st x=some v)(H:RepH w L A x u):
 RepH w (fun b j=>shAll (L b j)) [] (.p v) u:=by
 cases x with
 | p pv=>
   simp only[rdH] at h
   split at h
   ·rename_i hl
    obtain rfl:=Option.some.inj h
    obtain⟨h3,h4⟩:=H.pv
    exact .p _ _ h3 (shAll_frame h3 h4)
   ·cases h
 | row a off len sz=>
   simp only[rdH] at h
   obtain⟨h1,h2⟩:=rdV_rep O h H
   exact .p _ _ (free_loose h2) h1
 | agg cs=>
   simp only[rdH,Option.map_eq_some_iff] at h
   obtain⟨vs,hvs,rfl⟩:=h
   obtain⟨h1,h2⟩:=allO_get hvs
   cases H with
   | agg _ us hz hc=>
     have hcell:∀i (hi:i<vs.length),RepV w (fun b j=>shAll (L b j)) Option.none vs[i] (us.getD i undef)/\vs[i].free=true:=fun i hi=>
      rdV_rep O (h2 i (by omega) hi) (hc i (by omega))
     refine .p _ _ ?_ (.agg _ vs us (by omega) fun i hi=>(hcell i hi).1)
     have e1:noOwnL vs=true:=noOwnL_of fun c hm=>by obtain⟨i,hi,rfl⟩:=List.getElem_of_mem hm;exact free_noOwn (hcell i hi).2
     have e2:refsL vs=[]:=refsL_nil fun i hi=>free_refs (hcell i hi).2
     simp[PV.loose,noOwn,refs,e1,e2]
 | _=>simp[rdH] at h
theorem flat1_loose{v:PV}(h:v.flat1=true):noOwn v=true/\refs v=[]:=by cases v<;>simp_all [PV.flat1,noOwn,refs]
theorem flat_loose{v:PV}(h:v.flat=true):v.loose=true:=by
 have key:∀cs:List PV,cs.all PV.flat1=true->noOwnL cs=true/\refsL cs=[]:=fun cs hc=>by
  refine⟨noOwnL_of fun c hm=>(flat1_loose (List.all_eq_true.1 hc c hm)).1,refsL_nil fun i hi=>(flat1_loose (List.all_eq_true.1 hc _ (List.getElem_mem hi))).2⟩
 cases v with
 | agg cs=>have:=key cs h;simp[PV.loose,noOwn,refs,this.1,this.2]
 | tup cs=>have:=key cs h;simp[PV.loose,noOwn,refs,this.1,this.2]
 | _=>simp_all [PV.flat,PV.flat1,PV.loose,noOwn,refs]
theorem lentC_ok{C:Calls'}(hC:CallOk P C):HCallOk P (lentC C):=by
 intro f ws st r st' h
 unfold lentC at h
 split at h
 case h_2=>cases h
 rename_i vs hrd
 split at h
 case h_2=>cases h
 rename_i v st1 hev
 split at h
 case isFalse=>cases h
 rename_i hflat
 simp only[Option.some.injEq,Prod.mk.injEq] at h
 obtain⟨rfl,rfl⟩:=h
 obtain⟨hfn,hcalls⟩:=hC f vs _ _ hev
 refine⟨hfn,fun args w L A hsz O bd Hargs=>?_⟩
 have W0:=WF.shAll O.wf
 have shO:∀b j,L b j = .sh->shAll (L b j) = .sh:=fun b j h=>by rw[h];rfl
 obtain⟨hlen,hget⟩:=rdL_get hrd
 have hsz':args.size=vs.length:=by rw[hlen,hsz]
 refine Calls.mono (hcalls args w _ hsz' W0 (fun b j q p i h=>by cases e:L b j <;> simp[e,shAll] at h) fun i hi=>?_) fun en w' he=>?_
 ·have hi2:i<ws.length:=by omega
  obtain⟨h1,h2⟩:=(rdH_rep O shO (hget i hi2 hi) (Hargs i hi2)).pv
  have h3:noOwn vs[i]=true:=by simp only[PV.loose,Bool.and_eq_true] at h1;exact h1.1
  exact⟨h2.loose h3 _,loose_refs h1⟩
 ·cases en with
  | panicked=>exact he.elim
  | outgrown=>exact he.elim
  | returned u=>
    obtain⟨L',W',E,_,Hr,_,_⟩:=he
    have hl:v.loose=true:=flat_loose hflat
    have blk:∀b,b<w.heap.size->SameBlk (fun b j=>shAll (L b j)) b w.heap[b]? w'.heap[b]?:=E.blk
    have blk':∀b,b<w.heap.size->SameBlk L b w.heap[b]? w'.heap[b]?:=fun b hb=>(blk b hb).weaken fun j hj=>by
     rcases hj with hj|hj <;> simp[hj,shAll]
    let L2:LM:=fun b j=>if b<w.heap.size then L b j else .out
    have hin:∀{b j},b<w.heap.size->L2 b j=L b j:=fun {b j} h=>by simp only[L2,h,if_true]
    have cell:∀b j,L b j ≠ .out->w'.cell? ⟨b,j,Option.none⟩=w.cell? ⟨b,j,Option.none⟩/\w'.frozen? ⟨b,j,Option.none⟩=w.frozen? ⟨b,j,Option.none⟩:=fun b j h=>by
     have hb:=O.wf.lt h
     obtain⟨v,hv⟩:=O.wf.ex b j h
     have hs:=blk b hb
     cases e:w.heap[b]? with
     | none=>simp[World.cell?,e] at hv
     | some ob=>
       rw[e] at hs
       cases ob with
       | cells c t fr=>
         cases e':w'.heap[b]? with
         | none=>rw[e'] at hs;cases hs
         | some ob'=>
           rw[e'] at hs
           cases ob' with
           | cells c' t' fr'=>
             obtain⟨rfl,rfl,h3,h4⟩:=hs
             refine⟨?_,by simp[World.frozen?,e,e']⟩
             have:=h4 j (by cases e2:L b j <;> simp[e2,shAll])
             simp only[World.cell?,e,e']
             simpa using this
           | _=>cases hs
       | _=>simp[World.cell?,e] at hv
    have W:WF w' L2:=by
     refine⟨fun b j b' j' r p i h h'=>?_,fun b j h=>?_,fun b j r p i h=>?_⟩
     ·have hb:b<w.heap.size:=by apply Classical.byContradiction;intro hn;simp[L2,hn] at h
      have hb':b'<w.heap.size:=by apply Classical.byContradiction;intro hn;simp[L2,hn] at h'
      rw[hin hb] at h;rw[hin hb'] at h'
      exact O.wf.inj _ _ _ _ _ _ _ h h'
     ·have hb:b<w.heap.size:=by apply Classical.byContradiction;intro hn;simp[L2,hn] at h
      rw[hin hb] at h
      obtain⟨v,hv⟩:=O.wf.ex b j h
      exact⟨v,by rw[(cell b j h).1,hv]⟩
     ·have hb:b<w.heap.size:=by apply Classical.byContradiction;intro hn;simp[L2,hn] at h
      rw[hin hb] at h
      rw[(cell b j (by rw[h];simp)).2];exact O.wf.thaw _ _ _ _ _ h
    have E2:Evo w L A w' L2 A:=⟨E.os,E.tape,E.output,E.size,fun b j hb _=>hin hb,fun b hb=>.inr (blk' b hb),Nat.le_refl _,fun _ _=>.inl rfl,fun a b o m h _=>.inl ⟨a,o,m,h⟩⟩
    have Ex:Ext w L w' L2:=⟨E.os,E.tape,E.output,E.size,fun b j hb _=>hin hb,blk'⟩
    have G:Go1 w L w' L2:=⟨W,Ex,fun b j h=>hin (O.wf.lt (fun e=>by rw[e] at h;exact h)),fun b j h=>(cell b j (fun e=>by rw[e] at h;exact h)).1⟩
    have O2:HOk w' L2 A st:=O.grow G fun b j r p i h _=>by
     have hb:b<w.heap.size:=by apply Classical.byContradiction;intro hn;simp[L2,hn] at h
     rwa [hin hb] at h
    refine⟨L2,A,O2,fun b j q p i h=>?_,.p _ _ hl (flat_rep Hr hflat),E2⟩
    have hb:b<w.heap.size:=by apply Classical.byContradiction;intro hn;simp[L2,hn] at h
    rw[hin hb] at h
    exact bd _ _ _ _ _ h
end
open Go
def q1(d:Nat)(o:XOp):HI:=⟨some d,.x o,.none,false,[]⟩
def q2(o:XOp):HI:=⟨.none,.x o,.none,false,[]⟩
def q3(d:Nat)(o:XOp)(g:Nat)(b:Bool):HI:=⟨some d,.x o,some (g,b),false,[]⟩
def q4(d t:Nat):HI:=⟨some d,.x (.mv (.t t)),.none,false,[]⟩
def pureK(C:Calls'):HCalls:=fun f ws st=>match allP ws with
 | some vs0=>match frzL vs0 with
  | some vs=>if vs.all PV.loose then (match C f vs with
   | some (v,_)=>match frz v with
     | some x=>if x.loose then some (.p x,st) else Option.none
     | _=>Option.none
   | _=>Option.none) else Option.none
  | _=>Option.none
 | _=>Option.none
def rowsV(st:HSt):Nat->HV->List Nat
 | k+1,.row a off len sz=>match st[a]? with
   | some (.row _ _ cs)=>a::((cs.drop off).take (len*sz)).flatMap (rowsV st k)
   | _=>[a]
 | _,_=>[]
def rowsH(st:HSt):Nat->HV->List Nat
 | k+1,.agg cs=>cs.flatMap (rowsH st k)
 | k+1,.tup cs=>cs.flatMap (rowsH st k)
 | k,v=>rowsV st k v
def rdD(st:HSt)(D:List Nat):Nat->HV->Option PV
 | _,.p v=>if v.free then some v else Option.none
 | k+1,.row a off len sz=>if D.contains a then (match st[a]? with
   | some (.row sz' n cs)=>if sz'=sz/\off+len*sz<=cs.length then (allO (rdD st D k) ((cs.drop off).take (len*sz))).map (.sl len) else Option.none
   | _=>Option.none) else Option.none
 | _,_=>Option.none
def icyP(v:PV):PV:=match frz v with
 | some x=>if x.loose then x else v
 | _=>v
def iceV(st:HSt)(D:List Nat):Nat->HV->Option HV
 | _,.p v=>some (.p (icyP v))
 | _,.ptr a i=>some (.ptr a i)
 | _,.row a off len sz=>(rdD st D 4 (.row a off len sz)).map .p
 | k+1,.agg cs=>(allO (iceV st D k) cs).map mkAgg
 | k+1,.tup cs=>(allO (iceV st D k) cs).map mkTup
 | _,_=>Option.none
def killD:List Nat->HSt->HSt
 | [],st=>st
 | a::D,st=>killD D (st.set a .dead)
def killA:List Nat->AM->AM
 | [],A=>A
 | a::D,A=>killA D (A.set a Option.none)
def iceC(H:HCalls)(l:List Nat):HCalls:=fun f ws st=>if l.contains f then (match H f ws st with
 | some (r,st')=>match iceV st' (rowsH st' 4 r) 4 r with
   | some r'=>some (r',killD (rowsH st' 4 r) st')
   | _=>Option.none
 | _=>Option.none) else Option.none
theorem killD_get:∀(D:List Nat) (st:HSt) (a:Nat),(killD D st)[a]? = if a∈D/\a<st.length then some .dead else st[a]?
 | [],st,a=>by simp[killD]
 | d::D,st,a=>by
   rw[killD,killD_get D]
   rw[getElem?_setI]
   by_cases h1:a=d
   ·subst h1
    by_cases h2:a<st.length
    ·simp[h2]
    ·simp[h2]
   ·by_cases h3:a∈D
    ·simp[h1,h3]
    ·simp[h1,h3]
theorem killA_get:∀(D:List Nat) (A:AM) (a:Nat),(killA D A)[a]? = if a∈D/\a<A.length then some Option.none else A[a]?
 | [],st,a=>by simp[killA]
 | d::D,st,a=>by
   rw[killA,killA_get D]
   rw[getElem?_setI]
   by_cases h1:a=d
   ·subst h1
    by_cases h2:a<st.length
    ·simp[h2]
    ·simp[h2]
   ·by_cases h3:a∈D
    ·simp[h1,h3]
    ·simp[h1,h3]
theorem killD_len:∀(D:List Nat) (st:HSt),(killD D st).length=st.length
 | [],_=>rfl
 | d::D,st=>by rw[killD,killD_len D];simp
theorem killA_len:∀(D:List Nat) (A:AM),(killA D A).length=A.length
 | [],_=>rfl
 | d::D,st=>by rw[killA,killA_len D];simp
def iceL(D:List Nat):Lab->Lab
 | .own r p j=>if HK<=r/\r-HK∈D then .sh else .own r p j
 | l=>l
theorem iceL_own{D:List Nat}{l:Lab}{r:Nat}{p:List Nat}{j:Nat}(h:iceL D l = .own r p j):l = .own r p j/\¬(HK<=r/\r-HK∈D):=by
 cases l with
 | out=>cases h
 | sh=>cases h
 | own r' p' j'=>
   simp only[iceL] at h
   split at h
   ·cases h
   ·rename_i hc
    simp only[Lab.own.injEq] at h
    obtain⟨rfl,rfl,rfl⟩:=h
    exact⟨rfl,hc⟩
section
variable {P:Program}
theorem HOk.ice{w:World}{L:LM}{A:AM}{st:HSt}(O:HOk w L A st)(D:List Nat):HOk w (fun b j=>iceL D (L b j)) (killA D A) (killD D st)/\Evo w L A w (fun b j=>iceL D (L b j)) (killA D A):=by
 have ne:∀{a':Nat} {x:Nat×Nat×Nat},(killA D A)[a']? = some (some x)->a'∉D/\A[a']? = some (some x):=fun {a' x} h=>by
  rw[killA_get] at h
  split at h
  ·cases h
  ·rename_i hc
   refine⟨fun e=>?_,h⟩
   have:a'<A.length:=(List.getElem?_eq_some_iff.1 h).1
   exact hc ⟨e,this⟩
 have E:Evo w L A w (fun b j=>iceL D (L b j)) (killA D A):=⟨rfl,rfl,rfl,Nat.le_refl _,fun b j _ h=>by rcases h with h|h <;> rw[h]<;>rfl,fun b _=>.inr (.refl _ _ _),by rw[killA_len];exact Nat.le_refl _,fun a' ha=>by
  rw[killA_get]
  split
  ·exact .inr rfl
  ·exact .inl rfl,fun a' b o m h _=>.inl ⟨a',o,m,(ne h).2⟩⟩
 refine⟨?_,E⟩
 refine⟨?_,by rw[killA_len,killD_len];exact O.len,fun b j r p q h hr=>?_,fun a' k h hk=>?_,fun a' b o m k h hk=>?_,fun a1 a2 b o m o' m' ks vs h1 h2 h3=>?_⟩
 ·refine⟨fun b j b' j' r p i h h'=>?_,fun b j h=>?_,fun b j r p i h=>?_⟩
  ·exact O.wf.inj _ _ _ _ _ _ _ (iceL_own h).1 (iceL_own h').1
  ·exact O.wf.ex b j fun e=>h (by rw[e];rfl)
  ·exact O.wf.thaw _ _ _ _ _ (iceL_own h).1
 ·obtain⟨h1,h2⟩:=iceL_own h
  obtain⟨h3,a',o,m,h4,h5,h6⟩:=O.lab _ _ _ _ _ h1 hr
  refine⟨h3,a',o,m,h4,?_,h6⟩
  rw[killA_get,if_neg (fun e=>h2 ⟨hr,by rw[h4,Nat.add_sub_cancel];exact e.1⟩)];exact h5
 ·rw[killD_get] at h
  split at h
  ·simp only[Option.some.injEq] at h;exact absurd h.symm hk
  ·rename_i hc
   obtain⟨x,hx⟩:=O.live a' k h hk
   refine⟨x,?_⟩
   rw[killA_get,if_neg (fun e=>hc ⟨e.1,by rw[←O.len];exact e.2⟩)];exact hx
 ·obtain⟨h1,h2⟩:=ne h
  rw[killD_get,if_neg (fun e=>h1 e.1)] at hk
  obtain⟨h3,h4⟩:=O.blk _ _ _ _ _ h2 hk
  exact⟨h3,h4.mono (fun q hq=>by
   have hb:=h4.big hq
   simp only[hb,iceL]
   rw[if_neg (by rw[Nat.add_sub_cancel];exact fun e=>h1 e.2)]) (fun _ _=>rfl) (fun es c h=>h) (fun v _ u H=>H.evo E O.wf) fun v u hf H=>H.evo E O.wf (free_refs hf)⟩
 ·obtain⟨h4,h5⟩:=ne h1
  obtain⟨h6,h7⟩:=ne h2
  rw[killD_get,if_neg (fun e=>h4 e.1)] at h3
  exact O.uniq a1 a2 b o m o' m' ks vs h5 h7 h3
theorem icyP_rep{w:World}{L:LM}{A:AM}{v:PV}{u:Value}(H:RepH w L A (.p v) u):RepH w L A (.p (icyP v)) u:=by
 unfold icyP
 split
 ·rename_i x hx
  split
  ·rename_i hl
   exact .p _ _ hl (H.pv.2.share (σ:=fun l=>l) rfl (fun r p h=>by cases h) hx Option.none)
  ·exact H
 ·exact H
theorem rdD_rep{w:World}{L:LM}{A:AM}{st:HSt}(O:HOk w L A st){D:List Nat}:∀{k:Nat} {x:HV} {v:PV} {u:Value},rdD st D k x=some v->RepH w L A x u ->
 RepV w (fun b j=>iceL D (L b j)) Option.none v u/\v.free=true:=by
 have pc:∀{pv v:PV} {u:Value},(if pv.free=true then some pv else Option.none)=some v->RepH w L A (.p pv) u->RepV w (fun b j=>iceL D (L b j)) Option.none v u/\v.free=true:=fun {pv v u} h H=>by
  split at h
  ·rename_i hf
   obtain rfl:=Option.some.inj h
   obtain⟨h3,h4⟩:=H.pv
   exact⟨h4.frame (fun b j hr=>by rw[hr.shared];rfl) (fun q hq=>by rw[loose_refs h3] at hq;cases hq) fun _ _ _=>rfl,hf⟩
  ·cases h
 intro k
 induction k with
 | zero=>
   intro x v u h H
   cases x with
   | p pv=>exact pc (by simpa only[rdD] using h) H
   | _=>simp[rdD] at h
 | succ k ih=>
   intro x v u h H
   cases x with
   | p pv=>exact pc (by simpa only[rdD] using h) H
   | row a off len sz=>
     simp only[rdD] at h
     split at h
     case isFalse=>cases h
     rename_i hD
     split at h
     ·rename_i sz' n cs hst
      split at h
      ·rename_i hc
       obtain⟨rfl,hle⟩:=hc
       simp only[Option.map_eq_some_iff] at h
       obtain⟨vs,hvs,rfl⟩:=h
       obtain⟨h1,h2⟩:=allO_get hvs
       obtain⟨⟨b',o,m⟩,hA⟩:=O.live a _ hst (by simp)
       obtain⟨hb,ho,hn,hm,hlab,hcm,hcells⟩:=O.blk a b' o m _ hA hst
       subst ho
       have hl1:((cs.drop off).take (len*sz')).length=len*sz':=by simp;omega
       cases H with
       | row _ _ _ _ b j cap ha hl hh=>
         obtain⟨rfl,rfl,hcap⟩:=hh b' 0 m hA
         have hcell:∀i (hi:i<vs.length),RepV w (fun b j=>iceL D (L b j)) Option.none vs[i] (cv w b (0+off+i))/\vs[i].free=true:=fun i hi=>by
          have hi1:i<((cs.drop off).take (len*sz')).length:=by omega
          have e1:=h2 i hi1 hi
          have hi2:off+i<cs.length:=by omega
          have h3:=hcells (off+i) hi2
          have e3:((cs.drop off).take (len*sz'))[i]=cs[off+i]:=by simp
          rw[e3] at e1
          rw[←Nat.add_assoc] at h3
          exact ih e1 h3
         refine⟨.sl _ len vs b (0+off) cap hl (fun i hi=>?_) (fun i hi=>free_cok (hcell i hi).2) (fun i hi=>(hcell i hi).1),rfl⟩
         have:=hlab (off+i) (by omega)
         rw[show 0+off+i=0+(off+i) by omega,this]
         simp only[iceL]
         rw[if_pos ⟨by omega,by rw[Nat.add_sub_cancel];simpa using hD⟩]
      ·cases h
     ·cases h
   | _=>simp[rdD] at h
theorem iceV_rep{w:World}{L:LM}{A:AM}{st:HSt}(O:HOk w L A st){D:List Nat}(E:Evo w L A w (fun b j=>iceL D (L b j)) (killA D A)):∀{k:Nat} {x y:HV} {u:Value},iceV st D k x=some y->RepH w L A x u ->
 RepH w (fun b j=>iceL D (L b j)) (killA D A) y u:=by
 have rw1:∀{a off len sz:Nat} {y:HV} {u:Value},(rdD st D 4 (.row a off len sz)).map HV.p=some y->RepH w L A (.row a off len sz) u->RepH w (fun b j=>iceL D (L b j)) (killA D A) y u:=fun h H=>by
  simp only[Option.map_eq_some_iff] at h
  obtain⟨v,hv,rfl⟩:=h
  obtain⟨h1,h2⟩:=rdD_rep O hv H
  exact .p _ _ (free_loose h2) h1
 intro k
 induction k with
 | zero=>
   intro x y u h H
   cases x with
   | p v=>simp only[iceV,Option.some.injEq] at h;subst h;exact icyP_rep (H.evo E O.wf)
   | ptr a i=>simp only[iceV,Option.some.injEq] at h;subst h;exact H.evo E O.wf
   | row a off len sz=>exact rw1 (by simpa only[iceV] using h) H
   | _=>simp[iceV] at h
 | succ k ih=>
   intro x y u h H
   cases x with
   | p v=>simp only[iceV,Option.some.injEq] at h;subst h;exact icyP_rep (H.evo E O.wf)
   | ptr a i=>simp only[iceV,Option.some.injEq] at h;subst h;exact H.evo E O.wf
   | row a off len sz=>exact rw1 (by simpa only[iceV] using h) H
   | agg cs=>
     simp only[iceV,Option.map_eq_some_iff] at h
     obtain⟨ys,hys,rfl⟩:=h
     obtain⟨h1,h2⟩:=allO_get hys
     cases H with
     | agg _ us hz hc=>exact RepH.mkAgg (by omega) fun i hi=>ih (h2 i (by omega) hi) (hc i (by omega))
   | tup cs=>
     simp only[iceV,Option.map_eq_some_iff] at h
     obtain⟨ys,hys,rfl⟩:=h
     obtain⟨h1,h2⟩:=allO_get hys
     cases H with
     | tup _ us hz hc=>exact RepH.mkTup (by omega) fun i hi=>ih (h2 i (by omega) hi) (hc i (by omega))
   | _=>simp[iceV] at h
theorem iceC_ok{H:HCalls}(hH:HCallOk P H)(l:List Nat):HCallOk P (iceC H l):=by
 intro f ws st r st' h
 unfold iceC at h
 split at h
 case isFalse=>cases h
 split at h
 case h_2=>cases h
 rename_i r0 st0 hev
 split at h
 case h_2=>cases h
 rename_i r1 hr1
 simp only[Option.some.injEq,Prod.mk.injEq] at h
 obtain⟨rfl,rfl⟩:=h
 obtain⟨hfn,hcalls⟩:=hH f ws _ _ _ hev
 refine⟨hfn,fun args w L A hsz O bd Hargs=>Calls.mono (hcalls args w L A hsz O bd Hargs) fun en w' he=>?_⟩
 cases en with
 | panicked=>exact he.elim
 | outgrown=>exact he.elim
 | returned u=>
   obtain⟨L',A',O',bd',Hr,E⟩:=he
   obtain⟨O2,E2⟩:=O'.ice (rowsH st0 4 r0)
   exact⟨_,_,O2,fun b j q p i h=>bd' b j q p i (iceL_own h).1,iceV_rep O' E2 hr1 Hr,E.trans O.wf (fun b j r p i h hr=>by
    obtain⟨_,a,o,m,_,h5,_⟩:=O.lab b j r p i h hr
    exact⟨a,o,m,h5⟩) E2⟩
theorem pureK_ok{C:Calls'}(hC:CallOk P C):HCallOk P (pureK C):=by
 intro f ws st r st' h
 unfold pureK at h
 split at h
 case h_2=>cases h
 rename_i vs0 hrd
 split at h
 case h_2=>cases h
 rename_i vs hfz
 split at h
 case isFalse=>cases h
 rename_i hloose
 split at h
 case h_2=>cases h
 rename_i v outs hev
 split at h
 case h_2=>cases h
 rename_i x hx
 split at h
 case isFalse=>cases h
 rename_i hxl
 simp only[Option.some.injEq,Prod.mk.injEq] at h
 obtain⟨rfl,rfl⟩:=h
 obtain⟨hfn,hcalls⟩:=hC f vs _ _ hev
 have ews:=allP_some hrd
 subst ews
 refine⟨hfn,fun args w L A hsz O bd Hargs=>?_⟩
 have W0:=WF.outAll O.wf
 have shO:∀b j,L b j = .sh->outAll (L b j) = .sh:=fun b j h=>by rw[h];rfl
 have hfl:=frzL_length hfz
 have hsz':args.size=vs.length:=by rw[hfl];simpa using hsz
 refine Calls.mono (hcalls args w _ hsz' W0 (fun b j q p i h=>by cases e:L b j <;> simp[e,outAll] at h) fun i hi=>?_) fun en w' he=>?_
 ·have hi3:i<vs0.length:=by omega
  have hi2:i<(vs0.map HV.p).length:=by simpa using hi3
  have H:=Hargs i hi2
  rw[List.getElem_map] at H
  obtain⟨_,h20⟩:=H.pv
  have h1:vs[i].loose=true:=List.all_eq_true.1 hloose _ (List.getElem_mem hi)
  have h2:RepV w L Option.none vs[i] (args.getD i undef):=h20.share (σ:=fun l=>l) rfl (fun r p h=>by cases h) (frzL_get hfz i hi3 hi) Option.none
  have h3:noOwn vs[i]=true:=loose_noOwn h1
  have h4:RepV w (fun b j=>outAll (L b j)) Option.none vs[i] (args.getD i undef):=h2.frame (fun b j hr=>by rw[hr.shared];rfl) (fun q hq=>by rw[loose_refs h1] at hq;cases hq) fun _ _ _=>rfl
  exact⟨h4.loose h3 _,loose_refs h1⟩
 ·cases en with
  | panicked=>exact he.elim
  | outgrown=>exact he.elim
  | returned u=>
    obtain⟨L',W',E,_,Hr,_,_⟩:=he
    have blk:∀b,b<w.heap.size->SameBlk (fun b j=>outAll (L b j)) b w.heap[b]? w'.heap[b]?:=E.blk
    have blk':∀b,b<w.heap.size->SameBlk L b w.heap[b]? w'.heap[b]?:=fun b hb=>(blk b hb).weaken fun j hj=>by
     rcases hj with hj|hj <;> simp[hj,outAll]
    let L2:LM:=fun b j=>if b<w.heap.size then L b j else shAll (L' b j)
    have hin:∀{b j},b<w.heap.size->L2 b j=L b j:=fun {b j} h=>by simp only[L2,h,if_true]
    have hout:∀{b j},¬b<w.heap.size->L2 b j=shAll (L' b j):=fun {b j} h=>by simp only[L2,h,if_false]
    have hown:∀{b j r p i},L2 b j = .own r p i->b<w.heap.size:=fun {b j r p i} h=>by
     apply Classical.byContradiction;intro hn
     rw[hout hn] at h
     cases e:L' b j <;> simp[e,shAll] at h
    have cell:∀b j,L b j ≠ .out->w'.cell? ⟨b,j,Option.none⟩=w.cell? ⟨b,j,Option.none⟩/\w'.frozen? ⟨b,j,Option.none⟩=w.frozen? ⟨b,j,Option.none⟩:=fun b j h=>by
     have hb:=O.wf.lt h
     obtain⟨v,hv⟩:=O.wf.ex b j h
     have hs:=blk b hb
     cases e:w.heap[b]? with
     | none=>simp[World.cell?,e] at hv
     | some ob=>
       rw[e] at hs
       cases ob with
       | cells c t fr=>
         cases e':w'.heap[b]? with
         | none=>rw[e'] at hs;cases hs
         | some ob'=>
           rw[e'] at hs
           cases ob' with
           | cells c' t' fr'=>
             obtain⟨rfl,rfl,h3,h4⟩:=hs
             refine⟨?_,by simp[World.frozen?,e,e']⟩
             have:=h4 j (by cases e2:L b j <;> simp[e2,outAll])
             simp only[World.cell?,e,e']
             simpa using this
           | _=>cases hs
       | _=>simp[World.cell?,e] at hv
    have W:WF w' L2:=by
     refine⟨fun b j b' j' r p i h h'=>?_,fun b j h=>?_,fun b j r p i h=>?_⟩
     ·have hb:=hown h
      have hb':=hown h'
      rw[hin hb] at h;rw[hin hb'] at h'
      exact O.wf.inj _ _ _ _ _ _ _ h h'
     ·by_cases hb:b<w.heap.size
      ·rw[hin hb] at h
       obtain⟨v,hv⟩:=O.wf.ex b j h
       exact⟨v,by rw[(cell b j h).1,hv]⟩
      ·rw[hout hb] at h
       exact W'.ex b j fun e=>h (by rw[e];rfl)
     ·have hb:=hown h
      rw[hin hb] at h
      rw[(cell b j (by rw[h];simp)).2];exact O.wf.thaw _ _ _ _ _ h
    have E2:Evo w L A w' L2 A:=⟨E.os,E.tape,E.output,E.size,fun b j hb _=>hin hb,fun b hb=>.inr (blk' b hb),Nat.le_refl _,fun _ _=>.inl rfl,fun a b o m h _=>.inl ⟨a,o,m,h⟩⟩
    have Ex:Ext w L w' L2:=⟨E.os,E.tape,E.output,E.size,fun b j hb _=>hin hb,blk'⟩
    have G:Go1 w L w' L2:=⟨W,Ex,fun b j h=>hin (O.wf.lt (fun e=>by rw[e] at h;exact h)),fun b j h=>(cell b j (fun e=>by rw[e] at h;exact h)).1⟩
    have O2:HOk w' L2 A st:=O.grow G fun b j r p i h _=>by
     have hb:=hown h
     rwa [hin hb] at h
    have R1:RepV w' (fun b j=>shAll (L' b j)) Option.none x u:=Hr.share rfl (fun r p _ s i=>rfl) hx Option.none
    have R2:RepV w' L2 Option.none x u:=R1.frame (fun b j hr=>by
     have hs:=hr.shared
     by_cases hb:b<w.heap.size
     ·rw[hin hb,hs]
      cases e:L b j with
      | sh=>rfl
      | out=>rw[E.lab b j hb (.inl (by rw[e];rfl)),e] at hs;cases hs
      | own r p i=>rw[E.lab b j hb (.inl (by rw[e];rfl)),e] at hs;cases hs
     ·rw[hout hb]) (fun q hq=>by rw[loose_refs hxl] at hq;cases hq) fun _ _ _=>rfl
    refine⟨L2,A,O2,fun b j q p i h=>?_,.p _ _ hxl R2,E2⟩
    have hb:=hown h
    rw[hin hb] at h
    exact bd _ _ _ _ _ h
def orK(H H':HCalls):HCalls:=fun f ws st=>match H f ws st with
 | some r=>some r
 | Option.none=>H' f ws st
theorem orK_ok{H H':HCalls}(h:HCallOk P H)(h':HCallOk P H'):HCallOk P (orK H H'):=by
 intro f ws st r st' e
 unfold orK at e
 split at e
 ·rename_i x hx
  obtain rfl:=Option.some.inj e
  exact h f ws st _ _ hx
 ·exact h' f ws st _ _ e
end
open Go
set_option maxRecDepth 100000
theorem hsb0:type_of% (And.intro (And.intro (And.intro (And.intro (And.intro @oel_some (And.intro @oel_none @bel_true)) (And.intro (And.intro @bel_false @hvel_true) (And.intro @hvel_false @exel_norm))) (And.intro (And.intro (And.intro @exel_ret @exel_exit) (And.intro @retel_norm @retel_ret)) (And.intro (And.intro @fgtH_norm @fgtH_ret) (And.intro @fgtH_exit @blkel_norm)))) (And.intro (And.intro (And.intro @blkel_ret (And.intro @blkel_exit @get_nil)) (And.intro (And.intro @get_cons @set_nil) (And.intro @set_cons @keep_nil))) (And.intro (And.intro (And.intro @keep_cons @params_nil) (And.intro @params_cons @lookHG_t)) (And.intro (And.intro @lookHG_k @lookHG_f) (And.intro @alG.eq_1 @alG.eq_2))))) (And.intro (And.intro (And.intro (And.intro @alG.eq_3 (And.intro @lookPG_t @lookPG_k)) (And.intro (And.intro @lookPG_f @wantsE_none) (And.intro @wantsE_some @wantB_bool))) (And.intro (And.intro (And.intro @wantB_skip @stepsH_nil) (And.intro @stepsH_cons @stepH_eq)) (And.intro (And.intro @stepHL_eq @evHP_x) (And.intro @evHP_bm @evHP_snil)))) (And.intro (And.intro (And.intro @evHP_slc0 (And.intro @evHP_copy @evHC_skip)) (And.intro (And.intro @evHC_ret @evHC_exit) (And.intro @evHC_reg @evHC_regD))) (And.intro (And.intro (And.intro @evHC_seq @evHC_cond) (And.intro @evHC_block @HOp.temps.eq_1)) (And.intro (And.intro @HOp.opds.eq_1 @HOp.opds.eq_2) (And.intro @HOp.opds.eq_3 @HOp.opds.eq_4)))))):=(And.intro (And.intro (And.intro (And.intro (And.intro @oel_some (And.intro @oel_none @bel_true)) (And.intro (And.intro @bel_false @hvel_true) (And.intro @hvel_false @exel_norm))) (And.intro (And.intro (And.intro @exel_ret @exel_exit) (And.intro @retel_norm @retel_ret)) (And.intro (And.intro @fgtH_norm @fgtH_ret) (And.intro @fgtH_exit @blkel_norm)))) (And.intro (And.intro (And.intro @blkel_ret (And.intro @blkel_exit @get_nil)) (And.intro (And.intro @get_cons @set_nil) (And.intro @set_cons @keep_nil))) (And.intro (And.intro (And.intro @keep_cons @params_nil) (And.intro @params_cons @lookHG_t)) (And.intro (And.intro @lookHG_k @lookHG_f) (And.intro @alG.eq_1 @alG.eq_2))))) (And.intro (And.intro (And.intro (And.intro @alG.eq_3 (And.intro @lookPG_t @lookPG_k)) (And.intro (And.intro @lookPG_f @wantsE_none) (And.intro @wantsE_some @wantB_bool))) (And.intro (And.intro (And.intro @wantB_skip @stepsH_nil) (And.intro @stepsH_cons @stepH_eq)) (And.intro (And.intro @stepHL_eq @evHP_x) (And.intro @evHP_bm @evHP_snil)))) (And.intro (And.intro (And.intro @evHP_slc0 (And.intro @evHP_copy @evHC_skip)) (And.intro (And.intro @evHC_ret @evHC_exit) (And.intro @evHC_reg @evHC_regD))) (And.intro (And.intro (And.intro @evHC_seq @evHC_cond) (And.intro @evHC_block @HOp.temps.eq_1)) (And.intro (And.intro @HOp.opds.eq_1 @HOp.opds.eq_2) (And.intro @HOp.opds.eq_3 @HOp.opds.eq_4))))))
theorem hsb1:type_of% (And.intro (And.intro (And.intro (And.intro (And.intro @HOp.opds.eq_5 (And.intro @XOp.opds.eq_1 @XOp.opds.eq_2)) (And.intro (And.intro @XOp.opds.eq_3 @XOp.opds.eq_4) (And.intro @XOp.opds.eq_5 @XOp.opds.eq_6))) (And.intro (And.intro (And.intro @XOp.opds.eq_7 @XOp.opds.eq_8) (And.intro @XOp.opds.eq_9 @XOp.opds.eq_10)) (And.intro (And.intro @XOp.opds.eq_11 @XOp.opds.eq_12) (And.intro @XOp.opds.eq_13 @XOp.opds.eq_14)))) (And.intro (And.intro (And.intro @XOp.opds.eq_15 (And.intro @XOp.opds.eq_16 @XOp.opds.eq_17)) (And.intro (And.intro @XOp.opds.eq_18 @XOp.opds.eq_19) (And.intro @XOp.opds.eq_20 @XOp.opds.eq_21))) (And.intro (And.intro (And.intro @XOp.opds.eq_22 @XOp.opds.eq_23) (And.intro @XOp.opds.eq_24 @XOp.opds.eq_25)) (And.intro (And.intro @XOp.opds.eq_26 @XOp.opds.eq_27) (And.intro @XOp.opds.eq_28 @XOp.opds.eq_29))))) (And.intro (And.intro (And.intro (And.intro @XOp.opds.eq_30 (And.intro @XOp.opds.eq_31 @XOp.opds.eq_32)) (And.intro (And.intro @XOp.opds.eq_33 @optO.eq_1) (And.intro @optO.eq_2 @tempsO.eq_1))) (And.intro (And.intro (And.intro @tempsO.eq_2 @tempsO.eq_3) (And.intro @hland.eq_1 @hland.eq_2)) (And.intro (And.intro @land1.eq_1 @evHX.eq_1) (And.intro @evHX.eq_2 @evHX.eq_3)))) (And.intro (And.intro (And.intro @evHX.eq_4 (And.intro @evHX.eq_5 @evHX.eq_6)) (And.intro (And.intro @evHX.eq_7 @evHX.eq_8) (And.intro @evHX.eq_9 @evHX.eq_10))) (And.intro (And.intro (And.intro @evHX.eq_11 @evHX.eq_12) (And.intro @evHX.eq_13 @evHX.eq_14)) (And.intro (And.intro @evHX.eq_15 @evHV.eq_1) (And.intro @evHV.eq_2 @evHV.eq_3)))))):=(And.intro (And.intro (And.intro (And.intro (And.intro @HOp.opds.eq_5 (And.intro @XOp.opds.eq_1 @XOp.opds.eq_2)) (And.intro (And.intro @XOp.opds.eq_3 @XOp.opds.eq_4) (And.intro @XOp.opds.eq_5 @XOp.opds.eq_6))) (And.intro (And.intro (And.intro @XOp.opds.eq_7 @XOp.opds.eq_8) (And.intro @XOp.opds.eq_9 @XOp.opds.eq_10)) (And.intro (And.intro @XOp.opds.eq_11 @XOp.opds.eq_12) (And.intro @XOp.opds.eq_13 @XOp.opds.eq_14)))) (And.intro (And.intro (And.intro @XOp.opds.eq_15 (And.intro @XOp.opds.eq_16 @XOp.opds.eq_17)) (And.intro (And.intro @XOp.opds.eq_18 @XOp.opds.eq_19) (And.intro @XOp.opds.eq_20 @XOp.opds.eq_21))) (And.intro (And.intro (And.intro @XOp.opds.eq_22 @XOp.opds.eq_23) (And.intro @XOp.opds.eq_24 @XOp.opds.eq_25)) (And.intro (And.intro @XOp.opds.eq_26 @XOp.opds.eq_27) (And.intro @XOp.opds.eq_28 @XOp.opds.eq_29))))) (And.intro (And.intro (And.intro (And.intro @XOp.opds.eq_30 (And.intro @XOp.opds.eq_31 @XOp.opds.eq_32)) (And.intro (And.intro @XOp.opds.eq_33 @optO.eq_1) (And.intro @optO.eq_2 @tempsO.eq_1))) (And.intro (And.intro (And.intro @tempsO.eq_2 @tempsO.eq_3) (And.intro @hland.eq_1 @hland.eq_2)) (And.intro (And.intro @land1.eq_1 @evHX.eq_1) (And.intro @evHX.eq_2 @evHX.eq_3)))) (And.intro (And.intro (And.intro @evHX.eq_4 (And.intro @evHX.eq_5 @evHX.eq_6)) (And.intro (And.intro @evHX.eq_7 @evHX.eq_8) (And.intro @evHX.eq_9 @evHX.eq_10))) (And.intro (And.intro (And.intro @evHX.eq_11 @evHX.eq_12) (And.intro @evHX.eq_13 @evHX.eq_14)) (And.intro (And.intro @evHX.eq_15 @evHV.eq_1) (And.intro @evHV.eq_2 @evHV.eq_3))))))
theorem hsb2:type_of% (And.intro (And.intro (And.intro (And.intro (And.intro @evHV.eq_4 (And.intro @evHV.eq_5 @evHN.eq_1)) (And.intro (And.intro @evHN.eq_2 @evHN.eq_3) (And.intro @evP.eq_1 @evP.eq_2))) (And.intro (And.intro (And.intro @evP.eq_3 @evP.eq_4) (And.intro @evP.eq_5 @evP.eq_6)) (And.intro (And.intro @evP.eq_7 @evP.eq_8) (And.intro @evP.eq_9 @evP.eq_10)))) (And.intro (And.intro (And.intro @evP.eq_11 (And.intro @evP.eq_12 @evP.eq_13)) (And.intro (And.intro @evP.eq_14 @evP.eq_15) (And.intro @evP.eq_16 @evP.eq_17))) (And.intro (And.intro (And.intro @evP.eq_18 @evP.eq_19) (And.intro @evP.eq_20 @evP.eq_21)) (And.intro (And.intro @evP.eq_22 @evP.eq_23) (And.intro @evP.eq_24 @evP.eq_25))))) (And.intro (And.intro (And.intro (And.intro @evP.eq_26 (And.intro @evP.eq_27 @evP.eq_28)) (And.intro (And.intro @evP.eq_29 @evP.eq_30) (And.intro @evP.eq_31 @evP.eq_32))) (And.intro (And.intro (And.intro @evHS.eq_1 @evHS.eq_2) (And.intro @evHS.eq_3 @evHS.eq_4)) (And.intro (And.intro @evHS.eq_5 @evHS.eq_6) (And.intro @toP.eq_1 @toP.eq_2)))) (And.intro (And.intro (And.intro @vis.eq_1 (And.intro @vis.eq_2 @vis.eq_3)) (And.intro (And.intro @vis.eq_4 @PV.loose.eq_1) (And.intro @noOwn.eq_1 @noOwn.eq_2))) (And.intro (And.intro (And.intro @noOwn.eq_3 @noOwn.eq_4) (And.intro @noOwn.eq_5 @noOwn.eq_6)) (And.intro (And.intro @noOwnL.eq_1 @noOwnL.eq_2) (And.intro @refs.eq_1 @refs.eq_2)))))):=(And.intro (And.intro (And.intro (And.intro (And.intro @evHV.eq_4 (And.intro @evHV.eq_5 @evHN.eq_1)) (And.intro (And.intro @evHN.eq_2 @evHN.eq_3) (And.intro @evP.eq_1 @evP.eq_2))) (And.intro (And.intro (And.intro @evP.eq_3 @evP.eq_4) (And.intro @evP.eq_5 @evP.eq_6)) (And.intro (And.intro @evP.eq_7 @evP.eq_8) (And.intro @evP.eq_9 @evP.eq_10)))) (And.intro (And.intro (And.intro @evP.eq_11 (And.intro @evP.eq_12 @evP.eq_13)) (And.intro (And.intro @evP.eq_14 @evP.eq_15) (And.intro @evP.eq_16 @evP.eq_17))) (And.intro (And.intro (And.intro @evP.eq_18 @evP.eq_19) (And.intro @evP.eq_20 @evP.eq_21)) (And.intro (And.intro @evP.eq_22 @evP.eq_23) (And.intro @evP.eq_24 @evP.eq_25))))) (And.intro (And.intro (And.intro (And.intro @evP.eq_26 (And.intro @evP.eq_27 @evP.eq_28)) (And.intro (And.intro @evP.eq_29 @evP.eq_30) (And.intro @evP.eq_31 @evP.eq_32))) (And.intro (And.intro (And.intro @evHS.eq_1 @evHS.eq_2) (And.intro @evHS.eq_3 @evHS.eq_4)) (And.intro (And.intro @evHS.eq_5 @evHS.eq_6) (And.intro @toP.eq_1 @toP.eq_2)))) (And.intro (And.intro (And.intro @vis.eq_1 (And.intro @vis.eq_2 @vis.eq_3)) (And.intro (And.intro @vis.eq_4 @PV.loose.eq_1) (And.intro @noOwn.eq_1 @noOwn.eq_2))) (And.intro (And.intro (And.intro @noOwn.eq_3 @noOwn.eq_4) (And.intro @noOwn.eq_5 @noOwn.eq_6)) (And.intro (And.intro @noOwnL.eq_1 @noOwnL.eq_2) (And.intro @refs.eq_1 @refs.eq_2))))))
theorem hsb3:type_of% (And.intro (And.intro (And.intro (And.intro (And.intro @refs.eq_3 (And.intro @refs.eq_4 @refs.eq_5)) (And.intro (And.intro @refs.eq_6 @refsL.eq_1) (And.intro @refsL.eq_2 @fresh.eq_1))) (And.intro (And.intro (And.intro @fresh.eq_2 @fresh.eq_3) (And.intro @al.eq_1 @al.eq_2)) (And.intro (And.intro @al.eq_3 @al.eq_4) (And.intro @al.eq_5 @al.eq_6)))) (And.intro (And.intro (And.intro @al.eq_7 (And.intro @alL.eq_1 @alL.eq_2)) (And.intro (And.intro @fr_none @fr_bool) (And.intro @fr_int @fr_str))) (And.intro (And.intro (And.intro @fr_nilp @fr_nils) (And.intro @fr_nilf @fr_sl)) (And.intro (And.intro @fr_sp @fr_ref) (And.intro @fr_view @fr_box))))) (And.intro (And.intro (And.intro (And.intro @fr_own (And.intro @fr_agg @fr_tup)) (And.intro (And.intro @fr_fn @setH.eq_1) (And.intro @setH.eq_2 @pvBin.eq_1))) (And.intro (And.intro (And.intro @pvBin.eq_2 @pvBin.eq_3) (And.intro @intBin.eq_1 @intBin.eq_2)) (And.intro (And.intro @intBin.eq_3 @intBin.eq_4) (And.intro @intBin.eq_5 @intBin.eq_6)))) (And.intro (And.intro (And.intro @intBin.eq_7 (And.intro @intBin.eq_8 @intBin.eq_9)) (And.intro (And.intro @intBin.eq_10 @intBin.eq_11) (And.intro @intBin.eq_12 @intBin.eq_13))) (And.intro (And.intro (And.intro @intBin.eq_14 @intBin.eq_15) (And.intro @intBin.eq_16 @intBin.eq_17)) (And.intro (And.intro @intBin.eq_18 @fillH.eq_1) (And.intro @fillH.eq_2 @fillP.eq_1)))))):=(And.intro (And.intro (And.intro (And.intro (And.intro @refs.eq_3 (And.intro @refs.eq_4 @refs.eq_5)) (And.intro (And.intro @refs.eq_6 @refsL.eq_1) (And.intro @refsL.eq_2 @fresh.eq_1))) (And.intro (And.intro (And.intro @fresh.eq_2 @fresh.eq_3) (And.intro @al.eq_1 @al.eq_2)) (And.intro (And.intro @al.eq_3 @al.eq_4) (And.intro @al.eq_5 @al.eq_6)))) (And.intro (And.intro (And.intro @al.eq_7 (And.intro @alL.eq_1 @alL.eq_2)) (And.intro (And.intro @fr_none @fr_bool) (And.intro @fr_int @fr_str))) (And.intro (And.intro (And.intro @fr_nilp @fr_nils) (And.intro @fr_nilf @fr_sl)) (And.intro (And.intro @fr_sp @fr_ref) (And.intro @fr_view @fr_box))))) (And.intro (And.intro (And.intro (And.intro @fr_own (And.intro @fr_agg @fr_tup)) (And.intro (And.intro @fr_fn @setH.eq_1) (And.intro @setH.eq_2 @pvBin.eq_1))) (And.intro (And.intro (And.intro @pvBin.eq_2 @pvBin.eq_3) (And.intro @intBin.eq_1 @intBin.eq_2)) (And.intro (And.intro @intBin.eq_3 @intBin.eq_4) (And.intro @intBin.eq_5 @intBin.eq_6)))) (And.intro (And.intro (And.intro @intBin.eq_7 (And.intro @intBin.eq_8 @intBin.eq_9)) (And.intro (And.intro @intBin.eq_10 @intBin.eq_11) (And.intro @intBin.eq_12 @intBin.eq_13))) (And.intro (And.intro (And.intro @intBin.eq_14 @intBin.eq_15) (And.intro @intBin.eq_16 @intBin.eq_17)) (And.intro (And.intro @intBin.eq_18 @fillH.eq_1) (And.intro @fillH.eq_2 @fillP.eq_1))))))
theorem hsb4:type_of% (And.intro (And.intro (And.intro (And.intro (And.intro @fillP.eq_2 (And.intro @PV.lok.eq_1 @PV.lok.eq_2)) (And.intro (And.intro @PV.lok.eq_3 @cellsH.eq_1) (And.intro @cellsH.eq_2 @cellsH.eq_3))) (And.intro (And.intro (And.intro @cells.eq_1 @cells.eq_2) (And.intro @HV.one.eq_1 @HV.one.eq_2)) (And.intro (And.intro @HV.one.eq_3 @HV.one.eq_4) (And.intro @HV.one.eq_5 @HV.one.eq_6)))) (And.intro (And.intro (And.intro @HV.one.eq_7 (And.intro @HV.one.eq_8 @partsO.eq_1)) (And.intro (And.intro @partsO.eq_2 @mkAgg.eq_1) (And.intro @mkTup.eq_1 @allP.eq_1))) (And.intro (And.intro (And.intro @allP.eq_2 @allP.eq_3) (And.intro @setCellsH.eq_1 @setCellsH.eq_2)) (And.intro (And.intro @blkCells.eq_1 @partH.eq_1) (And.intro @resHL.eq_1 @resHL.eq_2))))) (And.intro (And.intro (And.intro (And.intro @resH1.eq_1 (And.intro @resH1.eq_2 @resT.eq_1)) (And.intro (And.intro @resT.eq_2 @tupHOf.eq_1) (And.intro @tupHOf.eq_2 @slElems.eq_1))) (And.intro (And.intro (And.intro @slElems.eq_2 @slElems.eq_3) (And.intro @slElems.eq_4 @bnd.eq_1)) (And.intro (And.intro @bnd.eq_2 @idxOk.eq_1) (And.intro @pvPeq.eq_1 @pvPeq.eq_2)))) (And.intro (And.intro (And.intro @pvPeq.eq_3 (And.intro @pvPeq.eq_4 @pvPeq.eq_5)) (And.intro (And.intro @pvPeq.eq_6 @pvBeq.eq_1) (And.intro @pvBeq.eq_2 @pvUn.eq_1))) (And.intro (And.intro (And.intro @pvUn.eq_2 @pvUn.eq_3) (And.intro @pvUn.eq_4 @pvUn.eq_5)) (And.intro (And.intro @mkOwn.eq_1 @rep.eq_1) (And.intro @rep.eq_2 @lendL.eq_1)))))):=(And.intro (And.intro (And.intro (And.intro (And.intro @fillP.eq_2 (And.intro @PV.lok.eq_1 @PV.lok.eq_2)) (And.intro (And.intro @PV.lok.eq_3 @cellsH.eq_1) (And.intro @cellsH.eq_2 @cellsH.eq_3))) (And.intro (And.intro (And.intro @cells.eq_1 @cells.eq_2) (And.intro @HV.one.eq_1 @HV.one.eq_2)) (And.intro (And.intro @HV.one.eq_3 @HV.one.eq_4) (And.intro @HV.one.eq_5 @HV.one.eq_6)))) (And.intro (And.intro (And.intro @HV.one.eq_7 (And.intro @HV.one.eq_8 @partsO.eq_1)) (And.intro (And.intro @partsO.eq_2 @mkAgg.eq_1) (And.intro @mkTup.eq_1 @allP.eq_1))) (And.intro (And.intro (And.intro @allP.eq_2 @allP.eq_3) (And.intro @setCellsH.eq_1 @setCellsH.eq_2)) (And.intro (And.intro @blkCells.eq_1 @partH.eq_1) (And.intro @resHL.eq_1 @resHL.eq_2))))) (And.intro (And.intro (And.intro (And.intro @resH1.eq_1 (And.intro @resH1.eq_2 @resT.eq_1)) (And.intro (And.intro @resT.eq_2 @tupHOf.eq_1) (And.intro @tupHOf.eq_2 @slElems.eq_1))) (And.intro (And.intro (And.intro @slElems.eq_2 @slElems.eq_3) (And.intro @slElems.eq_4 @bnd.eq_1)) (And.intro (And.intro @bnd.eq_2 @idxOk.eq_1) (And.intro @pvPeq.eq_1 @pvPeq.eq_2)))) (And.intro (And.intro (And.intro @pvPeq.eq_3 (And.intro @pvPeq.eq_4 @pvPeq.eq_5)) (And.intro (And.intro @pvPeq.eq_6 @pvBeq.eq_1) (And.intro @pvBeq.eq_2 @pvUn.eq_1))) (And.intro (And.intro (And.intro @pvUn.eq_2 @pvUn.eq_3) (And.intro @pvUn.eq_4 @pvUn.eq_5)) (And.intro (And.intro @mkOwn.eq_1 @rep.eq_1) (And.intro @rep.eq_2 @lendL.eq_1))))))
theorem hsb5:type_of% (And.intro (And.intro (And.intro (And.intro (And.intro @lendL.eq_2 (And.intro @getElem?_len @getElem?_len0)) (And.intro (And.intro @set_len0 @set_len) (And.intro @lim.eq_1 @part.eq_1))) (And.intro (And.intro (And.intro @norm1.eq_1 @norm1.eq_2) (And.intro @slCells.eq_1 @slCells.eq_2)) (And.intro (And.intro @slCells.eq_3 @slCells.eq_4) (And.intro @lend.eq_1 @lend.eq_2)))) (And.intro (And.intro (And.intro @lend.eq_3 (And.intro @lend1.eq_1 @lend1.eq_2)) (And.intro (And.intro @lend1L.eq_1 @lend1L.eq_2) (And.intro @PV.flat.eq_1 @PV.flat.eq_2))) (And.intro (And.intro (And.intro @PV.flat.eq_3 @PV.flat1.eq_1) (And.intro @PV.flat1.eq_2 @PV.flat1.eq_3)) (And.intro (And.intro @PV.flat1.eq_4 @lent.eq_1) (And.intro @lent.eq_2 @lent.eq_3))))) (And.intro (And.intro (And.intro (And.intro @lent.eq_4 (And.intro @PV.isView.eq_1 @PV.isView.eq_2)) (And.intro (And.intro @len_app @regHD_eq) (And.intro @traceHD_nil @traceHD_cons))) (And.intro (And.intro (And.intro @stepHD_eq @isFresh.eq_1) (And.intro @isFresh.eq_2 @isFresh.eq_3)) (And.intro (And.intro @isFresh.eq_4 @stableAll.eq_1) (And.intro @stableAll.eq_2 @stableOp.eq_1)))) (And.intro (And.intro (And.intro @lastO.eq_1 (And.intro @lastO.eq_2 @lastO.eq_3)) (And.intro (And.intro @eqHO.eq_1 @eqHO.eq_2) (And.intro @eqHO.eq_3 @eqHV.eq_1))) (And.intro (And.intro (And.intro @eqHV.eq_2 @eqHV.eq_3) (And.intro @eqHV.eq_4 @eqHV.eq_5)) (And.intro (And.intro @eqHV.eq_6 @eqHV.eq_7) (And.intro @eqHV.eq_8 @eqHV.eq_9)))))):=(And.intro (And.intro (And.intro (And.intro (And.intro @lendL.eq_2 (And.intro @getElem?_len @getElem?_len0)) (And.intro (And.intro @set_len0 @set_len) (And.intro @lim.eq_1 @part.eq_1))) (And.intro (And.intro (And.intro @norm1.eq_1 @norm1.eq_2) (And.intro @slCells.eq_1 @slCells.eq_2)) (And.intro (And.intro @slCells.eq_3 @slCells.eq_4) (And.intro @lend.eq_1 @lend.eq_2)))) (And.intro (And.intro (And.intro @lend.eq_3 (And.intro @lend1.eq_1 @lend1.eq_2)) (And.intro (And.intro @lend1L.eq_1 @lend1L.eq_2) (And.intro @PV.flat.eq_1 @PV.flat.eq_2))) (And.intro (And.intro (And.intro @PV.flat.eq_3 @PV.flat1.eq_1) (And.intro @PV.flat1.eq_2 @PV.flat1.eq_3)) (And.intro (And.intro @PV.flat1.eq_4 @lent.eq_1) (And.intro @lent.eq_2 @lent.eq_3))))) (And.intro (And.intro (And.intro (And.intro @lent.eq_4 (And.intro @PV.isView.eq_1 @PV.isView.eq_2)) (And.intro (And.intro @len_app @regHD_eq) (And.intro @traceHD_nil @traceHD_cons))) (And.intro (And.intro (And.intro @stepHD_eq @isFresh.eq_1) (And.intro @isFresh.eq_2 @isFresh.eq_3)) (And.intro (And.intro @isFresh.eq_4 @stableAll.eq_1) (And.intro @stableAll.eq_2 @stableOp.eq_1)))) (And.intro (And.intro (And.intro @lastO.eq_1 (And.intro @lastO.eq_2 @lastO.eq_3)) (And.intro (And.intro @eqHO.eq_1 @eqHO.eq_2) (And.intro @eqHO.eq_3 @eqHV.eq_1))) (And.intro (And.intro (And.intro @eqHV.eq_2 @eqHV.eq_3) (And.intro @eqHV.eq_4 @eqHV.eq_5)) (And.intro (And.intro @eqHV.eq_6 @eqHV.eq_7) (And.intro @eqHV.eq_8 @eqHV.eq_9))))))
theorem hsb6:type_of% (And.intro (And.intro (And.intro (And.intro (And.intro @eqHV.eq_10 @readAt.eq_1) (And.intro @readAt.eq_2 @eqPV.eq_1)) (And.intro (And.intro @eqPV.eq_2 @eqPV.eq_3) (And.intro @eqPV.eq_4 (And.intro @eqPV.eq_5 @eqPV.eq_6)))) (And.intro (And.intro (And.intro @eqPV.eq_7 @eqPV.eq_8) (And.intro @eqPV.eq_9 @eqPV.eq_10)) (And.intro (And.intro @eqPV.eq_11 @eqPV.eq_12) (And.intro @eqPV.eq_13 (And.intro @eqPVL.eq_1 @eqPVL.eq_2))))) (And.intro (And.intro (And.intro (And.intro @eqPVL.eq_3 @eqHVL.eq_1) (And.intro @eqHVL.eq_2 @eqHVL.eq_3)) (And.intro (And.intro @q1.eq_1 @q2.eq_1) (And.intro @q3.eq_1 (And.intro @q4.eq_1 @pvAeq.eq_1)))) (And.intro (And.intro (And.intro @pvAeq.eq_2 @eqCells.eq_1) (And.intro @eqCells.eq_2 (And.intro @eqCells.eq_3 @eqCells.eq_4))) (And.intro (And.intro @eqCells.eq_5 @strBin.eq_1) (And.intro @strBin.eq_2 (And.intro @strBin.eq_3 @strBin.eq_4)))))):=(And.intro (And.intro (And.intro (And.intro (And.intro @eqHV.eq_10 @readAt.eq_1) (And.intro @readAt.eq_2 @eqPV.eq_1)) (And.intro (And.intro @eqPV.eq_2 @eqPV.eq_3) (And.intro @eqPV.eq_4 (And.intro @eqPV.eq_5 @eqPV.eq_6)))) (And.intro (And.intro (And.intro @eqPV.eq_7 @eqPV.eq_8) (And.intro @eqPV.eq_9 @eqPV.eq_10)) (And.intro (And.intro @eqPV.eq_11 @eqPV.eq_12) (And.intro @eqPV.eq_13 (And.intro @eqPVL.eq_1 @eqPVL.eq_2))))) (And.intro (And.intro (And.intro (And.intro @eqPVL.eq_3 @eqHVL.eq_1) (And.intro @eqHVL.eq_2 @eqHVL.eq_3)) (And.intro (And.intro @q1.eq_1 @q2.eq_1) (And.intro @q3.eq_1 (And.intro @q4.eq_1 @pvAeq.eq_1)))) (And.intro (And.intro (And.intro @pvAeq.eq_2 @eqCells.eq_1) (And.intro @eqCells.eq_2 (And.intro @eqCells.eq_3 @eqCells.eq_4))) (And.intro (And.intro @eqCells.eq_5 @strBin.eq_1) (And.intro @strBin.eq_2 (And.intro @strBin.eq_3 @strBin.eq_4))))))
theorem hs_eq:type_of% (And.intro (And.intro hsb0 (And.intro hsb1 hsb2)) (And.intro (And.intro hsb3 hsb4) (And.intro hsb5 hsb6))):=(And.intro (And.intro hsb0 (And.intro hsb1 hsb2)) (And.intro (And.intro hsb3 hsb4) (And.intro hsb5 hsb6)))
theorem hs_pre:type_of% (And.intro (And.intro (And.intro @oel_some @oel_none) (And.intro @bel_true (And.intro @bel_false @hvel_true))) (And.intro (And.intro @hvel_false (And.intro @exel_norm @exel_ret)) (And.intro @exel_exit (And.intro @retel_norm @retel_ret)))):=(And.intro (And.intro (And.intro @oel_some @oel_none) (And.intro @bel_true (And.intro @bel_false @hvel_true))) (And.intro (And.intro @hvel_false (And.intro @exel_norm @exel_ret)) (And.intro @exel_exit (And.intro @retel_norm @retel_ret))))
theorem evP_call0':type_of% (And.intro @evP_call0 @evP_callv0):=(And.intro @evP_call0 @evP_callv0)
open Go
theorem runL_inv{σ ρ:Type}{body:σ->Option (Stp σ ρ)}(I:σ->Prop)(Q:ρ->Prop)(μ:σ->Nat)
 (h:∀s,I s->(∃r,body s=some (.stop r)/\Q r)\/∃s',body s=some (.next s')/\I s'/\μ s'<μ s):∀s,I s->∃r,runL body s=some r/\Q r:=by
 intro s
 induction hn:μ s using Nat.strongRecOn generalizing s with
 | ind n ih=>
   intro hs
   rw[runL_eq]
   rcases h s hs with⟨r,hb,hq⟩|⟨s',hb,hi,hm⟩
   ·exact⟨r,by rw[hb];rfl,hq⟩
   ·obtain⟨r,hr,hq⟩:=ih (μ s') (by omega) s' rfl hi
    exact⟨r,by rw[hb];exact hr,hq⟩
theorem wr64{x:Int}(h1:-9223372036854775808<=x)(h2:x<=9223372036854775807):IntKind.wrap .i64 x=x:=wrap_id h1 (by omega)
theorem ofInt_toNat{a:Nat}(h:a<9223372036854775808):(BitVec.ofInt 64 (a:Int)).toNat=a:=by
 rw[BitVec.toNat_ofInt]
 have:((a:Int) % ((2 ^ 64:Nat):Int))=a:=Int.emod_eq_of_lt (by omega) (by omega)
 rw[this];rfl
theorem bAnd64{a b:Nat}(ha:a<9223372036854775808)(hb:b<9223372036854775808):bAnd .i64 a b=((a &&& b:Nat):Int):=by
 have h1:=ofInt_toNat ha
 have h2:=ofInt_toNat hb
 unfold bAnd
 show IntKind.wrap .i64 (((BitVec.ofInt 64 (a:Int)) &&& (BitVec.ofInt 64 (b:Int))).toNat:Int)=_
 rw[BitVec.toNat_and,h1,h2]
 have:a &&& b<=a:=Nat.and_le_left
 exact wr64 (by omega) (by omega)
theorem bOr64{a b:Nat}(ha:a<4611686018427387904)(hb:b<4611686018427387904):bOr .i64 a b=((a ||| b:Nat):Int):=by
 have h1:=ofInt_toNat (a:=a) (by omega)
 have h2:=ofInt_toNat (a:=b) (by omega)
 unfold bOr
 show IntKind.wrap .i64 (((BitVec.ofInt 64 (a:Int)) ||| (BitVec.ofInt 64 (b:Int))).toNat:Int)=_
 rw[BitVec.toNat_or,h1,h2]
 have:a ||| b<2 ^ 62:=Nat.or_lt_two_pow (by omega) (by omega)
 exact wr64 (by omega) (by omega)
open Go
theorem drop_step{α:Type}{xs:List α}{i:Nat}{x:α}(h:xs[i]? = some x):xs.drop i=x::xs.drop (i+1):=by
 obtain⟨hl,rfl⟩:=List.getElem?_eq_some_iff.1 h
 rw[List.drop_eq_getElem_cons hl]
open Go
section
variable {C:Calls'} {E E1 E2 E3:Env} {ex:Ex} {k:List Nat}
theorem w_seq{a b:XC}{R:Option (Ex×Env)}(h:evX C a E=some (ex,E1))(h2:seqK (some (ex,E1)) (evX C b)=R):evX C (.seq a b) E=R:=by
 rw[evX_seq,h];exact h2
theorem w_go{f:Env->Option (Ex×Env)}{R:Option (Ex×Env)}(h:f E=R):seqK (some (.norm,E)) f=R:=h
theorem w_gox{f:Env->Option (Ex×Env)}{i:Nat}:seqK (some (.exit i,E)) f=some (.exit i,E):=rfl
theorem w_gor{f:Env->Option (Ex×Env)}:seqK (some (.ret,E)) f=some (.ret,E):=rfl
theorem w_skip:evX C .skip E=some (.norm,E):=evX_skip
theorem w_ret:evX C .ret E=some (.ret,E):=evX_ret
theorem w_exit{i:Nat}(h:E.keep k=E1):evX C (.exit i k) E=some (.exit i,E1):=by rw[evX_exit,h]
theorem w_reg{ops:List XI}(h:steps C E ops=some E1)(h2:E1.keep k=E2):evX C (.reg ops false k) E=some (.norm,E2):=by
 rw[evX_reg,h];simp[h2]
theorem w_nil:steps C E []=some E:=rfl
theorem w_cons{o:XI}{r:List XI}(h:step C E o=some E1)(h2:steps C E1 r=some E2):steps C E (o::r)=some E2:=by
 simp only[steps,h];exact h2
theorem w_regD{ops:List XI}{ds:List Nat}(h0:dstsOf ops=ds)(h1:(E.all fun x=>noRefs ds x.2 && !ds.contains x.1)=true)(h:stepsD C E.sub ds E ops=some E1)(h2:E1.keep k=E2):evX C (.reg ops true k) E=some (.norm,E2):=by
 subst h0
 rw[evX_regD]
 simp only[regD]
 rw[if_pos h1,h];simp[h2]
theorem w_consD{S:Subs}{ds:List Nat}{o:XI}{r:List XI}{d:Nat}{v:PV}(hb:o.bar=false)(h:stepD C S ds E o=some (d,v))(hg:E.get d = .none)(hs:E.set d v=E1)(h2:stepsD C S ds E1 r=some E2):stepsD C S ds E (o::r)=some E2:=by
 simp only[stepsD,hb,Bool.false_eq_true,if_false,h,hg,hs];exact h2
theorem w_barD{S:Subs}{ds:List Nat}{o:XI}{r:List XI}(hb:o.bar=true)(ha:r.all (·.bar)=true)(h:steps C E (o::r)=some E2):stepsD C S ds E (o::r)=some E2:=by
 simp only[stepsD,hb,if_true,ha];exact h
theorem w_condt{c:XO}{a b:XC}{R:Option (Ex×Env)}(h:look E c = .bool true)(h1:evX C a E=some (ex,E1))(h2:fgt k (some (ex,E1))=R):evX C (.cond c a b k) E=R:=by
 rw[evX_cond,h,condK,h1];exact h2
theorem w_condf{c:XO}{a b:XC}{R:Option (Ex×Env)}(h:look E c = .bool false)(h1:evX C b E=some (ex,E1))(h2:fgt k (some (ex,E1))=R):evX C (.cond c a b k) E=R:=by
 rw[evX_cond,h,condK,h1];exact h2
theorem w_block{b:XC}{i:Nat}{R:Option (Ex×Env)}(h1:evX C b E=some (ex,E1))(h2:fgt k (blockK i (some (ex,E1)))=R):evX C (.block i b k) E=R:=by
 rw[evX_block,h1];exact h2
theorem w_fgt{b:XC}{R:Option (Ex×Env)}(h1:evX C b E=some (ex,E1))(h2:fgt k (some (ex,E1))=R):fgt k (evX C b E)=R:=by
 rw[h1];exact h2
theorem w_fn{x:XF}{ws:List PV}{c:XC}{r:Option (PV×List PV)}(hc:x.body=c)(hp:params 0 (argsIn x.nk ws)=E)(h:evX C c E=some (ex,E1))(h2:retK x ws (some (ex,E1))=r):retK x ws (evX C x.body (params 0 (argsIn x.nk ws)))=r:=by
 rw[hc,hp,h];exact h2
end
open Go
set_option maxRecDepth 100000
def h12l0:HC:=.seq (.seq (.reg [q4 24 7,q4 25 1,q1 26 (.len false (.t 25)),q1 27 (.bin .lss (.t 24) (.t 26))] false [1,5,7,27]) (.cond (.t 27) (.skip) (.exit 0 []) [1,5,7])) (.seq (.block 1 (.seq (.reg [q4 30 1,q4 31 7,q1 32 (.iadr 5 .none (.t 30) (.t 31)),q1 33 (.load true 5 (.t 32)),q1 8 (.alloc [.int .i64 0,.int .u8 0,.int .u8 0,.int .u8 0,.int .u16 0]),q2 (.store 5 (.t 8) (.t 33))] false [1,5,7,8]) (.seq (.seq (.reg [q1 34 (.fadr 0 (.t 8)),q1 35 (.load false 1 (.t 34)),q1 36 (.bin .eql (.t 35) (.k (.int .i64 0)))] false [1,5,7,8,36]) (.cond (.t 36) (.seq (.reg [q1 37 (.fadr 0 (.t 5)),⟨some 38,.x (.load false 1 (.t 37)),.none,false,[8]⟩,q1 39 (.fadr 2 (.t 8)),q1 40 (.load false 1 (.t 39)),q1 41 (.conv .i64 (.t 40)),q1 42 (.bin .rem (.t 41) (.k (.int .i64 7))),q1 43 (.fadr 4 (.t 8)),q1 44 (.load false 1 (.t 43)),⟨some 45,.x (.call 35 [.t 42,.t 44] []),.none,true,[]⟩,⟨some 46,.x (.call 60 [.t 38,.t 45] []),.none,true,[]⟩,q1 47 (.bin .eql (.t 46) (.k (.int .i64 0)))] true [1,5,7,8,47]) (.cond (.t 47) (.seq (.reg [q1 4 (.asg (.k (.bool false)))] false [4]) (.ret)) (.skip) [1,5,7,8])) (.skip) [1,5,7,8])) (.seq (.seq (.reg [q1 48 (.fadr 0 (.t 8)),q1 49 (.load false 1 (.t 48)),q1 50 (.bin .eql (.t 49) (.k (.int .i64 4)))] false [1,5,7,8,50]) (.cond (.t 50) (.seq (.reg [q1 52 (.fadr 0 (.t 5)),q1 53 (.load false 1 (.t 52)),q1 54 (.call 52 [.t 53,.k (.nils)] []),q4 51 54,q1 55 (.ext (.t 51) 0),q1 56 (.ext (.t 51) 1),q1 9 (.asg (.t 55)),q1 10 (.asg (.t 56))] false [1,5,7,8,10]) (.seq (.reg [q4 57 10,q1 58 (.un .not (.t 57))] false [1,5,7,8,58]) (.cond (.t 58) (.seq (.reg [q1 4 (.asg (.k (.bool false)))] false [4]) (.ret)) (.skip) [1,5,7,8]))) (.skip) [1,5,7,8])) (.seq (.reg [q1 59 (.fadr 0 (.t 8)),q1 60 (.load false 1 (.t 59)),q1 61 (.bin .eql (.t 60) (.k (.int .i64 5)))] false [1,5,7,61]) (.cond (.t 61) (.seq (.reg [q1 63 (.fadr 0 (.t 5)),q1 64 (.load false 1 (.t 63)),q1 65 (.call 53 [.t 64,.k (.nils)] []),q4 62 65,q1 66 (.ext (.t 62) 0),q1 67 (.ext (.t 62) 1),q1 11 (.asg (.t 66)),q1 12 (.asg (.t 67))] false [1,5,7,12]) (.seq (.reg [q4 68 12,q1 69 (.un .not (.t 68))] false [1,5,7,69]) (.cond (.t 69) (.seq (.reg [q1 4 (.asg (.k (.bool false)))] false [4]) (.ret)) (.skip) [1,5,7]))) (.skip) [1,5,7]))))) [1,5,7]) (.reg [q4 28 7,q1 29 (.bin .add (.t 28) (.k (.int .i64 1))),q1 7 (.asg (.t 29))] false [1,5,7]))
def h12:HF:=⟨2,[.tmp 4],.seq (.reg [q1 4 (.asg (.k (.bool false)))] false [0,1]) (.seq (.seq (.reg [q4 13 1,q1 14 (.len false (.t 13)),q1 15 (.bin .gtr (.t 14) (.k (.int .i64 30)))] false [0,1,15]) (.cond (.t 15) (.seq (.reg [q1 16 (.call 56 [] []),q1 4 (.asg (.t 16))] false [4]) (.ret)) (.skip) [0,1])) (.seq (.reg [q4 18 0,q1 19 (.call 59 [.t 18,.k (.int .u8 240)] []),q4 17 19,q1 20 (.ext (.t 17) 0),q1 21 (.ext (.t 17) 1),q1 5 (.alloc [.nilp,.nils,.int .i64 0,.int .i64 0,.int .i64 0,.int .i64 0,.int .i64 0,.int .i64 0,.int .i64 0,.int .i64 0,.int .i64 0,.nils,.int .i64 0,.int .i64 0,.nils,.nils]),q2 (.store 16 (.t 5) (.t 20)),q1 6 (.asg (.t 21))] false [1,5,6]) (.seq (.seq (.reg [q4 22 6,q1 23 (.un .not (.t 22))] false [1,5,23]) (.cond (.t 23) (.seq (.reg [q1 4 (.asg (.k (.bool false)))] false [4]) (.ret)) (.skip) [1,5])) (.seq (.seq (.reg [q1 7 (.asg (.k (.int .i64 0)))] false [1,5,7]) (.block 0 (.loop h12l0 [1,5,7]) [])) (.seq (.reg [q1 70 (.call 56 [] []),q1 4 (.asg (.t 70))] false [4]) (.ret))))))⟩
def h18l0:HC:=.seq (.reg [q1 32 (.bin .lss (.t 31) (.t 30))] false [0,4,7,10,12,13,29,30,31,32]) (.seq (.cond (.t 32) (.skip) (.exit 0 [0,4,7,10,12,13]) [0,4,7,10,12,13,29,30,31]) (.seq (.block 1 (.seq (.reg [q4 33 31,q1 34 (.iadr 1 .none (.t 29) (.t 31)),q1 35 (.load false 1 (.t 34)),q1 14 (.asg (.t 33)),q1 15 (.asg (.t 35))] false [0,4,7,10,12,13,14,15,29,30,31]) (.reg [q4 36 13,q4 37 14,q1 38 (.load false 1 (.t 12)),q4 39 15,q1 40 (.call 70 [.t 38,.t 39] []),q1 41 (.iadr 1 .none (.t 36) (.t 37)),q2 (.store 1 (.t 41) (.t 40))] false [0,4,7,10,12,13,29,30,31])) [0,4,7,10,12,13,29,30,31]) (.reg [q1 42 (.bin .add (.t 31) (.k (.int .i64 1))),q4 31 42] false [0,4,7,10,12,13,29,30,31])))
def h18l1:HC:=.seq (.reg [q1 46 (.bin .lss (.t 45) (.t 44))] false [0,7,10,12,13,43,44,45,46]) (.seq (.cond (.t 46) (.skip) (.exit 2 [0,7,10,12,13]) [0,7,10,12,13,43,44,45]) (.seq (.block 3 (.seq (.reg [q1 47 (.iadr 1 .none (.t 43) (.t 45)),q1 48 (.load false 1 (.t 47)),q1 17 (.asg (.t 48))] false [0,7,10,12,13,17,43,44,45]) (.reg [q4 49 0,q4 50 17,q1 51 (.mkfn 72 [.t 12]),q1 52 (.call 71 [.t 49,.t 50,.t 51] [])] false [0,7,10,12,13,43,44,45])) [0,7,10,12,13,43,44,45]) (.reg [q1 53 (.bin .add (.t 45) (.k (.int .i64 1))),q4 45 53] false [0,7,10,12,13,43,44,45])))
def h18l2:HC:=.seq (.seq (.reg [q4 56 18,q1 57 (.load false 1 (.t 12)),q1 58 (.nilck (.t 57)),q1 59 (.fadr 2 (.t 58)),q1 60 (.fadr 2 (.t 59)),q1 61 (.load false 1 (.t 60)),q1 62 (.bin .lss (.t 56) (.t 61))] false [0,10,12,13,18,62]) (.cond (.t 62) (.skip) (.exit 4 [10,12,13]) [0,10,12,13,18])) (.block 5 (.seq (.reg [q4 64 0,q4 65 18,q1 66 (.call 22 [.t 64,.t 65] []),q4 63 66,q1 67 (.ext (.t 63) 0),q1 68 (.ext (.t 63) 1),q1 19 (.alloc [.int .i64 0,.int .i64 0]),q2 (.store 2 (.t 19) (.t 67)),q1 20 (.asg (.t 68))] false [0,10,12,13,18,19]) (.seq (.reg [q4 69 0,q4 70 18,q1 71 (.mkfn 73 [.t 12]),q1 72 (.call 71 [.t 69,.t 70,.t 71] [])] false [0,10,12,13,18,19]) (.reg [q4 73 18,q1 74 (.fadr 0 (.t 19)),q1 75 (.load false 1 (.t 74)),q1 76 (.bin .add (.k (.int .i64 1)) (.t 75)),q1 77 (.bin .add (.t 73) (.t 76)),q1 18 (.asg (.t 77))] false [0,10,12,13,18]))) [0,10,12,13,18])
def h18:HF:=⟨5,[.cell 10 true 3,.tmp 11],.seq (.reg [q1 7 (.box (.t 2)),q1 10 (.alloc [.int .i64 0,.int .i64 0,.int .i64 0]),q1 11 (.asg (.k (.nils)))] false [0,1,3,4,7,10]) (.seq (.reg [q4 21 0,q4 22 1,q1 23 (.load true 3 (.t 7)),q1 24 (.build [.nilp,.nils,.int .i64 0,.int .i64 0,.int .i64 0] [(0,1,.t 21),(1,1,.t 22),(2,3,.t 23)]),q1 25 (.box (.t 24)),q1 12 (.alloc [.nilp]),q2 (.store 1 (.t 12) (.t 25))] false [0,3,4,7,10,12]) (.seq (.reg [q4 26 3,q1 27 (.len false (.t 26)),q1 28 (.mksl 1 8 [.int .i64 0] (.t 27) (.t 27)),q1 13 (.asg (.t 28))] false [0,3,4,7,10,12,13]) (.seq (.seq (.reg [q4 29 3,q1 30 (.len false (.t 29)),q1 31 (.mv (.k (.int .i64 0)))] false [0,4,7,10,12,13,29,30,31]) (.block 0 (.loop h18l0 [0,4,7,10,12,13,29,30,31]) [0,4,7,10,12,13])) (.seq (.seq (.reg [q4 43 4,q1 44 (.len false (.t 43)),q1 45 (.mv (.k (.int .i64 0)))] false [0,7,10,12,13,43,44,45]) (.block 2 (.loop h18l1 [0,7,10,12,13,43,44,45]) [0,7,10,12,13])) (.seq (.seq (.reg [q1 54 (.fadr 2 (.t 7)),q1 55 (.load false 1 (.t 54)),q1 18 (.asg (.t 55))] false [0,10,12,13,18]) (.block 4 (.loop h18l2 [0,10,12,13,18]) [10,12,13])) (.seq (.reg [q1 78 (.load false 1 (.t 12)),q1 79 (.nilck (.t 78)),q1 80 (.fadr 2 (.t 79)),q1 81 (.load true 3 (.t 80)),q4 82 13,q2 (.store 3 (.t 10) (.t 81)),q1 11 (.asg (.t 82))] false [10,11]) (.ret)))))))⟩
def h22:HF:=⟨2,[.cell 4 true 2,.tmp 5],.seq (.reg [q1 4 (.alloc [.int .i64 0,.int .i64 0]),q1 5 (.asg (.k (.int .i64 0)))] false [0,1,4]) (.seq (.seq (.reg [q4 6 1,q1 7 (.bin .lss (.t 6) (.k (.int .i64 1))),q4 8 7,q3 9 (.mv (.t 1)) 8 false,q3 10 (.mv (.t 0)) 8 false,q3 11 (.nilck (.t 10)) 8 false,q3 12 (.fadr 0 (.t 11)) 8 false,q3 13 (.load false 1 (.t 12)) 8 false,q3 14 (.len false (.t 13)) 8 false,q3 15 (.bin .geq (.t 9) (.t 14)) 8 false,q1 16 (.pick (.t 8) (.k (.bool true)) (.t 15))] false [0,1,4,16]) (.cond (.t 16) (.seq (.reg [q1 17 (.build [.int .i64 0,.int .i64 0] []),q2 (.store 2 (.t 4) (.t 17)),q1 5 (.asg (.k (.int .i64 20)))] false [4,5]) (.ret)) (.skip) [0,1,4])) (.seq (.reg [q4 18 0,q1 19 (.nilck (.t 18)),q1 20 (.fadr 0 (.t 19)),q1 21 (.load false 1 (.t 20)),q4 22 1,q1 23 (.iadr 1 .none (.t 21) (.t 22)),q1 24 (.load false 1 (.t 23)),q1 25 (.call 74 [.t 24] []),q1 26 (.ext (.t 25) 0),q1 27 (.ext (.t 25) 1),q2 (.store 2 (.t 4) (.t 26)),q1 5 (.asg (.t 27))] false [4,5]) (.ret)))⟩
def h24:HF:=⟨3,[.tmp 6],.seq (.reg [q1 6 (.asg (.k (.int .i64 0)))] false [0,1,2]) (.seq (.reg [q4 7 0,q1 8 (.nilck (.t 7)),q1 9 (.fadr 0 (.t 8)),q1 10 (.load false 1 (.t 9)),q4 11 1,q1 12 (.bin .add (.t 11) (.k (.int .i64 1))),q4 13 2,q1 14 (.bin .add (.t 12) (.t 13)),q1 15 (.iadr 1 .none (.t 10) (.t 14)),q1 16 (.load false 1 (.t 15)),q1 6 (.asg (.t 16))] false [6]) (.ret))⟩
def h27l0:HC:=.seq (.reg [q1 29 (.bin .lss (.t 28) (.t 27))] false [3,4,10,12,13,26,27,28,29]) (.seq (.cond (.t 29) (.skip) (.exit 0 [3,4,10,12,13]) [3,4,10,12,13,26,27,28]) (.seq (.block 1 (.seq (.reg [q1 30 (.iadr 1 .none (.t 26) (.t 28)),q1 31 (.load false 1 (.t 30)),q1 15 (.asg (.t 31))] false [3,4,10,12,13,15,26,27,28]) (.reg [q1 32 (.load false 1 (.t 13)),q4 33 15,q1 34 (.callv (.t 32) [.t 33])] false [3,4,10,12,13,26,27,28])) [3,4,10,12,13,26,27,28]) (.reg [q1 35 (.bin .add (.t 28) (.k (.int .i64 1))),q4 28 35] false [3,4,10,12,13,26,27,28])))
def h27l1:HC:=.seq (.reg [q1 39 (.bin .lss (.t 38) (.t 37))] false [4,10,12,13,36,37,38,39]) (.seq (.cond (.t 39) (.skip) (.exit 2 [4,10,12,13]) [4,10,12,13,36,37,38]) (.seq (.block 3 (.seq (.reg [q1 40 (.iadr 1 .none (.t 36) (.t 38)),q1 41 (.load false 1 (.t 40)),q1 17 (.asg (.t 41))] false [4,10,12,13,17,36,37,38]) (.reg [q1 42 (.load false 1 (.t 4)),q4 43 17,q1 44 (.mkfn 80 [.t 13]),q1 45 (.call 71 [.t 42,.t 43,.t 44] [])] false [4,10,12,13,36,37,38])) [4,10,12,13,36,37,38]) (.reg [q1 46 (.bin .add (.t 38) (.k (.int .i64 1))),q4 38 46] false [4,10,12,13,36,37,38])))
def h27l2:HC:=.seq (.seq (.reg [q4 47 18,q1 48 (.load false 1 (.t 10)),q1 49 (.len false (.t 48)),q1 50 (.bin .lss (.t 47) (.t 49))] false [4,10,12,13,18,50]) (.cond (.t 50) (.skip) (.exit 4 [10,12]) [4,10,12,13,18])) (.seq (.block 5 (.reg [q1 53 (.load false 1 (.t 4)),q1 54 (.load false 1 (.t 10)),q4 55 18,q1 56 (.iadr 1 .none (.t 54) (.t 55)),q1 57 (.load false 1 (.t 56)),q1 58 (.mkfn 81 [.t 13]),⟨some 59,.x (.call 71 [.t 53,.t 57,.t 58] []),.none,true,[]⟩] true [4,10,12,13,18]) [4,10,12,13,18]) (.reg [q4 51 18,q1 52 (.bin .add (.t 51) (.k (.int .i64 1))),q1 18 (.asg (.t 52))] false [4,10,12,13,18]))
def h27:HF:=⟨4,[.tmp 8,.tmp 9],.seq (.reg [q1 4 (.box (.t 0)),q1 5 (.box (.t 1)),q1 8 (.asg (.k (.nils))),q1 9 (.asg (.k (.int .i64 0)))] false [2,3,4,5]) (.seq (.reg [q1 10 (.alloc [.nils])] false [2,3,4,5,10]) (.seq (.reg [q1 19 (.load false 1 (.t 4)),q1 20 (.nilck (.t 19)),q1 21 (.fadr 0 (.t 20)),q1 22 (.load false 1 (.t 21)),q1 23 (.len false (.t 22)),q1 24 (.mksl 1 8 [.int .i64 0] (.t 23) (.t 23)),q1 11 (.alloc [.nils]),q2 (.store 1 (.t 11) (.t 24))] false [2,3,4,5,10,11]) (.seq (.reg [q1 12 (.alloc [.int .i64 0]),q2 (.store 1 (.t 12) (.k (.int .i64 0)))] false [2,3,4,5,10,11,12]) (.seq (.reg [q1 25 (.mkfn 77 [.t 5,.t 11,.t 10,.t 4,.t 12]),q1 13 (.alloc [.nilf]),q2 (.store 1 (.t 13) (.t 25))] false [2,3,4,10,12,13]) (.seq (.seq (.reg [q4 26 2,q1 27 (.len false (.t 26)),q1 28 (.mv (.k (.int .i64 0)))] false [3,4,10,12,13,26,27,28]) (.block 0 (.loop h27l0 [3,4,10,12,13,26,27,28]) [3,4,10,12,13])) (.seq (.seq (.reg [q4 36 3,q1 37 (.len false (.t 36)),q1 38 (.mv (.k (.int .i64 0)))] false [4,10,12,13,36,37,38]) (.block 2 (.loop h27l1 [4,10,12,13,36,37,38]) [4,10,12,13])) (.seq (.seq (.reg [q1 18 (.asg (.k (.int .i64 0)))] false [4,10,12,13,18]) (.block 4 (.loop h27l2 [4,10,12,13,18]) [10,12])) (.seq (.reg [q1 60 (.load false 1 (.t 10)),q1 61 (.load false 1 (.t 12)),q1 8 (.asg (.t 60)),q1 9 (.asg (.t 61))] true [8,9]) (.ret)))))))))⟩
def h29:HF:=⟨2,[.tmp 4],.seq (.reg [q1 4 (.asg (.k (.bool false)))] false [0,1]) (.seq (.seq (.reg [q4 6 0,q1 7 (.len false (.t 6)),q4 8 1,q1 9 (.len false (.t 8)),q1 10 (.bin .neq (.t 7) (.t 9))] false [0,1,10]) (.cond (.t 10) (.seq (.reg [q1 4 (.asg (.k (.bool false)))] false [4]) (.ret)) (.skip) [0,1])) (.seq (.seq (.reg [q1 5 (.asg (.k (.int .i64 0)))] false [0,1,5]) (.block 0 (.loop (.seq (.seq (.reg [q4 11 5,q4 12 0,q1 13 (.len false (.t 12)),q1 14 (.bin .lss (.t 11) (.t 13))] false [0,1,5,14]) (.cond (.t 14) (.skip) (.exit 0 []) [0,1,5])) (.seq (.block 1 (.seq (.reg [q4 17 0,q4 18 5,q1 19 (.iadr 1 .none (.t 17) (.t 18)),q1 20 (.load false 1 (.t 19)),q4 21 1,q4 22 5,q1 23 (.iadr 1 .none (.t 21) (.t 22)),q1 24 (.load false 1 (.t 23)),q1 25 (.bin .neq (.t 20) (.t 24))] true [0,1,5,25]) (.cond (.t 25) (.seq (.reg [q1 4 (.asg (.k (.bool false)))] false [4]) (.ret)) (.skip) [0,1,5])) [0,1,5]) (.reg [q4 15 5,q1 16 (.bin .add (.t 15) (.k (.int .i64 1))),q1 5 (.asg (.t 16))] false [0,1,5]))) [0,1,5]) [])) (.seq (.reg [q1 4 (.asg (.k (.bool true)))] false [4]) (.ret))))⟩
def h35:HF:=⟨2,[.cell 4 true 2],.seq (.reg [q1 4 (.alloc [.int .i64 0,.int .i64 0])] false [0,1,4]) (.seq (.reg [q4 8 0,q1 9 (.conv .u64 (.t 8)),q1 10 (.bin .rem (.t 9) (.k (.int .u64 17))),q1 11 (.conv .i64 (.t 10)),q1 5 (.asg (.t 11))] false [1,4,5]) (.seq (.reg [q4 12 1,q1 13 (.conv .i64 (.t 12)),q1 6 (.asg (.t 13))] false [4,5,6]) (.seq (.seq (.reg [q1 7 (.asg (.k (.int .i64 16)))] false [4,5,6,7]) (.block 0 (.loop (.seq (.seq (.reg [q4 14 7,q4 15 5,q1 16 (.bin .gtr (.t 14) (.t 15))] false [4,5,6,7,16]) (.cond (.t 16) (.skip) (.exit 0 [4,5,6]) [4,5,6,7])) (.seq (.block 1 (.seq (.reg [q4 19 6,q4 20 7,q1 21 (.bin .sub (.t 20) (.k (.int .i64 1))),q1 22 (.bin .shl (.k (.int .i64 1)) (.t 21)),q1 23 (.bin .geq (.t 19) (.t 22))] false [4,5,6,7,23]) (.cond (.t 23) (.reg [q4 24 6,q4 25 7,q1 26 (.bin .sub (.t 25) (.k (.int .i64 1))),q1 27 (.bin .shl (.k (.int .i64 1)) (.t 26)),q1 28 (.bin .sub (.t 24) (.t 27)),q1 6 (.asg (.t 28))] false [4,5,6,7]) (.skip) [4,5,6,7])) [4,5,6,7]) (.reg [q4 17 7,q1 18 (.bin .sub (.t 17) (.k (.int .i64 1))),q1 7 (.asg (.t 18))] false [4,5,6,7]))) [4,5,6,7]) [4,5,6])) (.seq (.reg [q4 29 5,q4 30 6,q1 31 (.build [.int .i64 0,.int .i64 0] [(0,1,.t 29),(1,1,.t 30)]),q2 (.store 2 (.t 4) (.t 31))] false [4]) (.ret)))))⟩
def h52:HF:=⟨2,[.tmp 4,.tmp 5],.seq (.reg [q1 4 (.asg (.k (.nils))),q1 5 (.asg (.k (.bool false)))] false [0,1]) (.seq (.reg [q4 9 0,q1 10 (.nilck (.t 9)),q1 11 (.fadr 1 (.t 10)),q1 12 (.load true 3 (.t 11)),q1 13 (.bsl 3 1 [.int .i64 0,.int .i64 0,.int .i64 0] [(0,3,.t 12)]),q1 6 (.asg (.t 13))] false [0,1,6]) (.seq (.seq (.reg [q4 15 0,q1 16 (.nilck (.t 15)),q1 17 (.fadr 0 (.t 16)),q1 18 (.load false 1 (.t 17)),q4 19 6,q4 20 1,q4 21 0,q1 22 (.nilck (.t 21)),q1 23 (.fadr 10 (.t 22)),q1 24 (.load false 1 (.t 23)),⟨some 25,.x (.call 27 [.t 18,.t 19,.t 20,.t 24] []),.none,true,[]⟩,q4 14 25,q1 26 (.ext (.t 14) 0),q1 27 (.ext (.t 14) 1),q1 7 (.asg (.t 26)),q1 8 (.asg (.t 27))] true [0,1,6,8]) (.seq (.reg [q4 28 8,q4 29 0,q1 30 (.nilck (.t 29)),q1 31 (.fadr 4 (.t 30)),q1 32 (.fadr 1 (.t 31)),q1 33 (.load false 1 (.t 32)),q4 34 0,q1 35 (.nilck (.t 34)),q1 36 (.fadr 4 (.t 35)),q1 37 (.fadr 2 (.t 36)),q1 38 (.load false 1 (.t 37)),q1 39 (.bin .sub (.t 33) (.t 38)),q1 40 (.bin .gtr (.t 28) (.t 39))] true [0,1,6,40]) (.cond (.t 40) (.seq (.reg [q4 41 1,q1 4 (.asg (.t 41)),q1 5 (.asg (.k (.bool false)))] false [4,5]) (.ret)) (.skip) [0,1,6]))) (.seq (.reg [q4 43 0,q4 44 0,q1 45 (.nilck (.t 44)),q1 46 (.fadr 0 (.t 45)),q1 47 (.load false 1 (.t 46)),q4 48 6,q4 49 0,q1 50 (.nilck (.t 49)),q1 51 (.fadr 4 (.t 50)),q1 52 (.load true 3 (.t 51)),q4 53 1,q4 54 0,q1 55 (.nilck (.t 54)),q1 56 (.fadr 10 (.t 55)),q1 57 (.load false 1 (.t 56)),⟨some 58,.x (.call 18 [.t 47,.t 48,.t 52,.t 53,.t 57] []),.none,true,[]⟩,q4 42 58,q1 59 (.ext (.t 42) 0),q1 60 (.ext (.t 42) 1),q1 61 (.nilck (.t 43)),q1 62 (.fadr 4 (.t 61)),⟨.none,.x (.store 3 (.t 62) (.t 59)),.none,true,[]⟩,q1 1 (.asg (.t 60))] true [0,1]) (.seq (.reg [q4 63 0,q4 64 0,q4 65 0,q1 66 (.nilck (.t 65)),q1 67 (.fadr 1 (.t 66)),q1 68 (.fadr 0 (.t 67)),q1 69 (.load false 1 (.t 68)),q1 70 (.nilck (.t 63)),q1 71 (.fadr 1 (.t 70)),q1 72 (.fadr 2 (.t 71)),q2 (.store 1 (.t 72) (.t 69)),q1 73 (.nilck (.t 64)),q1 74 (.fadr 10 (.t 73)),q2 (.store 1 (.t 74) (.k (.nils)))] false [0,1]) (.seq (.reg [q4 75 0,q1 76 (.nilck (.t 75)),q1 77 (.fadr 11 (.t 76)),q1 78 (.load false 1 (.t 77)),q1 79 (.bin .add (.t 78) (.k (.int .i64 1))),q1 80 (.nilck (.t 75)),q1 81 (.fadr 11 (.t 80)),q2 (.store 1 (.t 81) (.t 79))] false [1]) (.seq (.reg [q4 82 1,q1 4 (.asg (.t 82)),q1 5 (.asg (.k (.bool true)))] false [4,5]) (.ret)))))))⟩
def h53:HF:=⟨2,[.tmp 4,.tmp 5],.seq (.reg [q1 4 (.asg (.k (.nils))),q1 5 (.asg (.k (.bool false)))] false [0,1]) (.seq (.reg [q4 10 0,q1 11 (.nilck (.t 10)),q1 12 (.fadr 1 (.t 11)),q1 13 (.load true 3 (.t 12)),q4 14 0,q1 15 (.nilck (.t 14)),q1 16 (.fadr 4 (.t 15)),q1 17 (.load true 3 (.t 16)),q1 18 (.bsl 3 2 [.int .i64 0,.int .i64 0,.int .i64 0] [(0,3,.t 13),(3,3,.t 17)]),⟨some 6,.x (.asg (.t 18)),.none,true,[]⟩] true [0,1,6]) (.seq (.seq (.reg [q4 20 0,q1 21 (.nilck (.t 20)),q1 22 (.fadr 0 (.t 21)),q1 23 (.load false 1 (.t 22)),q4 24 6,q4 25 1,q1 26 (.call 27 [.t 23,.t 24,.t 25,.k (.nils)] []),q4 19 26,q1 27 (.ext (.t 19) 0),q1 28 (.ext (.t 19) 1),q1 7 (.asg (.t 27)),q1 8 (.asg (.t 28))] false [0,1,6,8]) (.seq (.reg [q4 29 8,q4 30 0,q1 31 (.nilck (.t 30)),q1 32 (.fadr 7 (.t 31)),q1 33 (.fadr 1 (.t 32)),q1 34 (.load false 1 (.t 33)),q4 35 0,q1 36 (.nilck (.t 35)),q1 37 (.fadr 7 (.t 36)),q1 38 (.fadr 0 (.t 37)),q1 39 (.load false 1 (.t 38)),q1 40 (.bin .sub (.t 34) (.t 39)),q1 41 (.bin .gtr (.t 29) (.t 40))] true [0,1,6,41]) (.cond (.t 41) (.seq (.reg [q4 42 1,q1 4 (.asg (.t 42)),q1 5 (.asg (.k (.bool false)))] false [4,5]) (.ret)) (.skip) [0,1,6]))) (.seq (.reg [q4 44 0,q1 45 (.nilck (.t 44)),q1 46 (.fadr 0 (.t 45)),q1 47 (.load false 1 (.t 46)),q4 48 6,q4 49 0,q1 50 (.nilck (.t 49)),q1 51 (.fadr 7 (.t 50)),q1 52 (.load true 3 (.t 51)),q4 53 1,⟨some 54,.x (.call 18 [.t 47,.t 48,.t 52,.t 53,.k (.nils)] []),.none,true,[]⟩,q4 43 54,q1 55 (.ext (.t 43) 0),q1 56 (.ext (.t 43) 1),q1 9 (.alloc [.int .i64 0,.int .i64 0,.int .i64 0]),⟨.none,.x (.store 3 (.t 9) (.t 55)),.none,true,[]⟩,q1 1 (.asg (.t 56))] true [0,1,9]) (.seq (.reg [q4 57 0,q4 58 0,q4 59 0,q1 60 (.nilck (.t 59)),q1 61 (.fadr 4 (.t 60)),q1 62 (.load true 3 (.t 61)),⟨some 63,.x (.load true 3 (.t 9)),.none,false,[9]⟩,q1 64 (.nilck (.t 57)),q1 65 (.fadr 7 (.t 64)),⟨.none,.x (.store 3 (.t 65) (.t 62)),.none,true,[]⟩,q1 66 (.nilck (.t 58)),q1 67 (.fadr 4 (.t 66)),⟨.none,.x (.store 3 (.t 67) (.t 63)),.none,true,[]⟩] true [0,1]) (.seq (.reg [q4 68 0,q4 69 0,q4 70 0,q4 71 0,q1 72 (.nilck (.t 71)),q1 73 (.fadr 7 (.t 72)),q1 74 (.fadr 0 (.t 73)),q1 75 (.load false 1 (.t 74)),q4 76 0,q1 77 (.nilck (.t 76)),q1 78 (.fadr 1 (.t 77)),q1 79 (.fadr 0 (.t 78)),q1 80 (.load false 1 (.t 79)),q1 81 (.nilck (.t 68)),q1 82 (.fadr 7 (.t 81)),q1 83 (.fadr 2 (.t 82)),⟨.none,.x (.store 1 (.t 83) (.t 75)),.none,true,[]⟩,q1 84 (.nilck (.t 69)),q1 85 (.fadr 1 (.t 84)),q1 86 (.fadr 2 (.t 85)),⟨.none,.x (.store 1 (.t 86) (.t 80)),.none,true,[]⟩,q1 87 (.nilck (.t 70)),q1 88 (.fadr 10 (.t 87)),⟨.none,.x (.store 1 (.t 88) (.k (.nils))),.none,true,[]⟩] true [0,1]) (.seq (.reg [q4 89 0,q1 90 (.nilck (.t 89)),q1 91 (.fadr 12 (.t 90)),q1 92 (.load false 1 (.t 91)),q1 93 (.bin .add (.t 92) (.k (.int .i64 1))),q1 94 (.nilck (.t 89)),q1 95 (.fadr 12 (.t 94)),q2 (.store 1 (.t 95) (.t 93))] false [1]) (.seq (.reg [q4 96 1,q1 4 (.asg (.t 96)),q1 5 (.asg (.k (.bool true)))] false [4,5]) (.ret))))))))⟩
def h56:HF:=⟨0,[.tmp 0],.seq (.reg [q1 0 (.asg (.k (.bool false)))] false []) (.seq (.reg [q1 22 (.call 57 [.k (.int .i64 5),.k (.int .i64 9)] []),q4 21 22,q1 23 (.ext (.t 21) 0),q1 24 (.ext (.t 21) 1),q1 1 (.asg (.t 23)),q1 2 (.asg (.t 24))] false [1,2]) (.seq (.reg [q1 26 (.call 57 [.k (.int .i64 (-1)),.k (.int .i64 9)] []),q4 25 26,q1 27 (.ext (.t 25) 0),q1 28 (.ext (.t 25) 1),q1 3 (.asg (.t 27)),q1 4 (.asg (.t 28))] false [1,2,4]) (.seq (.seq (.reg [q4 29 1,q1 30 (.peq false (.t 29) (.k (.nilp))),q4 31 30,q3 32 (.mv (.t 2)) 31 false,q3 33 (.bin .neq (.t 32) (.k (.int .i64 0))) 31 false,q1 34 (.pick (.t 31) (.k (.bool true)) (.t 33)),q4 35 34,q3 36 (.mv (.t 4)) 35 false,q3 37 (.bin .neq (.t 36) (.k (.int .i64 18))) 35 false,q1 38 (.pick (.t 35) (.k (.bool true)) (.t 37))] false [1,38]) (.cond (.t 38) (.seq (.reg [q1 0 (.asg (.k (.bool false)))] false [0]) (.ret)) (.skip) [1])) (.seq (.reg [q4 39 1,q1 40 (.build [.int .i64 0,.int .i64 0] [(0,1,.k (.int .i64 2)),(1,1,.k (.int .i64 3))]),q1 41 (.call 60 [.t 39,.t 40] []),q1 5 (.asg (.t 41))] false [1,5]) (.seq (.reg [q4 42 1,q1 43 (.build [.int .i64 0,.int .i64 0] [(0,1,.k (.int .i64 2)),(1,1,.k (.int .i64 3))]),q1 44 (.call 60 [.t 42,.t 43] []),q1 6 (.asg (.t 44))] false [1,5,6]) (.seq (.reg [q4 46 1,q4 47 5,q1 48 (.call 105 [.t 46,.t 47,.k (.int .i64 0),.k (.bool true)] []),q4 45 48,q1 49 (.ext (.t 45) 0),q1 50 (.ext (.t 45) 1),q1 7 (.asg (.t 49)),q1 8 (.asg (.t 50))] false [1,5,6,7,8]) (.seq (.reg [q4 51 1,q4 52 6,q4 53 5,q1 54 (.call 106 [.t 51,.t 52,.k (.int .i64 0),.k (.bool true),.t 53] []),q1 9 (.asg (.t 54))] false [1,5,6,7,8,9]) (.seq (.reg [q4 56 1,q1 57 (.call 105 [.t 56,.k (.int .i64 0),.k (.int .i64 0),.k (.bool true)] []),q4 55 57,q1 58 (.ext (.t 55) 0),q1 59 (.ext (.t 55) 1),q1 10 (.asg (.t 58)),q1 11 (.asg (.t 59))] false [1,5,6,7,8,9,11]) (.seq (.reg [q4 60 1,q1 61 (.call 107 [.t 60] []),q1 12 (.asg (.t 61))] false [1,5,6,7,8,9,11,12]) (.seq (.reg [q4 63 1,q4 64 6,q1 65 (.bsl 1 2 [.int .i64 0] [(0,1,.t 64),(1,1,.k (.int .i64 0))]),q1 66 (.call 52 [.t 63,.t 65] []),q4 62 66,q1 67 (.ext (.t 62) 0),q1 68 (.ext (.t 62) 1),q1 13 (.asg (.t 67)),q1 14 (.asg (.t 68))] false [1,5,6,7,8,9,11,12,13,14]) (.seq (.seq (.reg [q4 69 14,q1 70 (.un .not (.t 69)),q4 71 70,q3 72 (.mv (.t 13)) 71 false,q3 73 (.len false (.t 72)) 71 false,q3 74 (.bin .neq (.t 73) (.k (.int .i64 2))) 71 false,q1 75 (.pick (.t 71) (.k (.bool true)) (.t 74))] false [1,5,6,7,8,9,11,12,13,75]) (.cond (.t 75) (.seq (.reg [q1 0 (.asg (.k (.bool false)))] false [0]) (.ret)) (.skip) [1,5,6,7,8,9,11,12,13])) (.seq (.reg [q4 77 1,q4 78 13,q1 79 (.iadr 1 .none (.t 78) (.k (.int .i64 0))),q1 80 (.load false 1 (.t 79)),q1 81 (.call 105 [.t 77,.t 80,.k (.int .i64 0),.k (.bool true)] []),q4 76 81,q1 82 (.ext (.t 76) 0),q1 83 (.ext (.t 76) 1),q1 15 (.asg (.t 82)),q1 16 (.asg (.t 83))] false [1,5,6,7,8,9,11,12,13,15,16]) (.seq (.reg [q4 85 1,q4 86 13,q1 87 (.call 53 [.t 85,.t 86] []),q4 84 87,q1 88 (.ext (.t 84) 0),q1 89 (.ext (.t 84) 1),q1 17 (.asg (.t 88)),q1 18 (.asg (.t 89))] false [1,5,6,7,8,9,11,12,15,16,17,18]) (.seq (.reg [q4 91 1,q1 92 (.call 108 [.t 91] []),q4 90 92,q1 93 (.ext (.t 90) 0),q1 94 (.ext (.t 90) 1),q1 19 (.asg (.t 93)),q1 20 (.asg (.t 94))] false [1,5,6,7,8,9,11,12,15,16,17,18,19,20]) (.seq (.reg [q4 95 5,q1 96 (.bin .eql (.t 95) (.k (.int .i64 1))),q4 97 96,q3 98 (.mv (.t 6)) 97 true,q3 99 (.bin .eql (.t 98) (.k (.int .i64 6))) 97 true,q1 100 (.pick (.t 97) (.t 99) (.k (.bool false))),q4 101 100,q3 102 (.mv (.t 7)) 101 true,q3 103 (.bin .eql (.t 102) (.k (.int .i64 0))) 101 true,q1 104 (.pick (.t 101) (.t 103) (.k (.bool false))),q4 105 104,q3 106 (.mv (.t 8)) 105 true,q3 107 (.bin .eql (.t 106) (.k (.int .i64 0))) 105 true,q1 108 (.pick (.t 105) (.t 107) (.k (.bool false))),q4 109 108,q3 110 (.mv (.t 9)) 109 true,q3 111 (.bin .eql (.t 110) (.k (.int .i64 0))) 109 true,q1 112 (.pick (.t 109) (.t 111) (.k (.bool false))),q4 113 112,q3 114 (.mv (.t 11)) 113 true,q3 115 (.bin .eql (.t 114) (.k (.int .i64 1))) 113 true,q1 116 (.pick (.t 113) (.t 115) (.k (.bool false))),q4 117 116,q3 118 (.mv (.t 12)) 117 true,q3 119 (.bsl 1 1 [.int .i64 0] [(0,1,.k (.int .i64 6))]) 117 true,q3 120 (.call 29 [.t 118,.t 119] []) 117 true,q1 121 (.pick (.t 117) (.t 120) (.k (.bool false))),q4 122 121,q3 123 (.mv (.t 15)) 122 true,q3 124 (.bin .eql (.t 123) (.k (.int .i64 9))) 122 true,q1 125 (.pick (.t 122) (.t 124) (.k (.bool false))),q4 126 125,q3 127 (.mv (.t 16)) 126 true,q3 128 (.bin .eql (.t 127) (.k (.int .i64 0))) 126 true,q1 129 (.pick (.t 126) (.t 128) (.k (.bool false))),q4 130 129,q3 131 (.mv (.t 18)) 130 true,q1 132 (.pick (.t 130) (.t 131) (.k (.bool false))),q4 133 132,q3 134 (.mv (.t 17)) 133 true,q3 135 (.len false (.t 134)) 133 true,q3 136 (.bin .eql (.t 135) (.k (.int .i64 2))) 133 true,q1 137 (.pick (.t 133) (.t 136) (.k (.bool false))),q4 138 137,q3 139 (.mv (.t 1)) 138 true,q3 140 (.mv (.t 17)) 138 true,q3 141 (.iadr 1 .none (.t 140) (.k (.int .i64 0))) 138 true,q3 142 (.load false 1 (.t 141)) 138 true,q3 143 (.call 109 [.t 139,.t 142] []) 138 true,q1 144 (.pick (.t 138) (.t 143) (.k (.bool false))),q4 145 144,q3 146 (.mv (.t 1)) 145 true,q3 147 (.call 109 [.t 146,.k (.int .i64 99)] []) 145 true,q3 148 (.un .not (.t 147)) 145 true,q1 149 (.pick (.t 145) (.t 148) (.k (.bool false))),q4 150 149,q3 151 (.mv (.t 1)) 150 true,q3 152 (.mv (.t 17)) 150 true,q3 153 (.iadr 1 .none (.t 152) (.k (.int .i64 0))) 150 true,q3 154 (.load false 1 (.t 153)) 150 true,q3 155 (.call 110 [.t 151,.t 154,.k (.int .i64 2)] []) 150 true,q3 156 (.bin .eql (.t 155) (.k (.int .i64 2))) 150 true,q1 157 (.pick (.t 150) (.t 156) (.k (.bool false))),q4 158 157,q3 159 (.mv (.t 19)) 158 true,q3 160 (.bin .eql (.t 159) (.k (.int .i64 1))) 158 true,q1 161 (.pick (.t 158) (.t 160) (.k (.bool false))),q4 162 161,q3 163 (.mv (.t 20)) 162 true,q3 164 (.bin .eql (.t 163) (.k (.int .i64 1))) 162 true,q1 165 (.pick (.t 162) (.t 164) (.k (.bool false))),q1 0 (.asg (.t 165))] false [0]) (.ret))))))))))))))))⟩
def h57:HF:=⟨2,[.tmp 4,.tmp 5],.seq (.reg [q1 4 (.asg (.k (.nilp))),q1 5 (.asg (.k (.int .i64 0)))] false [0,1]) (.seq (.seq (.reg [q4 8 0,q1 9 (.bin .lss (.t 8) (.k (.int .i64 0))),q4 10 9,q3 11 (.mv (.t 1)) 10 false,q3 12 (.bin .lss (.t 11) (.k (.int .i64 0))) 10 false,q1 13 (.pick (.t 10) (.k (.bool true)) (.t 12)),q4 14 13,q3 15 (.mv (.t 0)) 14 false,q3 16 (.bin .gtr (.t 15) (.k (.int .i64 1048576))) 14 false,q1 17 (.pick (.t 14) (.k (.bool true)) (.t 16)),q4 18 17,q3 19 (.mv (.t 1)) 18 false,q3 20 (.bin .gtr (.t 19) (.k (.int .i64 1048576))) 18 false,q1 21 (.pick (.t 18) (.k (.bool true)) (.t 20))] false [0,1,21]) (.cond (.t 21) (.seq (.reg [q1 4 (.asg (.k (.nilp))),q1 5 (.asg (.k (.int .i64 18)))] false [4,5]) (.ret)) (.skip) [0,1])) (.seq (.reg [q4 23 0,q4 24 1,q4 25 1,q1 26 (.bsl 1 3 [.int .i64 0] [(0,1,.t 23),(1,1,.t 24),(2,1,.t 25)]),q1 27 (.call 64 [.t 26] []),q4 22 27,q1 28 (.ext (.t 22) 0),q1 29 (.ext (.t 22) 1),q1 6 (.asg (.t 28)),q1 7 (.asg (.t 29))] false [6,7]) (.seq (.reg [q4 30 6,q4 31 7,q1 32 (.iadr 3 .none (.t 31) (.k (.int .i64 0))),q1 33 (.load true 3 (.t 32)),q4 34 7,q1 35 (.iadr 3 .none (.t 34) (.k (.int .i64 1))),q1 36 (.load true 3 (.t 35)),q4 37 7,q1 38 (.iadr 3 .none (.t 37) (.k (.int .i64 2))),q1 39 (.load true 3 (.t 38)),q1 40 (.build [.nilp,.int .i64 0,.int .i64 0,.int .i64 0,.int .i64 0,.int .i64 0,.int .i64 0,.int .i64 0,.int .i64 0,.int .i64 0,.nils,.int .i64 0,.int .i64 0] [(0,1,.t 30),(1,3,.t 33),(4,3,.t 36),(7,3,.t 39)]),q1 41 (.box (.t 40)),⟨some 4,.x (.asg (.t 41)),.none,true,[]⟩,q1 5 (.asg (.k (.int .i64 0)))] true [4,5]) (.ret))))⟩
def h58:HF:=⟨2,[.cell 4 true 13,.tmp 5],.seq (.reg [q1 4 (.alloc [.nils,.int .i64 0,.int .i64 0,.int .i64 0,.int .i64 0,.int .i64 0,.int .i64 0,.int .i64 0,.int .i64 0,.int .i64 0,.nils,.int .i64 0,.int .i64 0]),q1 5 (.asg (.k (.int .i64 0)))] false [0,1,4]) (.seq (.seq (.reg [q4 6 0,q1 7 (.bin .lss (.t 6) (.k (.int .i64 0))),q4 8 7,q3 9 (.mv (.t 0)) 8 false,q3 10 (.bin .gtr (.t 9) (.k (.int .i64 1048576))) 8 false,q1 11 (.pick (.t 8) (.k (.bool true)) (.t 10)),q4 12 11,q3 13 (.mv (.t 1)) 12 false,q3 14 (.bin .lss (.t 13) (.k (.int .i64 0))) 12 false,q1 15 (.pick (.t 12) (.k (.bool true)) (.t 14)),q4 16 15,q3 17 (.mv (.t 1)) 16 false,q3 18 (.bin .gtr (.t 17) (.k (.int .i64 1048576))) 16 false,q1 19 (.pick (.t 16) (.k (.bool true)) (.t 18))] false [0,1,4,19]) (.cond (.t 19) (.seq (.reg [q1 20 (.build [.nils,.int .i64 0,.int .i64 0,.int .i64 0,.int .i64 0,.int .i64 0,.int .i64 0,.int .i64 0,.int .i64 0,.int .i64 0,.nils,.int .i64 0,.int .i64 0] []),q2 (.store 13 (.t 4) (.t 20)),q1 5 (.asg (.k (.int .i64 18)))] false [4,5]) (.ret)) (.skip) [0,1,4])) (.seq (.reg [q4 21 0,q1 22 (.call 111 [.k (.int .i64 1),.t 21] []),q4 23 0,q1 24 (.bin .add (.k (.int .i64 1)) (.t 23)),q4 25 1,q1 26 (.call 111 [.t 24,.t 25] []),q4 27 0,q1 28 (.bin .add (.k (.int .i64 1)) (.t 27)),q4 29 1,q1 30 (.bin .add (.t 28) (.t 29)),q4 31 1,q1 32 (.call 111 [.t 30,.t 31] []),q1 33 (.build [.nils,.int .i64 0,.int .i64 0,.int .i64 0,.int .i64 0,.int .i64 0,.int .i64 0,.int .i64 0,.int .i64 0,.int .i64 0,.nils,.int .i64 0,.int .i64 0] [(1,3,.t 22),(4,3,.t 26),(7,3,.t 32)]),q2 (.store 13 (.t 4) (.t 33)),q1 5 (.asg (.k (.int .i64 0)))] false [4,5]) (.ret)))⟩
def h59:HF:=⟨2,[.cell 4 true 16,.tmp 5],.seq (.reg [q1 4 (.alloc [.nilp,.nils,.int .i64 0,.int .i64 0,.int .i64 0,.int .i64 0,.int .i64 0,.int .i64 0,.int .i64 0,.int .i64 0,.int .i64 0,.nils,.int .i64 0,.int .i64 0,.nils,.nils]),q1 5 (.asg (.k (.bool false)))] false [0,1,4]) (.seq (.reg [q4 12 0,q1 13 (.conv .i64 (.t 12)),q4 14 1,q1 15 (.conv .i64 (.t 14)),q1 16 (.bin .add (.t 15) (.k (.int .i64 8))),q1 17 (.call 57 [.t 13,.t 16] []),q4 11 17,q1 18 (.ext (.t 11) 0),q1 19 (.ext (.t 11) 1),q1 6 (.asg (.t 18)),q1 7 (.asg (.t 19))] false [0,1,4,6,7]) (.seq (.reg [q4 21 0,q1 22 (.conv .i64 (.t 21)),q4 23 1,q1 24 (.conv .i64 (.t 23)),q1 25 (.bin .add (.t 24) (.k (.int .i64 8))),q1 26 (.call 58 [.t 22,.t 25] []),q4 20 26,q1 27 (.ext (.t 20) 0),q1 28 (.ext (.t 20) 1),q1 8 (.alloc [.nils,.int .i64 0,.int .i64 0,.int .i64 0,.int .i64 0,.int .i64 0,.int .i64 0,.int .i64 0,.int .i64 0,.int .i64 0,.nils,.int .i64 0,.int .i64 0]),q2 (.store 13 (.t 8) (.t 27)),q1 9 (.asg (.t 28))] false [4,6,7,8,9]) (.seq (.reg [q4 29 6,q1 30 (.load true 13 (.t 8)),q1 31 (.mksl 1 8 [.int .i64 0] (.k (.int .i64 5)) (.k (.int .i64 5))),q1 32 (.mksl 1 8 [.int .i64 0] (.k (.int .i64 5)) (.k (.int .i64 5))),⟨some 33,.x (.build [.nilp,.nils,.int .i64 0,.int .i64 0,.int .i64 0,.int .i64 0,.int .i64 0,.int .i64 0,.int .i64 0,.int .i64 0,.int .i64 0,.nils,.int .i64 0,.int .i64 0,.nils,.nils] [(0,1,.t 29),(1,13,.t 30),(14,1,.t 31),(15,1,.t 32)]),.none,true,[]⟩,q1 10 (.alloc [.nilp,.nils,.int .i64 0,.int .i64 0,.int .i64 0,.int .i64 0,.int .i64 0,.int .i64 0,.int .i64 0,.int .i64 0,.int .i64 0,.nils,.int .i64 0,.int .i64 0,.nils,.nils]),⟨.none,.x (.store 16 (.t 10) (.t 33)),.none,true,[]⟩] true [4,6,7,9,10]) (.seq (.reg [q1 34 (.load true 16 (.t 10)),q4 35 6,q1 36 (.peq true (.t 35) (.k (.nilp))),q4 37 36,q3 38 (.mv (.t 7)) 37 true,q3 39 (.bin .eql (.t 38) (.k (.int .i64 0))) 37 true,q1 40 (.pick (.t 37) (.t 39) (.k (.bool false))),q4 41 40,q3 42 (.mv (.t 9)) 41 true,q3 43 (.bin .eql (.t 42) (.k (.int .i64 0))) 41 true,q1 44 (.pick (.t 41) (.t 43) (.k (.bool false))),q2 (.store 16 (.t 4) (.t 34)),q1 5 (.asg (.t 44))] false [4,5]) (.ret)))))⟩
def h60:HF:=⟨2,[.tmp 4],.seq (.reg [q1 3 (.box (.t 1)),q1 4 (.asg (.k (.int .i64 0)))] false [0,3]) (.seq (.reg [q4 8 0,q1 9 (.nilck (.t 8)),q1 10 (.fadr 0 (.t 9)),q1 11 (.load false 1 (.t 10)),q4 12 0,q1 13 (.nilck (.t 12)),q1 14 (.fadr 1 (.t 13)),q1 15 (.load true 3 (.t 14)),q1 16 (.load true 2 (.t 3)),⟨some 17,.x (.call 65 [.t 11,.t 15,.t 16] []),.none,true,[]⟩,q4 7 17,q1 18 (.ext (.t 7) 0),q1 19 (.ext (.t 7) 1),q1 5 (.alloc [.int .i64 0,.int .i64 0,.int .i64 0]),⟨.none,.x (.store 3 (.t 5) (.t 18)),.none,true,[]⟩,q1 6 (.asg (.t 19))] true [0,3,5,6]) (.seq (.seq (.reg [q4 20 6,q1 21 (.bin .neq (.t 20) (.k (.int .i64 0)))] false [0,3,5,6,21]) (.cond (.t 21) (.seq (.reg [q4 22 0,q1 23 (.load true 3 (.t 5)),q1 24 (.nilck (.t 22)),q1 25 (.fadr 1 (.t 24)),q2 (.store 3 (.t 25) (.t 23))] false [6]) (.seq (.reg [q4 26 6,q1 4 (.asg (.t 26))] false [4]) (.ret))) (.skip) [0,3,5])) (.seq (.seq (.reg [q4 28 0,q1 29 (.nilck (.t 28)),q1 30 (.fadr 0 (.t 29)),q1 31 (.load false 1 (.t 30)),q4 32 0,q1 33 (.nilck (.t 32)),q1 34 (.fadr 4 (.t 33)),q1 35 (.load true 3 (.t 34)),q1 36 (.load true 2 (.t 3)),⟨some 37,.x (.call 65 [.t 31,.t 35,.t 36] []),.none,true,[]⟩,q4 27 37,q1 38 (.ext (.t 27) 0),q1 39 (.ext (.t 27) 1),⟨.none,.x (.store 3 (.t 5) (.t 38)),.none,true,[]⟩,q1 6 (.asg (.t 39))] true [0,5,6]) (.seq (.reg [q4 40 6,q1 41 (.bin .neq (.t 40) (.k (.int .i64 0)))] false [0,5,6,41]) (.cond (.t 41) (.seq (.reg [q4 42 0,q1 43 (.load true 3 (.t 5)),q1 44 (.nilck (.t 42)),q1 45 (.fadr 4 (.t 44)),q2 (.store 3 (.t 45) (.t 43))] false [0,6]) (.reg [q4 46 0,q4 47 0,q1 48 (.nilck (.t 47)),q1 49 (.fadr 10 (.t 48)),q1 50 (.load false 1 (.t 49)),q4 51 6,q1 52 (.bsl 1 1 [.int .i64 0] [(0,1,.t 51)]),q1 53 (.app 1 8 (.t 50) (.t 52)),q1 54 (.nilck (.t 46)),q1 55 (.fadr 10 (.t 54)),q2 (.store 1 (.t 55) (.t 53))] false [6])) (.skip) [6]))) (.seq (.reg [q4 56 6,q1 4 (.asg (.t 56))] false [4]) (.ret)))))⟩
def h64:HF:=⟨1,[.tmp 2,.tmp 3],.seq (.reg [q1 2 (.asg (.k (.nilp))),q1 3 (.asg (.k (.nils)))] false [0]) (.seq (.reg [q1 4 (.asg (.k (.int .i64 1)))] false [0,4]) (.seq (.reg [q1 5 (.asg (.k (.nils)))] false [0,4,5]) (.seq (.seq (.reg [q4 8 0,q1 9 (.len false (.t 8)),q1 10 (.mv (.k (.int .i64 0)))] false [4,5,8,9,10]) (.block 0 (.loop (.seq (.reg [q1 11 (.bin .lss (.t 10) (.t 9))] false [4,5,8,9,10,11]) (.seq (.cond (.t 11) (.skip) (.exit 0 [4,5]) [4,5,8,9,10]) (.seq (.block 1 (.seq (.reg [q1 12 (.iadr 1 .none (.t 8) (.t 10)),q1 13 (.load false 1 (.t 12)),q1 7 (.asg (.t 13))] false [4,5,7,8,9,10]) (.seq (.reg [q4 14 5,q4 15 4,q4 16 4,q4 17 7,q1 18 (.bin .add (.t 16) (.t 17)),q4 19 4,q1 20 (.build [.int .i64 0,.int .i64 0,.int .i64 0] [(0,1,.t 15),(1,1,.t 18),(2,1,.t 19)]),q1 21 (.bsl 3 1 [.int .i64 0,.int .i64 0,.int .i64 0] [(0,3,.t 20)]),q1 22 (.app 3 24 (.t 14) (.t 21)),q1 5 (.asg (.t 22))] false [4,5,7,8,9,10]) (.reg [q4 23 4,q4 24 7,q1 25 (.bin .add (.t 23) (.t 24)),q1 4 (.asg (.t 25))] false [4,5,8,9,10]))) [4,5,8,9,10]) (.reg [q1 26 (.bin .add (.t 10) (.k (.int .i64 1))),q4 10 26] false [4,5,8,9,10])))) [4,5,8,9,10]) [4,5])) (.seq (.reg [q4 27 4,q1 28 (.mksl 1 8 [.int .i64 0] (.t 27) (.t 27)),q1 29 (.build [.nils] [(0,1,.t 28)]),q1 30 (.box (.t 29)),q4 31 5,q1 2 (.asg (.t 30)),q1 3 (.asg (.t 31))] false [2,3]) (.ret)))))⟩
def h65l0:HC:=.seq (.reg [q1 33 (.bin .lss (.t 32) (.t 31))] false [0,4,5,6,8,31,32,33]) (.seq (.cond (.t 33) (.skip) (.exit 0 [4,5,6,8]) [0,4,5,6,8,31,32]) (.seq (.block 1 (.seq (.reg [q4 34 32,q1 9 (.asg (.t 34))] false [0,4,5,6,8,9,31,32]) (.reg [q4 35 0,q1 36 (.nilck (.t 35)),q1 37 (.fadr 0 (.t 36)),q1 38 (.load false 1 (.t 37)),q4 39 8,q1 40 (.bin .add (.t 39) (.k (.int .i64 1))),q4 41 9,q1 42 (.bin .add (.t 40) (.t 41)),q1 43 (.iadr 1 .none (.t 38) (.t 42)),q2 (.store 1 (.t 43) (.k (.int .i64 0)))] false [0,4,5,6,8,31,32])) [0,4,5,6,8,31,32]) (.reg [q1 44 (.bin .add (.t 32) (.k (.int .i64 1))),q4 32 44] false [0,4,5,6,8,31,32])))
def h65:HF:=⟨3,[.cell 6 true 3,.tmp 7],.seq (.reg [q1 4 (.box (.t 1)),q1 5 (.box (.t 2)),q1 6 (.alloc [.int .i64 0,.int .i64 0,.int .i64 0]),q1 7 (.asg (.k (.int .i64 0)))] false [0,4,5,6]) (.seq (.seq (.reg [q1 10 (.fadr 1 (.t 4)),q1 11 (.load false 1 (.t 10)),q1 12 (.fadr 2 (.t 4)),q1 13 (.load false 1 (.t 12)),q1 14 (.bin .sub (.t 11) (.t 13)),q1 15 (.fadr 0 (.t 5)),q1 16 (.load false 1 (.t 15)),q1 17 (.bin .add (.k (.int .i64 1)) (.t 16)),q1 18 (.bin .lss (.t 14) (.t 17))] false [0,4,5,6,18]) (.cond (.t 18) (.seq (.reg [q1 19 (.load true 3 (.t 4)),q2 (.store 3 (.t 6) (.t 19)),q1 7 (.asg (.k (.int .i64 0)))] false [6,7]) (.ret)) (.skip) [0,4,5,6])) (.seq (.reg [q1 20 (.fadr 2 (.t 4)),q1 21 (.load false 1 (.t 20)),q1 8 (.asg (.t 21))] false [0,4,5,6,8]) (.seq (.reg [q4 22 0,q1 23 (.nilck (.t 22)),q1 24 (.fadr 0 (.t 23)),⟨some 25,.x (.load false 1 (.t 24)),.none,false,[6]⟩,q4 26 8,q1 27 (.load true 2 (.t 5)),⟨some 28,.x (.call 113 [.t 27] []),.none,true,[]⟩,q1 29 (.iadr 1 .none (.t 25) (.t 26)),⟨.none,.x (.store 1 (.t 29) (.t 28)),.none,true,[]⟩] true [0,4,5,6,8]) (.seq (.seq (.reg [q1 30 (.fadr 0 (.t 5)),q1 31 (.load false 1 (.t 30)),q1 32 (.mv (.k (.int .i64 0)))] false [0,4,5,6,8,31,32]) (.block 0 (.loop h65l0 [0,4,5,6,8,31,32]) [4,5,6,8])) (.seq (.reg [q1 45 (.fadr 2 (.t 4)),q1 46 (.load false 1 (.t 45)),q1 47 (.fadr 0 (.t 5)),q1 48 (.load false 1 (.t 47)),q1 49 (.bin .add (.k (.int .i64 1)) (.t 48)),q1 50 (.bin .add (.t 46) (.t 49)),q1 51 (.fadr 2 (.t 4)),q2 (.store 1 (.t 51) (.t 50))] false [4,6,8]) (.seq (.reg [q1 52 (.load true 3 (.t 4)),q4 53 8,q2 (.store 3 (.t 6) (.t 52)),q1 7 (.asg (.t 53))] false [6,7]) (.ret)))))))⟩
def h66:HF:=⟨4,[],.reg [q4 8 0,q1 9 (.nilck (.t 8)),q1 10 (.fadr 0 (.t 9)),q1 11 (.load false 1 (.t 10)),q4 12 1,q1 13 (.bin .add (.t 12) (.k (.int .i64 1))),q4 14 2,q1 15 (.bin .add (.t 13) (.t 14)),q4 16 3,q1 17 (.iadr 1 .none (.t 11) (.t 15)),q2 (.store 1 (.t 17) (.t 16))] false []⟩
def h67:HF:=⟨2,[.tmp 4],.seq (.reg [q1 2 (.box (.t 0)),q1 4 (.asg (.k (.bool false)))] false [1,2]) (.seq (.reg [q4 5 1,q1 6 (.fadr 0 (.t 2)),q1 7 (.load false 1 (.t 6)),q1 8 (.bin .geq (.t 5) (.t 7)),q4 9 8,q3 10 (.mv (.t 1)) 9 true,q3 11 (.fadr 2 (.t 2)) 9 true,q3 12 (.load false 1 (.t 11)) 9 true,q3 13 (.bin .lss (.t 10) (.t 12)) 9 true,q1 14 (.pick (.t 9) (.t 13) (.k (.bool false))),q1 4 (.asg (.t 14))] false [4]) (.ret))⟩
def h70:HF:=⟨2,[.tmp 4],.seq (.reg [q1 3 (.box (.t 1)),q1 4 (.asg (.k (.int .i64 0)))] false [0,3]) (.seq (.seq (.reg [q4 9 0,q1 10 (.nilck (.t 9)),q1 11 (.fadr 1 (.t 10)),q1 12 (.load false 1 (.t 11)),q1 13 (.mkfn 115 [.t 3]),q1 14 (.call 78 [.t 12,.t 13] []),q1 15 (.un .not (.t 14))] false [0,3,15]) (.cond (.t 15) (.seq (.reg [q1 16 (.load false 1 (.t 3)),q1 4 (.asg (.t 16))] false [4]) (.ret)) (.skip) [0,3])) (.seq (.seq (.reg [q4 17 0,q1 18 (.nilck (.t 17)),q1 19 (.fadr 0 (.t 18)),q1 20 (.load false 1 (.t 19)),q1 21 (.nilck (.t 20)),q1 22 (.fadr 0 (.t 21)),q1 23 (.load false 1 (.t 22)),q1 24 (.load false 1 (.t 3)),q1 25 (.iadr 1 .none (.t 23) (.t 24)),q1 26 (.load false 1 (.t 25)),q1 5 (.asg (.t 26))] true [0,3,5]) (.seq (.reg [q4 27 5,q1 28 (.bin .lss (.t 27) (.k (.int .i64 0)))] false [0,3,5,28]) (.cond (.t 28) (.seq (.reg [q4 29 5,q1 30 (.un .neg (.t 29)),q1 4 (.asg (.t 30))] false [4]) (.ret)) (.skip) [0,3]))) (.seq (.reg [q4 32 0,q1 33 (.nilck (.t 32)),q1 34 (.fadr 0 (.t 33)),q1 35 (.load false 1 (.t 34)),q1 36 (.load false 1 (.t 3)),⟨some 37,.x (.call 22 [.t 35,.t 36] []),.none,true,[]⟩,q4 31 37,q1 38 (.ext (.t 31) 0),q1 39 (.ext (.t 31) 1),q1 6 (.alloc [.int .i64 0,.int .i64 0]),⟨.none,.x (.store 2 (.t 6) (.t 38)),.none,true,[]⟩,q1 7 (.asg (.t 39))] true [0,3,6]) (.seq (.reg [q4 40 0,q1 41 (.nilck (.t 40)),q1 42 (.fadr 2 (.t 41)),q1 43 (.fadr 2 (.t 42)),q1 44 (.load false 1 (.t 43)),q1 8 (.asg (.t 44))] false [0,3,6,8]) (.seq (.reg [q4 45 0,q1 46 (.nilck (.t 45)),q1 47 (.fadr 0 (.t 46)),q1 48 (.load false 1 (.t 47)),q1 49 (.nilck (.t 48)),q1 50 (.fadr 0 (.t 49)),q1 51 (.load false 1 (.t 50)),q4 52 8,q1 53 (.slc 1 (.t 51) (some (.t 52)) .none),q4 54 0,q1 55 (.nilck (.t 54)),q1 56 (.fadr 0 (.t 55)),q1 57 (.load false 1 (.t 56)),q1 58 (.nilck (.t 57)),q1 59 (.fadr 0 (.t 58)),q1 60 (.load false 1 (.t 59)),q1 61 (.load false 1 (.t 3)),q1 62 (.load false 1 (.t 3)),q1 63 (.bin .add (.t 62) (.k (.int .i64 1))),q1 64 (.fadr 0 (.t 6)),q1 65 (.load false 1 (.t 64)),q1 66 (.bin .add (.t 63) (.t 65)),q1 67 (.slc 1 (.t 60) (some (.t 61)) (some (.t 66))),⟨some 68,.copy 1 (.t 53) (.t 67),.none,true,[]⟩] true [0,3,6,8]) (.seq (.reg [q4 69 0,q1 70 (.nilck (.t 69)),q1 71 (.fadr 2 (.t 70)),q1 72 (.fadr 2 (.t 71)),q1 73 (.load false 1 (.t 72)),q1 74 (.fadr 0 (.t 6)),q1 75 (.load false 1 (.t 74)),q1 76 (.bin .add (.k (.int .i64 1)) (.t 75)),q1 77 (.bin .add (.t 73) (.t 76)),q1 78 (.nilck (.t 69)),q1 79 (.fadr 2 (.t 78)),q1 80 (.fadr 2 (.t 79)),⟨.none,.x (.store 1 (.t 80) (.t 77)),.none,true,[]⟩] true [0,3,8]) (.seq (.reg [q4 81 0,q1 82 (.nilck (.t 81)),q1 83 (.fadr 0 (.t 82)),q1 84 (.load false 1 (.t 83)),q1 85 (.nilck (.t 84)),q1 86 (.fadr 0 (.t 85)),q1 87 (.load false 1 (.t 86)),q1 88 (.load false 1 (.t 3)),q4 89 8,q1 90 (.un .neg (.t 89)),q1 91 (.iadr 1 .none (.t 87) (.t 88)),⟨.none,.x (.store 1 (.t 91) (.t 90)),.none,true,[]⟩] true [8]) (.seq (.reg [q4 92 8,q1 4 (.asg (.t 92))] false [4]) (.ret)))))))))⟩
def h71l0:HC:=.seq (.reg [q1 18 (.bin .lss (.t 17) (.t 16))] false [0,1,2,6,16,17,18]) (.seq (.cond (.t 18) (.skip) (.exit 0 []) [0,1,2,6,16,17]) (.seq (.block 1 (.seq (.reg [q4 19 17,q1 8 (.asg (.t 19))] false [0,1,2,6,8,16,17]) (.seq (.reg [q1 20 (.load true 2 (.t 6)),q4 21 8,q1 22 (.call 98 [.t 20,.t 21] [])] false [0,1,2,6,8,16,17,22]) (.cond (.t 22) (.reg [q4 23 2,q4 24 0,q1 25 (.nilck (.t 24)),q1 26 (.fadr 0 (.t 25)),q1 27 (.load false 1 (.t 26)),q4 28 1,q1 29 (.bin .add (.t 28) (.k (.int .i64 1))),q4 30 8,q1 31 (.bin .add (.t 29) (.t 30)),q1 32 (.iadr 1 .none (.t 27) (.t 31)),q1 33 (.callv (.t 23) [.t 32])] false [0,1,2,6,16,17]) (.skip) [0,1,2,6,16,17]))) [0,1,2,6,16,17]) (.reg [q1 34 (.bin .add (.t 17) (.k (.int .i64 1))),q4 17 34] false [0,1,2,6,16,17])))
def h71:HF:=⟨3,[],.seq (.reg [q4 10 0,q4 11 1,q1 12 (.call 22 [.t 10,.t 11] []),q4 9 12,q1 13 (.ext (.t 9) 0),q1 14 (.ext (.t 9) 1),q1 6 (.alloc [.int .i64 0,.int .i64 0]),q2 (.store 2 (.t 6) (.t 13)),q1 7 (.asg (.t 14))] false [0,1,2,6]) (.seq (.reg [q1 15 (.fadr 0 (.t 6)),q1 16 (.load false 1 (.t 15)),q1 17 (.mv (.k (.int .i64 0)))] false [0,1,2,6,16,17]) (.block 0 (.loop h71l0 [0,1,2,6,16,17]) []))⟩
def h72:HF:=⟨2,[],.reg [q4 3 0,q1 4 (.load false 1 (.t 1)),q4 5 0,q1 6 (.nilck (.t 5)),q1 7 (.load false 1 (.t 6)),⟨some 8,.x (.call 70 [.t 4,.t 7] []),.none,true,[]⟩,q1 9 (.nilck (.t 3)),⟨.none,.x (.store 1 (.t 9) (.t 8)),.none,true,[]⟩] true []⟩
def h73:HF:=⟨2,[],.reg [q4 3 0,q1 4 (.load false 1 (.t 1)),q4 5 0,q1 6 (.nilck (.t 5)),q1 7 (.load false 1 (.t 6)),⟨some 8,.x (.call 70 [.t 4,.t 7] []),.none,true,[]⟩,q1 9 (.nilck (.t 3)),⟨.none,.x (.store 1 (.t 9) (.t 8)),.none,true,[]⟩] true []⟩
def h74:HF:=⟨1,[.cell 2 true 2,.tmp 3],.seq (.reg [q1 2 (.alloc [.int .i64 0,.int .i64 0]),q1 3 (.asg (.k (.int .i64 0)))] false [0,2]) (.seq (.seq (.reg [q4 6 0,q1 7 (.bin .lss (.t 6) (.k (.int .i64 0))),q4 8 7,q3 9 (.mv (.t 0)) 8 false,q3 10 (.bin .geq (.t 9) (.k (.int .i64 2097152))) 8 false,q1 11 (.pick (.t 8) (.k (.bool true)) (.t 10))] false [0,2,11]) (.cond (.t 11) (.seq (.reg [q1 12 (.build [.int .i64 0,.int .i64 0] []),q2 (.store 2 (.t 2) (.t 12)),q1 3 (.asg (.k (.int .i64 16)))] false [2,3]) (.ret)) (.skip) [0,2])) (.seq (.reg [q4 13 0,q1 14 (.bin .and (.t 13) (.k (.int .i64 31))),q4 15 0,q1 16 (.bin .shr (.t 15) (.k (.int .u64 5))),q1 17 (.build [.int .i64 0,.int .i64 0] [(0,1,.t 14),(1,1,.t 16)]),q1 4 (.alloc [.int .i64 0,.int .i64 0]),q2 (.store 2 (.t 4) (.t 17))] false [2,4]) (.seq (.seq (.reg [q1 18 (.load true 2 (.t 4)),q1 19 (.call 97 [.t 18] []),q1 5 (.asg (.t 19))] false [2,4,5]) (.seq (.reg [q4 20 5,q1 21 (.bin .neq (.t 20) (.k (.int .i64 0)))] false [2,4,5,21]) (.cond (.t 21) (.seq (.reg [q1 22 (.build [.int .i64 0,.int .i64 0] []),q4 23 5,q2 (.store 2 (.t 2) (.t 22)),q1 3 (.asg (.t 23))] false [2,3]) (.ret)) (.skip) [2,4]))) (.seq (.reg [q1 24 (.load true 2 (.t 4)),q2 (.store 2 (.t 2) (.t 24)),q1 3 (.asg (.k (.int .i64 0)))] false [2,3]) (.ret)))))⟩
def h76l0:HC:=.seq (.seq (.reg [q4 11 6,q1 12 (.fadr 2 (.t 3)),q1 13 (.load false 1 (.t 12)),q1 14 (.bin .lss (.t 11) (.t 13))] false [0,3,5,6,14]) (.cond (.t 14) (.skip) (.exit 0 [5]) [0,3,5,6])) (.block 1 (.seq (.reg [q4 16 0,q4 17 6,q1 18 (.call 22 [.t 16,.t 17] []),q4 15 18,q1 19 (.ext (.t 15) 0),q1 20 (.ext (.t 15) 1),q1 7 (.alloc [.int .i64 0,.int .i64 0]),q2 (.store 2 (.t 7) (.t 19)),q1 8 (.asg (.t 20))] false [0,3,5,6,7,8]) (.seq (.seq (.reg [q4 21 8,q1 22 (.bin .neq (.t 21) (.k (.int .i64 0)))] false [0,3,5,6,7,22]) (.cond (.t 22) (.seq (.reg [q4 23 5,q1 4 (.asg (.t 23))] false [4]) (.ret)) (.skip) [0,3,5,6,7])) (.seq (.reg [q4 24 5,q4 25 6,q1 26 (.bsl 1 1 [.int .i64 0] [(0,1,.t 25)]),q1 27 (.app 1 8 (.t 24) (.t 26)),q1 5 (.asg (.t 27))] false [0,3,5,6,7]) (.reg [q4 28 6,q1 29 (.fadr 0 (.t 7)),q1 30 (.load false 1 (.t 29)),q1 31 (.bin .add (.k (.int .i64 1)) (.t 30)),q1 32 (.bin .add (.t 28) (.t 31)),q1 6 (.asg (.t 32))] false [0,3,5,6])))) [0,3,5,6])
def h76:HF:=⟨2,[.tmp 4],.seq (.reg [q1 3 (.box (.t 1)),q1 4 (.asg (.k (.nils)))] false [0,3]) (.seq (.reg [q1 5 (.asg (.k (.nils)))] false [0,3,5]) (.seq (.seq (.reg [q1 9 (.fadr 0 (.t 3)),q1 10 (.load false 1 (.t 9)),q1 6 (.asg (.t 10))] false [0,3,5,6]) (.block 0 (.loop h76l0 [0,3,5,6]) [5])) (.seq (.reg [q4 33 5,q1 4 (.asg (.t 33))] false [4]) (.ret))))⟩
def h77:HF:=⟨6,[],.seq (.reg [q1 6 (.box (.t 0))] false [1,2,3,4,5,6]) (.seq (.seq (.reg [q1 9 (.load false 1 (.t 1)),q1 10 (.mkfn 79 [.t 6]),q1 11 (.call 78 [.t 9,.t 10] []),q1 12 (.un .not (.t 11)),q4 13 12,q3 14 (.load false 1 (.t 2)) 13 false,q3 15 (.load false 1 (.t 6)) 13 false,q3 16 (.iadr 1 .none (.t 14) (.t 15)) 13 false,q3 17 (.load false 1 (.t 16)) 13 false,q3 18 (.bin .gtr (.t 17) (.k (.int .i64 0))) 13 false,q1 19 (.pick (.t 13) (.k (.bool true)) (.t 18))] false [2,3,4,5,6,19]) (.cond (.t 19) (.ret) (.skip) [2,3,4,5,6])) (.seq (.reg [q1 20 (.load false 1 (.t 2)),q1 21 (.load false 1 (.t 6)),q1 22 (.iadr 1 .none (.t 20) (.t 21)),q2 (.store 1 (.t 22) (.k (.int .i64 1)))] false [3,4,5,6]) (.seq (.reg [q1 23 (.load false 1 (.t 3)),q1 24 (.load false 1 (.t 6)),q1 25 (.bsl 1 1 [.int .i64 0] [(0,1,.t 24)]),q1 26 (.app 1 8 (.t 23) (.t 25)),q2 (.store 1 (.t 3) (.t 26))] false [4,5,6]) (.seq (.reg [q1 28 (.load false 1 (.t 4)),q1 29 (.load false 1 (.t 6)),q1 30 (.call 22 [.t 28,.t 29] []),q4 27 30,q1 31 (.ext (.t 27) 0),q1 32 (.ext (.t 27) 1),q1 7 (.alloc [.int .i64 0,.int .i64 0]),q2 (.store 2 (.t 7) (.t 31)),q1 8 (.asg (.t 32))] false [5,7]) (.reg [q1 33 (.load false 1 (.t 5)),q1 34 (.fadr 0 (.t 7)),q1 35 (.load false 1 (.t 34)),q1 36 (.bin .add (.k (.int .i64 1)) (.t 35)),q1 37 (.bin .add (.t 33) (.t 36)),q2 (.store 1 (.t 5) (.t 37))] false [])))))⟩
def h78:HF:=⟨2,[.tmp 4],.seq (.reg [q1 4 (.asg (.k (.bool false)))] false [0,1]) (.seq (.reg [q4 5 0,q4 6 1,q1 7 (.call 116 [.t 5,.t 6] []),q1 8 (.bin .geq (.t 7) (.k (.int .i64 0))),q1 4 (.asg (.t 8))] false [4]) (.ret))⟩
def h79:HF:=⟨2,[.tmp 3],.seq (.reg [q1 2 (.box (.t 0)),q1 3 (.asg (.k (.bool false)))] false [1,2]) (.seq (.reg [q1 4 (.load true 3 (.t 2)),q1 5 (.load false 1 (.t 1)),q1 6 (.call 67 [.t 4,.t 5] []),q1 3 (.asg (.t 6))] false [3]) (.ret))⟩
def h80:HF:=⟨2,[],.reg [q1 3 (.load false 1 (.t 1)),q4 4 0,q1 5 (.nilck (.t 4)),q1 6 (.load false 1 (.t 5)),⟨some 7,.x (.callv (.t 3) [.t 6]),.none,true,[]⟩] true []⟩
def h81:HF:=⟨2,[],.reg [q1 3 (.load false 1 (.t 1)),q4 4 0,q1 5 (.nilck (.t 4)),q1 6 (.load false 1 (.t 5)),⟨some 7,.x (.callv (.t 3) [.t 6]),.none,true,[]⟩] true []⟩
def h97:HF:=⟨1,[.tmp 2],.seq (.reg [q1 1 (.box (.t 0)),q1 2 (.asg (.k (.int .i64 0)))] false [1]) (.seq (.seq (.reg [q1 3 (.fadr 0 (.t 1)),q1 4 (.load false 1 (.t 3)),q1 5 (.bin .lss (.t 4) (.k (.int .i64 0))),q4 6 5,q3 7 (.fadr 0 (.t 1)) 6 false,q3 8 (.load false 1 (.t 7)) 6 false,q3 9 (.bin .gtr (.t 8) (.k (.int .i64 16))) 6 false,q1 10 (.pick (.t 6) (.k (.bool true)) (.t 9)),q4 11 10,q3 12 (.fadr 1 (.t 1)) 11 false,q3 13 (.load false 1 (.t 12)) 11 false,q3 14 (.bin .lss (.t 13) (.k (.int .i64 0))) 11 false,q1 15 (.pick (.t 11) (.k (.bool true)) (.t 14)),q4 16 15,q3 17 (.fadr 1 (.t 1)) 16 false,q3 18 (.load false 1 (.t 17)) 16 false,q3 19 (.fadr 0 (.t 1)) 16 false,q3 20 (.load false 1 (.t 19)) 16 false,q3 21 (.bin .shl (.k (.int .i64 1)) (.t 20)) 16 false,q3 22 (.bin .geq (.t 18) (.t 21)) 16 false,q1 23 (.pick (.t 16) (.k (.bool true)) (.t 22))] true [23]) (.cond (.t 23) (.seq (.reg [q1 2 (.asg (.k (.int .i64 16)))] false [2]) (.ret)) (.skip) [])) (.seq (.reg [q1 2 (.asg (.k (.int .i64 0)))] false [2]) (.ret)))⟩
def h98:HF:=⟨2,[.tmp 4],.seq (.reg [q1 2 (.box (.t 0)),q1 4 (.asg (.k (.bool false)))] false [1,2]) (.seq (.reg [q4 5 1,q1 6 (.bin .geq (.t 5) (.k (.int .i64 0))),q4 7 6,q3 8 (.mv (.t 1)) 7 true,q3 9 (.fadr 0 (.t 2)) 7 true,q3 10 (.load false 1 (.t 9)) 7 true,q3 11 (.bin .lss (.t 8) (.t 10)) 7 true,q1 12 (.pick (.t 7) (.t 11) (.k (.bool false))),q4 13 12,q3 14 (.fadr 1 (.t 2)) 13 true,⟨some 15,.x (.load false 1 (.t 14)),some (13,true),false,[11]⟩,⟨some 16,.x (.call 120 [] []),some (13,true),true,[]⟩,q3 17 (.mv (.t 1)) 13 true,q3 18 (.idx false 1 16 (.t 16) (.t 17)) 13 true,q3 19 (.bin .and (.t 15) (.t 18)) 13 true,q3 20 (.bin .neq (.t 19) (.k (.int .i64 0))) 13 true,q1 21 (.pick (.t 13) (.t 20) (.k (.bool false))),q1 4 (.asg (.t 21))] true [4]) (.ret))⟩
def h105:HF:=⟨4,[.tmp 8,.tmp 9],.seq (.reg [q1 8 (.asg (.k (.int .i64 0))),q1 9 (.asg (.k (.int .i64 0)))] false [0,1,2,3]) (.seq (.seq (.reg [q4 11 0,q4 12 1,q4 13 2,q4 14 3,q1 15 (.call 126 [.t 11,.t 12,.t 13,.t 14] []),q1 10 (.asg (.t 15))] false [0,1,2,10]) (.seq (.reg [q4 16 10,q1 17 (.bin .neq (.t 16) (.k (.int .i64 0)))] false [0,1,2,10,17]) (.cond (.t 17) (.seq (.reg [q4 18 10,q1 8 (.asg (.k (.int .i64 0))),q1 9 (.asg (.t 18))] false [8,9]) (.ret)) (.skip) [0,1,2]))) (.seq (.reg [q4 19 0,q1 20 (.nilck (.t 19)),q1 21 (.fadr 0 (.t 20)),q1 22 (.load false 1 (.t 21)),q4 23 1,q4 24 2,q1 25 (.call 24 [.t 22,.t 23,.t 24] []),q1 8 (.asg (.t 25)),q1 9 (.asg (.k (.int .i64 0)))] false [8,9]) (.ret)))⟩
def h106:HF:=⟨5,[.tmp 10],.seq (.reg [q1 10 (.asg (.k (.int .i64 0)))] false [0,1,2,3,4]) (.seq (.reg [q4 12 0,q4 13 1,q4 14 2,q4 15 3,q1 16 (.call 126 [.t 12,.t 13,.t 14,.t 15] []),q1 11 (.asg (.t 16))] false [0,1,2,4,11]) (.seq (.seq (.reg [q4 17 11,q1 18 (.bin .eql (.t 17) (.k (.int .i64 0)))] false [0,1,2,4,11,18]) (.cond (.t 18) (.reg [q4 19 0,q1 20 (.nilck (.t 19)),q1 21 (.fadr 0 (.t 20)),q1 22 (.load false 1 (.t 21)),q4 23 1,q4 24 2,q4 25 4,q1 26 (.call 66 [.t 22,.t 23,.t 24,.t 25] [])] false [11]) (.skip) [11])) (.seq (.reg [q4 27 11,q1 10 (.asg (.t 27))] false [10]) (.ret))))⟩
def h107:HF:=⟨1,[.tmp 2],.seq (.reg [q1 2 (.asg (.k (.nils)))] false [0]) (.seq (.reg [q4 4 0,q1 5 (.nilck (.t 4)),q1 6 (.fadr 10 (.t 5)),q1 7 (.load false 1 (.t 6)),q1 8 (.call 127 [.t 7] []),q1 3 (.asg (.t 8))] false [3]) (.seq (.reg [q4 9 3,q1 10 (.call 128 [.t 9] [0])] false [3]) (.seq (.reg [q4 11 3,q1 2 (.asg (.t 11))] false [2]) (.ret))))⟩
def h108:HF:=⟨1,[.tmp 2,.tmp 3],.seq (.reg [q1 2 (.asg (.k (.int .i64 0))),q1 3 (.asg (.k (.int .i64 0)))] false [0]) (.seq (.reg [q4 4 0,q1 5 (.nilck (.t 4)),q1 6 (.fadr 11 (.t 5)),q1 7 (.load false 1 (.t 6)),q4 8 0,q1 9 (.nilck (.t 8)),q1 10 (.fadr 12 (.t 9)),q1 11 (.load false 1 (.t 10)),q1 2 (.asg (.t 7)),q1 3 (.asg (.t 11))] true [2,3]) (.ret))⟩
def h109:HF:=⟨2,[.tmp 4],.seq (.reg [q1 4 (.asg (.k (.bool false)))] false [0,1]) (.seq (.seq (.reg [q4 9 0,q1 10 (.nilck (.t 9)),q1 11 (.fadr 1 (.t 10)),q1 12 (.load true 3 (.t 11)),q4 13 0,q1 14 (.nilck (.t 13)),q1 15 (.fadr 4 (.t 14)),q1 16 (.load true 3 (.t 15)),q1 17 (.bsl 3 2 [.int .i64 0,.int .i64 0,.int .i64 0] [(0,3,.t 12),(3,3,.t 16)]),⟨some 18,.x (.len false (.t 17)),.none,true,[]⟩,q1 19 (.mv (.k (.int .i64 0)))] true [0,1,17,18,19]) (.block 0 (.loop (.seq (.reg [q1 20 (.bin .lss (.t 19) (.t 18))] false [0,1,17,18,19,20]) (.seq (.cond (.t 20) (.skip) (.exit 0 []) [0,1,17,18,19]) (.seq (.block 1 (.seq (.reg [q1 21 (.iadr 3 .none (.t 17) (.t 19)),q1 22 (.load true 3 (.t 21)),q1 6 (.alloc [.int .i64 0,.int .i64 0,.int .i64 0]),q2 (.store 3 (.t 6) (.t 22))] false [0,1,6,17,18,19]) (.seq (.reg [q1 23 (.load true 3 (.t 6)),q4 24 1,q1 25 (.call 67 [.t 23,.t 24] [])] false [0,1,6,17,18,19,25]) (.cond (.t 25) (.seq (.reg [q4 27 0,q1 28 (.nilck (.t 27)),q1 29 (.fadr 0 (.t 28)),q1 30 (.load false 1 (.t 29)),q1 31 (.load true 3 (.t 6)),⟨some 32,.x (.call 76 [.t 30,.t 31] []),.none,true,[]⟩,q4 33 1,⟨some 34,.x (.call 129 [.t 32,.t 33] []),.none,true,[]⟩,q4 26 34,q1 35 (.ext (.t 26) 0),q1 36 (.ext (.t 26) 1),q1 7 (.asg (.t 35)),q1 8 (.asg (.t 36))] true [8]) (.seq (.reg [q4 37 8,q1 4 (.asg (.t 37))] false [4]) (.ret))) (.skip) [0,1,17,18,19]))) [0,1,17,18,19]) (.reg [q1 38 (.bin .add (.t 19) (.k (.int .i64 1))),q4 19 38] false [0,1,17,18,19])))) [0,1,17,18,19]) [])) (.seq (.reg [q1 4 (.asg (.k (.bool false)))] false [4]) (.ret)))⟩
def h110:HF:=⟨3,[.tmp 6],.seq (.reg [q1 6 (.asg (.k (.int .i64 0)))] false [0,1,2]) (.seq (.reg [q4 8 0,q4 9 1,q4 10 2,q1 11 (.call 126 [.t 8,.t 9,.t 10,.k (.bool true)] []),q1 7 (.asg (.t 11))] false [0,1,2,7]) (.seq (.seq (.reg [q4 12 7,q1 13 (.bin .eql (.t 12) (.k (.int .i64 2)))] false [0,1,2,7,13]) (.cond (.t 13) (.reg [q4 14 0,q4 15 1,q4 16 2,q1 17 (.call 126 [.t 14,.t 15,.t 16,.k (.bool false)] []),q1 7 (.asg (.t 17))] false [7]) (.skip) [7])) (.seq (.reg [q4 18 7,q1 6 (.asg (.t 18))] false [6]) (.ret))))⟩
def h111:HF:=⟨2,[.cell 4 true 3],.seq (.reg [q1 4 (.alloc [.int .i64 0,.int .i64 0,.int .i64 0])] false [0,1,4]) (.seq (.reg [q4 5 0,q4 6 0,q4 7 1,q1 8 (.bin .add (.t 6) (.t 7)),q4 9 0,q1 10 (.build [.int .i64 0,.int .i64 0,.int .i64 0] [(0,1,.t 5),(1,1,.t 8),(2,1,.t 9)]),q2 (.store 3 (.t 4) (.t 10))] false [4]) (.ret))⟩
def h113:HF:=⟨1,[.tmp 2],.seq (.reg [q1 1 (.box (.t 0)),q1 2 (.asg (.k (.int .i64 0)))] false [1]) (.seq (.reg [q1 3 (.fadr 1 (.t 1)),q1 4 (.load false 1 (.t 3)),q1 5 (.bin .shl (.t 4) (.k (.int .u64 5))),q1 6 (.fadr 0 (.t 1)),q1 7 (.load false 1 (.t 6)),q1 8 (.bin .or (.t 5) (.t 7)),q1 2 (.asg (.t 8))] false [2]) (.ret))⟩
def h115:HF:=⟨2,[.tmp 3],.seq (.reg [q1 2 (.box (.t 0)),q1 3 (.asg (.k (.bool false)))] false [1,2]) (.seq (.reg [q1 4 (.load true 3 (.t 2)),q1 5 (.load false 1 (.t 1)),q1 6 (.call 67 [.t 4,.t 5] []),q1 3 (.asg (.t 6))] false [3]) (.ret))⟩
def h116l0:HC:=.seq (.reg [q1 9 (.bin .lss (.t 8) (.t 7))] false [0,1,7,8,9]) (.seq (.cond (.t 9) (.skip) (.exit 0 []) [0,1,7,8]) (.seq (.block 1 (.seq (.reg [q4 10 8,q1 5 (.asg (.t 10))] false [0,1,5,7,8]) (.seq (.reg [q4 11 1,q4 12 0,q4 13 5,q1 14 (.iadr 3 .none (.t 12) (.t 13)),q1 15 (.load true 3 (.t 14)),q1 16 (.callv (.t 11) [.t 15])] false [0,1,5,7,8,16]) (.cond (.t 16) (.seq (.reg [q4 17 5,q1 4 (.asg (.t 17))] false [4]) (.ret)) (.skip) [0,1,7,8]))) [0,1,7,8]) (.reg [q1 18 (.bin .add (.t 8) (.k (.int .i64 1))),q4 8 18] false [0,1,7,8])))
def h116:HF:=⟨2,[.tmp 4],.seq (.reg [q1 4 (.asg (.k (.int .i64 0)))] false [0,1]) (.seq (.seq (.reg [q4 6 0,q1 7 (.len false (.t 6)),q1 8 (.mv (.k (.int .i64 0)))] false [0,1,7,8]) (.block 0 (.loop h116l0 [0,1,7,8]) [])) (.seq (.reg [q1 4 (.asg (.k (.int .i64 (-1))))] false [4]) (.ret)))⟩
def h120:HF:=⟨0,[.cell 0 true 16],.seq (.reg [q1 0 (.alloc [.int .i64 0,.int .i64 0,.int .i64 0,.int .i64 0,.int .i64 0,.int .i64 0,.int .i64 0,.int .i64 0,.int .i64 0,.int .i64 0,.int .i64 0,.int .i64 0,.int .i64 0,.int .i64 0,.int .i64 0,.int .i64 0])] false [0]) (.seq (.reg [q1 1 (.build [.int .i64 0,.int .i64 0,.int .i64 0,.int .i64 0,.int .i64 0,.int .i64 0,.int .i64 0,.int .i64 0,.int .i64 0,.int .i64 0,.int .i64 0,.int .i64 0,.int .i64 0,.int .i64 0,.int .i64 0,.int .i64 0] [(0,1,.k (.int .i64 1)),(1,1,.k (.int .i64 2)),(2,1,.k (.int .i64 4)),(3,1,.k (.int .i64 8)),(4,1,.k (.int .i64 16)),(5,1,.k (.int .i64 32)),(6,1,.k (.int .i64 64)),(7,1,.k (.int .i64 128)),(8,1,.k (.int .i64 256)),(9,1,.k (.int .i64 512)),(10,1,.k (.int .i64 1024)),(11,1,.k (.int .i64 2048)),(12,1,.k (.int .i64 4096)),(13,1,.k (.int .i64 8192)),(14,1,.k (.int .i64 16384)),(15,1,.k (.int .i64 32768))]),q2 (.store 16 (.t 0) (.t 1))] false [0]) (.ret))⟩
def h126:HF:=⟨4,[.tmp 8],.seq (.reg [q1 8 (.asg (.k (.int .i64 0)))] false [0,1,2,3]) (.seq (.seq (.reg [q4 11 1,q1 12 (.bin .eql (.t 11) (.k (.int .i64 0)))] false [0,1,2,3,12]) (.cond (.t 12) (.seq (.reg [q1 8 (.asg (.k (.int .i64 1)))] false [8]) (.ret)) (.skip) [0,1,2,3])) (.seq (.reg [q4 14 0,q1 15 (.nilck (.t 14)),q1 16 (.fadr 0 (.t 15)),q1 17 (.load false 1 (.t 16)),q4 18 1,q1 19 (.call 22 [.t 17,.t 18] []),q4 13 19,q1 20 (.ext (.t 13) 0),q1 21 (.ext (.t 13) 1),q1 9 (.alloc [.int .i64 0,.int .i64 0]),q2 (.store 2 (.t 9) (.t 20)),q1 10 (.asg (.t 21))] false [2,3,9,10]) (.seq (.seq (.reg [q4 22 10,q1 23 (.bin .neq (.t 22) (.k (.int .i64 0))),q4 24 23,q3 25 (.mv (.t 2)) 24 false,q3 26 (.bin .lss (.t 25) (.k (.int .i64 0))) 24 false,q1 27 (.pick (.t 24) (.k (.bool true)) (.t 26)),q4 28 27,q3 29 (.mv (.t 2)) 28 false,q3 30 (.fadr 0 (.t 9)) 28 false,q3 31 (.load false 1 (.t 30)) 28 false,q3 32 (.bin .geq (.t 29) (.t 31)) 28 false,q1 33 (.pick (.t 28) (.k (.bool true)) (.t 32)),q4 34 33,q3 35 (.load true 2 (.t 9)) 34 false,q3 36 (.mv (.t 2)) 34 false,q3 37 (.call 98 [.t 35,.t 36] []) 34 false,q3 38 (.mv (.t 3)) 34 false,q3 39 (.beq true (.t 37) (.t 38)) 34 false,q1 40 (.pick (.t 34) (.k (.bool true)) (.t 39))] false [40]) (.cond (.t 40) (.seq (.reg [q1 8 (.asg (.k (.int .i64 2)))] false [8]) (.ret)) (.skip) [])) (.seq (.reg [q1 8 (.asg (.k (.int .i64 0)))] false [8]) (.ret)))))⟩
def h127:HF:=⟨1,[.tmp 2],.seq (.reg [q1 2 (.asg (.k (.nils)))] false [0]) (.seq (.seq (.reg [q4 3 0,⟨some 4,.snil false (.t 3),.none,false,[]⟩] false [0,4]) (.cond (.t 4) (.seq (.reg [q1 2 (.asg (.k (.nils)))] false [2]) (.ret)) (.skip) [0])) (.seq (.reg [q1 5 (.bsl 1 0 [.int .i64 0] []),q4 6 0,q1 7 (.app 1 8 (.t 5) (.t 6)),q1 2 (.asg (.t 7))] false [2]) (.ret)))⟩
def h128:HF:=⟨1,[],.seq (.reg [q4 3 0,q1 4 (.len false (.t 3)),q1 2 (.asg (.t 4))] false [0,2]) (.reg [q4 5 0,q4 6 2,q4 7 2,q1 8 (.conv .u64 (.t 7)),q1 9 (.call 134 [.t 8] []),q1 10 (.call 133 [.t 5,.k (.int .i64 0),.t 6,.t 9] [])] false [])⟩
def h129:HF:=⟨2,[.tmp 4,.tmp 5],.seq (.reg [q1 4 (.asg (.k (.int .i64 0))),q1 5 (.asg (.k (.bool false)))] false [0,1]) (.seq (.reg [q4 10 0,q1 11 (.len false (.t 10)),q1 6 (.asg (.t 11))] false [0,1,6]) (.seq (.reg [q4 12 6,q1 7 (.asg (.k (.int .i64 0))),q1 8 (.asg (.t 12))] false [0,1,6,7,8]) (.seq (.block 0 (.loop (.seq (.seq (.reg [q4 13 7,q4 14 8,q1 15 (.bin .lss (.t 13) (.t 14))] false [0,1,6,7,8,15]) (.cond (.t 15) (.skip) (.exit 0 [0,1,6,7]) [0,1,6,7,8])) (.block 1 (.seq (.reg [q4 16 7,q4 17 8,q1 18 (.bin .add (.t 16) (.t 17)),q1 19 (.conv .u64 (.t 18)),q1 20 (.bin .shr (.t 19) (.k (.int .u64 1))),q1 21 (.conv .i64 (.t 20)),q1 9 (.asg (.t 21))] false [0,1,6,7,8,9]) (.seq (.reg [q4 22 0,q4 23 9,q1 24 (.iadr 1 .none (.t 22) (.t 23)),q1 25 (.load false 1 (.t 24)),q4 26 1,q1 27 (.call 135 [.t 25,.t 26] [])] false [0,1,6,7,8,9,27]) (.cond (.t 27) (.reg [q4 28 9,q1 29 (.bin .add (.t 28) (.k (.int .i64 1))),q1 7 (.asg (.t 29))] false [0,1,6,7,8]) (.reg [q4 30 9,q1 8 (.asg (.t 30))] false [0,1,6,7,8]) [0,1,6,7,8]))) [0,1,6,7,8])) [0,1,6,7,8]) [0,1,6,7]) (.seq (.reg [q4 31 7,q4 32 7,q4 33 6,q1 34 (.bin .lss (.t 32) (.t 33)),q4 35 34,q3 36 (.mv (.t 0)) 35 true,q3 37 (.mv (.t 7)) 35 true,q3 38 (.iadr 1 .none (.t 36) (.t 37)) 35 true,q3 39 (.load false 1 (.t 38)) 35 true,q3 40 (.mv (.t 1)) 35 true,q3 41 (.bin .eql (.t 39) (.t 40)) 35 true,q3 42 (.mv (.t 41)) 35 true,q3 43 (.mv (.t 0)) 42 false,q3 44 (.mv (.t 7)) 42 false,q3 45 (.iadr 1 .none (.t 43) (.t 44)) 42 false,q3 46 (.load false 1 (.t 45)) 42 false,q3 47 (.call 136 [.t 46] []) 42 false,q3 48 (.mv (.t 47)) 42 false,q3 49 (.mv (.t 1)) 48 true,q3 50 (.call 136 [.t 49] []) 48 true,q3 51 (.pick (.t 48) (.t 50) (.k (.bool false))) 42 false,q3 52 (.pick (.t 42) (.k (.bool true)) (.t 51)) 35 true,q1 53 (.pick (.t 35) (.t 52) (.k (.bool false))),q1 4 (.asg (.t 31)),q1 5 (.asg (.t 53))] false [4,5]) (.ret)))))⟩
def h133:HF:=⟨4,[],.seq (.reg [q1 8 (.asg (.k (.bool true)))] false [0,1,2,3,8]) (.seq (.reg [q1 9 (.asg (.k (.bool true)))] false [0,1,2,3,8,9]) (.block 0 (.loop (.block 1 (.seq (.reg [q4 19 2,q4 20 1,q1 21 (.bin .sub (.t 19) (.t 20)),q1 10 (.asg (.t 21))] false [0,1,2,3,8,9,10]) (.seq (.seq (.reg [q4 22 10,q1 23 (.bin .leq (.t 22) (.k (.int .i64 12)))] false [0,1,2,3,8,9,10,23]) (.cond (.t 23) (.seq (.reg [q4 24 0,q4 25 1,q4 26 2,q1 27 (.call 138 [.t 24,.t 25,.t 26] [])] false []) (.ret)) (.skip) [0,1,2,3,8,9,10])) (.seq (.seq (.reg [q4 28 3,q1 29 (.bin .eql (.t 28) (.k (.int .i64 0)))] false [0,1,2,3,8,9,10,29]) (.cond (.t 29) (.seq (.reg [q4 30 0,q4 31 1,q4 32 2,q1 33 (.call 139 [.t 30,.t 31,.t 32] [])] false []) (.ret)) (.skip) [0,1,2,3,8,9,10])) (.seq (.seq (.reg [q4 34 8,q1 35 (.un .not (.t 34))] false [0,1,2,3,8,9,10,35]) (.cond (.t 35) (.seq (.reg [q4 36 0,q4 37 1,q4 38 2,q1 39 (.call 140 [.t 36,.t 37,.t 38] [])] false [0,1,2,3,8,9,10]) (.reg [q4 40 3,q1 41 (.bin .sub (.t 40) (.k (.int .i64 1))),q1 3 (.asg (.t 41))] false [0,1,2,3,8,9,10])) (.skip) [0,1,2,3,8,9,10])) (.seq (.reg [q4 43 0,q4 44 1,q4 45 2,q1 46 (.call 141 [.t 43,.t 44,.t 45] []),q4 42 46,q1 47 (.ext (.t 42) 0),q1 48 (.ext (.t 42) 1),q1 11 (.asg (.t 47)),q1 12 (.asg (.t 48))] false [0,1,2,3,8,9,10,11,12]) (.seq (.seq (.reg [q4 49 12,q1 50 (.bin .eql (.t 49) (.k (.int .i64 2)))] false [0,1,2,3,8,9,10,11,12,50]) (.cond (.t 50) (.seq (.reg [q4 51 0,q4 52 1,q4 53 2,q1 54 (.call 142 [.t 51,.t 52,.t 53] [])] false [0,1,2,3,8,9,10,11]) (.seq (.reg [q4 55 2,q1 56 (.bin .sub (.t 55) (.k (.int .i64 1))),q4 57 11,q4 58 1,q1 59 (.bin .sub (.t 57) (.t 58)),q1 60 (.bin .sub (.t 56) (.t 59)),q1 11 (.asg (.t 60))] false [0,1,2,3,8,9,10,11]) (.reg [q1 12 (.asg (.k (.int .i64 1)))] false [0,1,2,3,8,9,10,11,12]))) (.skip) [0,1,2,3,8,9,10,11,12])) (.seq (.seq (.reg [q4 61 8,q4 62 61,q3 63 (.mv (.t 9)) 62 true,q1 64 (.pick (.t 62) (.t 63) (.k (.bool false))),q4 65 64,q3 66 (.mv (.t 12)) 65 true,q3 67 (.bin .eql (.t 66) (.k (.int .i64 1))) 65 true,q1 68 (.pick (.t 65) (.t 67) (.k (.bool false)))] false [0,1,2,3,8,9,10,11,68]) (.cond (.t 68) (.seq (.reg [q4 69 0,q4 70 1,q4 71 2,q1 72 (.call 143 [.t 69,.t 70,.t 71] [])] false [0,1,2,3,8,9,10,11,72]) (.cond (.t 72) (.ret) (.skip) [0,1,2,3,8,9,10,11])) (.skip) [0,1,2,3,8,9,10,11])) (.seq (.seq (.reg [q4 73 1,q1 74 (.bin .gtr (.t 73) (.k (.int .i64 0))),q4 75 74,q3 76 (.mv (.t 0)) 75 true,q3 77 (.mv (.t 1)) 75 true,q3 78 (.bin .sub (.t 77) (.k (.int .i64 1))) 75 true,q3 79 (.iadr 1 .none (.t 76) (.t 78)) 75 true,q3 80 (.load false 1 (.t 79)) 75 true,q3 81 (.mv (.t 0)) 75 true,q3 82 (.mv (.t 11)) 75 true,q3 83 (.iadr 1 .none (.t 81) (.t 82)) 75 true,q3 84 (.load false 1 (.t 83)) 75 true,⟨some 85,.x (.call 135 [.t 80,.t 84] []),some (75,true),true,[]⟩,q3 86 (.un .not (.t 85)) 75 true,q1 87 (.pick (.t 75) (.t 86) (.k (.bool false)))] true [0,1,2,3,8,9,10,11,87]) (.cond (.t 87) (.seq (.reg [q4 88 0,q4 89 1,q4 90 2,q4 91 11,q1 92 (.call 144 [.t 88,.t 89,.t 90,.t 91] []),q1 13 (.asg (.t 92))] false [0,2,3,8,9,13]) (.seq (.reg [q4 93 13,q1 1 (.asg (.t 93))] false [0,1,2,3,8,9]) (.exit 1 [0,1,2,3,8,9]))) (.skip) [0,1,2,3,10,11])) (.seq (.reg [q4 95 0,q4 96 1,q4 97 2,q4 98 11,q1 99 (.call 145 [.t 95,.t 96,.t 97,.t 98] []),q4 94 99,q1 100 (.ext (.t 94) 0),q1 101 (.ext (.t 94) 1),q1 14 (.asg (.t 100)),q1 15 (.asg (.t 101))] false [0,1,2,3,10,14,15]) (.seq (.reg [q4 102 15,q1 9 (.asg (.t 102))] false [0,1,2,3,9,10,14]) (.seq (.reg [q4 103 14,q4 104 1,q1 105 (.bin .sub (.t 103) (.t 104)),q4 106 2,q4 107 14,q1 108 (.bin .sub (.t 106) (.t 107)),q1 16 (.asg (.t 105)),q1 17 (.asg (.t 108))] false [0,1,2,3,9,10,14,16,17]) (.seq (.reg [q4 109 10,q1 110 (.bin .quo (.t 109) (.k (.int .i64 8))),q1 18 (.asg (.t 110))] false [0,1,2,3,9,14,16,17,18]) (.seq (.reg [q4 111 16,q4 112 17,q1 113 (.bin .lss (.t 111) (.t 112))] false [0,1,2,3,9,14,16,17,18,113]) (.cond (.t 113) (.seq (.reg [q4 114 16,q4 115 18,q1 116 (.bin .geq (.t 114) (.t 115)),q1 8 (.asg (.t 116))] false [0,1,2,3,8,9,14]) (.seq (.reg [q4 117 0,q4 118 1,q4 119 14,q4 120 3,q1 121 (.call 133 [.t 117,.t 118,.t 119,.t 120] [])] false [0,2,3,8,9,14]) (.reg [q4 122 14,q1 123 (.bin .add (.t 122) (.k (.int .i64 1))),q1 1 (.asg (.t 123))] false [0,1,2,3,8,9]))) (.seq (.reg [q4 124 17,q4 125 18,q1 126 (.bin .geq (.t 124) (.t 125)),q1 8 (.asg (.t 126))] false [0,1,2,3,8,9,14]) (.seq (.reg [q4 127 0,q4 128 14,q1 129 (.bin .add (.t 128) (.k (.int .i64 1))),q4 130 2,q4 131 3,q1 132 (.call 133 [.t 127,.t 129,.t 130,.t 131] [])] false [0,1,3,8,9,14]) (.reg [q4 133 14,q1 2 (.asg (.t 133))] false [0,1,2,3,8,9]))) [0,1,2,3,8,9])))))))))))))) [0,1,2,3,8,9]) [0,1,2,3,8,9]) []))⟩
def h134:HF:=⟨1,[.tmp 2],.seq (.reg [q1 2 (.asg (.k (.int .i64 0)))] false [0]) (.seq (.cond (.k (.bool false)) (.seq (.reg [q4 3 0,q1 4 (.conv .u32 (.t 3)),q1 5 (.call 146 [.t 4] []),q1 2 (.asg (.t 5))] false [2]) (.ret)) (.skip) [0]) (.seq (.reg [q4 6 0,q1 7 (.call 147 [.t 6] []),q1 2 (.asg (.t 7))] false [2]) (.ret)))⟩
def h135:HF:=⟨2,[.tmp 4],.seq (.reg [q1 4 (.asg (.k (.bool false)))] false [0,1]) (.seq (.reg [q4 5 0,q1 6 (.call 148 [.t 5] []),q4 7 6,q3 8 (.mv (.t 1)) 7 true,q3 9 (.call 148 [.t 8] []) 7 true,q3 10 (.un .not (.t 9)) 7 true,q1 11 (.pick (.t 7) (.t 10) (.k (.bool false))),q4 12 11,q3 13 (.mv (.t 0)) 12 false,q3 14 (.mv (.t 1)) 12 false,q3 15 (.bin .lss (.t 13) (.t 14)) 12 false,q1 16 (.pick (.t 12) (.k (.bool true)) (.t 15)),q1 4 (.asg (.t 16))] false [4]) (.ret))⟩
def h136:HF:=⟨1,[.tmp 2],.seq (.reg [q1 2 (.asg (.k (.bool false)))] false [0]) (.seq (.reg [q4 3 0,q4 4 0,q1 5 (.bin .neq (.t 3) (.t 4)),q1 2 (.asg (.t 5))] false [2]) (.ret))⟩
def h138:HF:=⟨3,[],.seq (.reg [q4 8 1,q1 9 (.bin .add (.t 8) (.k (.int .i64 1))),q1 6 (.asg (.t 9))] false [0,1,2,6]) (.block 0 (.loop (.seq (.seq (.reg [q4 10 6,q4 11 2,q1 12 (.bin .lss (.t 10) (.t 11))] false [0,1,2,6,12]) (.cond (.t 12) (.skip) (.exit 0 []) [0,1,2,6])) (.seq (.block 1 (.seq (.reg [q4 15 6,q1 7 (.asg (.t 15))] false [0,1,2,6,7]) (.block 2 (.loop (.seq (.seq (.reg [q4 16 7,q4 17 1,q1 18 (.bin .gtr (.t 16) (.t 17)),q4 19 18,q3 20 (.mv (.t 0)) 19 true,q3 21 (.mv (.t 7)) 19 true,q3 22 (.iadr 1 .none (.t 20) (.t 21)) 19 true,q3 23 (.load false 1 (.t 22)) 19 true,q3 24 (.mv (.t 0)) 19 true,q3 25 (.mv (.t 7)) 19 true,q3 26 (.bin .sub (.t 25) (.k (.int .i64 1))) 19 true,q3 27 (.iadr 1 .none (.t 24) (.t 26)) 19 true,q3 28 (.load false 1 (.t 27)) 19 true,⟨some 29,.x (.call 135 [.t 23,.t 28] []),some (19,true),true,[]⟩,q1 30 (.pick (.t 19) (.t 29) (.k (.bool false)))] true [0,1,2,6,7,30]) (.cond (.t 30) (.skip) (.exit 2 [0,1,2,6]) [0,1,2,6,7])) (.seq (.block 3 (.reg [q4 33 0,q4 34 7,q4 35 0,q4 36 7,q1 37 (.bin .sub (.t 36) (.k (.int .i64 1))),q4 38 0,q4 39 7,q1 40 (.bin .sub (.t 39) (.k (.int .i64 1))),q1 41 (.iadr 1 .none (.t 38) (.t 40)),q1 42 (.load false 1 (.t 41)),q4 43 0,q4 44 7,q1 45 (.iadr 1 .none (.t 43) (.t 44)),q1 46 (.load false 1 (.t 45)),q1 47 (.iadr 1 .none (.t 33) (.t 34)),⟨.none,.x (.store 1 (.t 47) (.t 42)),.none,true,[]⟩,q1 48 (.iadr 1 .none (.t 35) (.t 37)),⟨.none,.x (.store 1 (.t 48) (.t 46)),.none,true,[]⟩] true [0,1,2,6,7]) [0,1,2,6,7]) (.reg [q4 31 7,q1 32 (.bin .sub (.t 31) (.k (.int .i64 1))),q1 7 (.asg (.t 32))] false [0,1,2,6,7]))) [0,1,2,6,7]) [0,1,2,6])) [0,1,2,6]) (.reg [q4 13 6,q1 14 (.bin .add (.t 13) (.k (.int .i64 1))),q1 6 (.asg (.t 14))] false [0,1,2,6]))) [0,1,2,6]) [])⟩
def h139:HF:=⟨3,[],.seq (.reg [q4 11 1,q1 6 (.asg (.t 11))] false [0,1,2,6]) (.seq (.reg [q1 7 (.asg (.k (.int .i64 0)))] false [0,1,2,6,7]) (.seq (.reg [q4 12 2,q4 13 1,q1 14 (.bin .sub (.t 12) (.t 13)),q1 8 (.asg (.t 14))] false [0,6,7,8]) (.seq (.seq (.reg [q4 15 8,q1 16 (.bin .sub (.t 15) (.k (.int .i64 1))),q1 17 (.bin .quo (.t 16) (.k (.int .i64 2))),q1 9 (.asg (.t 17))] false [0,6,7,8,9]) (.block 0 (.loop (.seq (.seq (.reg [q4 18 9,q1 19 (.bin .geq (.t 18) (.k (.int .i64 0)))] false [0,6,7,8,9,19]) (.cond (.t 19) (.skip) (.exit 0 [0,6,7,8]) [0,6,7,8,9])) (.seq (.block 1 (.reg [q4 22 0,q4 23 9,q4 24 8,q4 25 6,q1 26 (.call 149 [.t 22,.t 23,.t 24,.t 25] [])] false [0,6,7,8,9]) [0,6,7,8,9]) (.reg [q4 20 9,q1 21 (.bin .sub (.t 20) (.k (.int .i64 1))),q1 9 (.asg (.t 21))] false [0,6,7,8,9]))) [0,6,7,8,9]) [0,6,7,8])) (.seq (.reg [q4 27 8,q1 28 (.bin .sub (.t 27) (.k (.int .i64 1))),q1 10 (.asg (.t 28))] false [0,6,7,10]) (.block 2 (.loop (.seq (.seq (.reg [q4 29 10,q1 30 (.bin .geq (.t 29) (.k (.int .i64 0)))] false [0,6,7,10,30]) (.cond (.t 30) (.skip) (.exit 2 []) [0,6,7,10])) (.seq (.block 3 (.seq (.reg [q4 33 0,q4 34 6,q4 35 0,q4 36 6,q4 37 10,q1 38 (.bin .add (.t 36) (.t 37)),q4 39 0,q4 40 6,q4 41 10,q1 42 (.bin .add (.t 40) (.t 41)),q1 43 (.iadr 1 .none (.t 39) (.t 42)),q1 44 (.load false 1 (.t 43)),q4 45 0,q4 46 6,q1 47 (.iadr 1 .none (.t 45) (.t 46)),q1 48 (.load false 1 (.t 47)),q1 49 (.iadr 1 .none (.t 33) (.t 34)),⟨.none,.x (.store 1 (.t 49) (.t 44)),.none,true,[]⟩,q1 50 (.iadr 1 .none (.t 35) (.t 38)),⟨.none,.x (.store 1 (.t 50) (.t 48)),.none,true,[]⟩] true [0,6,7,10]) (.reg [q4 51 0,q4 52 7,q4 53 10,q4 54 6,q1 55 (.call 149 [.t 51,.t 52,.t 53,.t 54] [])] false [0,6,7,10])) [0,6,7,10]) (.reg [q4 31 10,q1 32 (.bin .sub (.t 31) (.k (.int .i64 1))),q1 10 (.asg (.t 32))] false [0,6,7,10]))) [0,6,7,10]) [])))))⟩
def h140:HF:=⟨3,[],.seq (.reg [q4 11 2,q4 12 1,q1 13 (.bin .sub (.t 11) (.t 12)),q1 6 (.asg (.t 13))] false [0,1,6]) (.seq (.reg [q4 14 6,q1 15 (.bin .geq (.t 14) (.k (.int .i64 8)))] false [0,1,6,15]) (.cond (.t 15) (.seq (.reg [q4 16 6,q1 17 (.conv .u64 (.t 16)),q1 7 (.alloc [.int .u64 0]),q2 (.store 1 (.t 7) (.t 17))] false [0,1,6,7]) (.seq (.reg [q4 18 6,q1 19 (.call 150 [.t 18] []),q1 8 (.asg (.t 19))] false [0,1,6,7,8]) (.seq (.reg [q4 20 1,q4 21 6,q1 22 (.bin .quo (.t 21) (.k (.int .i64 4))),q1 23 (.bin .mul (.t 22) (.k (.int .i64 2))),q1 24 (.bin .add (.t 20) (.t 23)),q1 25 (.bin .sub (.t 24) (.k (.int .i64 1))),q1 9 (.asg (.t 25))] false [0,1,6,7,8,9]) (.block 0 (.loop (.seq (.seq (.reg [q4 26 9,q4 27 1,q4 28 6,q1 29 (.bin .quo (.t 28) (.k (.int .i64 4))),q1 30 (.bin .mul (.t 29) (.k (.int .i64 2))),q1 31 (.bin .add (.t 27) (.t 30)),q1 32 (.bin .add (.t 31) (.k (.int .i64 1))),q1 33 (.bin .leq (.t 26) (.t 32))] false [0,1,6,7,8,9,33]) (.cond (.t 33) (.skip) (.exit 0 []) [0,1,6,7,8,9])) (.seq (.block 1 (.seq (.reg [q1 36 (.call 151 [.t 7] []),q4 37 8,q1 38 (.bin .sub (.t 37) (.k (.int .u64 1))),q1 39 (.bin .and (.t 36) (.t 38)),q1 40 (.conv .i64 (.t 39)),q1 10 (.asg (.t 40))] false [0,1,6,7,8,9,10]) (.seq (.seq (.reg [q4 41 10,q4 42 6,q1 43 (.bin .geq (.t 41) (.t 42))] false [0,1,6,7,8,9,10,43]) (.cond (.t 43) (.reg [q4 44 10,q4 45 6,q1 46 (.bin .sub (.t 44) (.t 45)),q1 10 (.asg (.t 46))] false [0,1,6,7,8,9,10]) (.skip) [0,1,6,7,8,9,10])) (.reg [q4 47 0,q4 48 9,q4 49 0,q4 50 1,q4 51 10,q1 52 (.bin .add (.t 50) (.t 51)),q4 53 0,q4 54 1,q4 55 10,q1 56 (.bin .add (.t 54) (.t 55)),q1 57 (.iadr 1 .none (.t 53) (.t 56)),q1 58 (.load false 1 (.t 57)),q4 59 0,q4 60 9,q1 61 (.iadr 1 .none (.t 59) (.t 60)),q1 62 (.load false 1 (.t 61)),q1 63 (.iadr 1 .none (.t 47) (.t 48)),⟨.none,.x (.store 1 (.t 63) (.t 58)),.none,true,[]⟩,q1 64 (.iadr 1 .none (.t 49) (.t 52)),⟨.none,.x (.store 1 (.t 64) (.t 62)),.none,true,[]⟩] true [0,1,6,7,8,9]))) [0,1,6,7,8,9]) (.reg [q4 34 9,q1 35 (.bin .add (.t 34) (.k (.int .i64 1))),q1 9 (.asg (.t 35))] false [0,1,6,7,8,9]))) [0,1,6,7,8,9]) [])))) (.skip) []))⟩
def h141:HF:=⟨3,[.tmp 6,.tmp 7],.seq (.reg [q1 6 (.asg (.k (.int .i64 0))),q1 7 (.asg (.k (.int .i64 0)))] false [0,1,2]) (.seq (.reg [q4 13 2,q4 14 1,q1 15 (.bin .sub (.t 13) (.t 14)),q1 8 (.asg (.t 15))] false [0,1,8]) (.seq (.reg [q1 9 (.alloc [.int .i64 0])] false [0,1,8,9]) (.seq (.reg [q4 16 1,q4 17 8,q1 18 (.bin .quo (.t 17) (.k (.int .i64 4))),q1 19 (.bin .mul (.t 18) (.k (.int .i64 1))),q1 20 (.bin .add (.t 16) (.t 19)),q1 10 (.asg (.t 20))] false [0,1,8,9,10]) (.seq (.reg [q4 21 1,q4 22 8,q1 23 (.bin .quo (.t 22) (.k (.int .i64 4))),q1 24 (.bin .mul (.t 23) (.k (.int .i64 2))),q1 25 (.bin .add (.t 21) (.t 24)),q1 11 (.asg (.t 25))] false [0,1,8,9,10,11]) (.seq (.reg [q4 26 1,q4 27 8,q1 28 (.bin .quo (.t 27) (.k (.int .i64 4))),q1 29 (.bin .mul (.t 28) (.k (.int .i64 3))),q1 30 (.bin .add (.t 26) (.t 29)),q1 12 (.asg (.t 30))] false [0,8,9,10,11,12]) (.seq (.seq (.reg [q4 31 8,q1 32 (.bin .geq (.t 31) (.k (.int .i64 8)))] false [0,8,9,10,11,12,32]) (.cond (.t 32) (.seq (.seq (.reg [q4 33 8,q1 34 (.bin .geq (.t 33) (.k (.int .i64 50)))] false [0,9,10,11,12,34]) (.cond (.t 34) (.seq (.reg [q4 35 0,q4 36 10,q1 37 (.call 152 [.t 35,.t 36,.t 9] []),q1 10 (.asg (.t 37))] false [0,9,10,11,12]) (.seq (.reg [q4 38 0,q4 39 11,q1 40 (.call 152 [.t 38,.t 39,.t 9] []),q1 11 (.asg (.t 40))] false [0,9,10,11,12]) (.reg [q4 41 0,q4 42 12,q1 43 (.call 152 [.t 41,.t 42,.t 9] []),q1 12 (.asg (.t 43))] false [0,9,10,11,12]))) (.skip) [0,9,10,11,12])) (.reg [q4 44 0,q4 45 10,q4 46 11,q4 47 12,q1 48 (.call 153 [.t 44,.t 45,.t 46,.t 47,.t 9] []),q1 11 (.asg (.t 48))] false [9,11])) (.skip) [9,11])) (.seq (.reg [q1 49 (.load false 1 (.t 9))] false [11,49]) (.block 0 (.seq (.reg [q1 52 (.bin .eql (.t 49) (.k (.int .i64 0))),q1 51 (.asg (.t 52))] false [11,49,51]) (.cond (.t 51) (.seq (.reg [q4 53 11,q1 6 (.asg (.t 53)),q1 7 (.asg (.k (.int .i64 1)))] false [6,7]) (.ret)) (.seq (.reg [q1 55 (.bin .eql (.t 49) (.k (.int .i64 12))),q1 54 (.asg (.t 55))] false [11,54]) (.cond (.t 54) (.seq (.reg [q4 56 11,q1 6 (.asg (.t 56)),q1 7 (.asg (.k (.int .i64 2)))] false [6,7]) (.ret)) (.seq (.reg [q4 50 11,q1 6 (.asg (.t 50)),q1 7 (.asg (.k (.int .i64 0)))] false [6,7]) (.ret)) [6,7])) [6,7])) [6,7]))))))))⟩
def h142:HF:=⟨3,[],.seq (.reg [q4 8 1,q1 6 (.asg (.t 8))] false [0,2,6]) (.seq (.reg [q4 9 2,q1 10 (.bin .sub (.t 9) (.k (.int .i64 1))),q1 7 (.asg (.t 10))] false [0,6,7]) (.block 0 (.loop (.seq (.seq (.reg [q4 11 6,q4 12 7,q1 13 (.bin .lss (.t 11) (.t 12))] false [0,6,7,13]) (.cond (.t 13) (.skip) (.exit 0 []) [0,6,7])) (.block 1 (.seq (.reg [q4 14 0,q4 15 6,q4 16 0,q4 17 7,q4 18 0,q4 19 7,q1 20 (.iadr 1 .none (.t 18) (.t 19)),q1 21 (.load false 1 (.t 20)),q4 22 0,q4 23 6,q1 24 (.iadr 1 .none (.t 22) (.t 23)),q1 25 (.load false 1 (.t 24)),q1 26 (.iadr 1 .none (.t 14) (.t 15)),⟨.none,.x (.store 1 (.t 26) (.t 21)),.none,true,[]⟩,q1 27 (.iadr 1 .none (.t 16) (.t 17)),⟨.none,.x (.store 1 (.t 27) (.t 25)),.none,true,[]⟩] true [0,6,7]) (.seq (.reg [q4 28 6,q1 29 (.bin .add (.t 28) (.k (.int .i64 1))),q1 6 (.asg (.t 29))] false [0,6,7]) (.reg [q4 30 7,q1 31 (.bin .sub (.t 30) (.k (.int .i64 1))),q1 7 (.asg (.t 31))] false [0,6,7]))) [0,6,7])) [0,6,7]) []))⟩
def h143:HF:=⟨3,[.tmp 6],.seq (.reg [q1 6 (.asg (.k (.bool false)))] false [0,1,2]) (.seq (.reg [q4 11 1,q1 12 (.bin .add (.t 11) (.k (.int .i64 1))),q1 7 (.asg (.t 12))] false [0,1,2,7]) (.seq (.seq (.reg [q1 8 (.asg (.k (.int .i64 0)))] false [0,1,2,7,8]) (.block 0 (.loop (.seq (.seq (.reg [q4 13 8,q1 14 (.bin .lss (.t 13) (.k (.int .i64 5)))] false [0,1,2,7,8,14]) (.cond (.t 14) (.skip) (.exit 0 []) [0,1,2,7,8])) (.seq (.block 1 (.seq (.block 2 (.loop (.seq (.seq (.reg [q4 17 7,q4 18 2,q1 19 (.bin .lss (.t 17) (.t 18)),q4 20 19,q3 21 (.mv (.t 0)) 20 true,q3 22 (.mv (.t 7)) 20 true,q3 23 (.iadr 1 .none (.t 21) (.t 22)) 20 true,q3 24 (.load false 1 (.t 23)) 20 true,q3 25 (.mv (.t 0)) 20 true,q3 26 (.mv (.t 7)) 20 true,q3 27 (.bin .sub (.t 26) (.k (.int .i64 1))) 20 true,q3 28 (.iadr 1 .none (.t 25) (.t 27)) 20 true,q3 29 (.load false 1 (.t 28)) 20 true,⟨some 30,.x (.call 135 [.t 24,.t 29] []),some (20,true),true,[]⟩,q3 31 (.un .not (.t 30)) 20 true,q1 32 (.pick (.t 20) (.t 31) (.k (.bool false)))] true [0,1,2,7,8,32]) (.cond (.t 32) (.skip) (.exit 2 [0,1,2,7,8]) [0,1,2,7,8])) (.block 3 (.reg [q4 33 7,q1 34 (.bin .add (.t 33) (.k (.int .i64 1))),q1 7 (.asg (.t 34))] false [0,1,2,7,8]) [0,1,2,7,8])) [0,1,2,7,8]) [0,1,2,7,8]) (.seq (.seq (.reg [q4 35 7,q4 36 2,q1 37 (.bin .eql (.t 35) (.t 36))] false [0,1,2,7,8,37]) (.cond (.t 37) (.seq (.reg [q1 6 (.asg (.k (.bool true)))] false [6]) (.ret)) (.skip) [0,1,2,7,8])) (.seq (.seq (.reg [q4 38 2,q4 39 1,q1 40 (.bin .sub (.t 38) (.t 39)),q1 41 (.bin .lss (.t 40) (.k (.int .i64 50)))] false [0,1,2,7,8,41]) (.cond (.t 41) (.seq (.reg [q1 6 (.asg (.k (.bool false)))] false [6]) (.ret)) (.skip) [0,1,2,7,8])) (.seq (.reg [q4 42 0,q4 43 7,q4 44 0,q4 45 7,q1 46 (.bin .sub (.t 45) (.k (.int .i64 1))),q4 47 0,q4 48 7,q1 49 (.bin .sub (.t 48) (.k (.int .i64 1))),q1 50 (.iadr 1 .none (.t 47) (.t 49)),q1 51 (.load false 1 (.t 50)),q4 52 0,q4 53 7,q1 54 (.iadr 1 .none (.t 52) (.t 53)),q1 55 (.load false 1 (.t 54)),q1 56 (.iadr 1 .none (.t 42) (.t 43)),⟨.none,.x (.store 1 (.t 56) (.t 51)),.none,true,[]⟩,q1 57 (.iadr 1 .none (.t 44) (.t 46)),⟨.none,.x (.store 1 (.t 57) (.t 55)),.none,true,[]⟩] true [0,1,2,7,8]) (.seq (.seq (.reg [q4 58 7,q4 59 1,q1 60 (.bin .sub (.t 58) (.t 59)),q1 61 (.bin .geq (.t 60) (.k (.int .i64 2)))] false [0,1,2,7,8,61]) (.cond (.t 61) (.seq (.reg [q4 62 7,q1 63 (.bin .sub (.t 62) (.k (.int .i64 1))),q1 9 (.asg (.t 63))] false [0,1,2,7,8,9]) (.block 4 (.loop (.seq (.seq (.reg [q4 64 9,q1 65 (.bin .geq (.t 64) (.k (.int .i64 1)))] false [0,1,2,7,8,9,65]) (.cond (.t 65) (.skip) (.exit 4 [0,1,2,7,8]) [0,1,2,7,8,9])) (.seq (.block 5 (.seq (.seq (.reg [q4 68 0,q4 69 9,q1 70 (.iadr 1 .none (.t 68) (.t 69)),q1 71 (.load false 1 (.t 70)),q4 72 0,q4 73 9,q1 74 (.bin .sub (.t 73) (.k (.int .i64 1))),q1 75 (.iadr 1 .none (.t 72) (.t 74)),q1 76 (.load false 1 (.t 75)),⟨some 77,.x (.call 135 [.t 71,.t 76] []),.none,true,[]⟩,q1 78 (.un .not (.t 77))] true [0,1,2,7,8,9,78]) (.cond (.t 78) (.exit 4 [0,1,2,7,8]) (.skip) [0,1,2,7,8,9])) (.reg [q4 79 0,q4 80 9,q4 81 0,q4 82 9,q1 83 (.bin .sub (.t 82) (.k (.int .i64 1))),q4 84 0,q4 85 9,q1 86 (.bin .sub (.t 85) (.k (.int .i64 1))),q1 87 (.iadr 1 .none (.t 84) (.t 86)),q1 88 (.load false 1 (.t 87)),q4 89 0,q4 90 9,q1 91 (.iadr 1 .none (.t 89) (.t 90)),q1 92 (.load false 1 (.t 91)),q1 93 (.iadr 1 .none (.t 79) (.t 80)),⟨.none,.x (.store 1 (.t 93) (.t 88)),.none,true,[]⟩,q1 94 (.iadr 1 .none (.t 81) (.t 83)),⟨.none,.x (.store 1 (.t 94) (.t 92)),.none,true,[]⟩] true [0,1,2,7,8,9])) [0,1,2,7,8,9]) (.reg [q4 66 9,q1 67 (.bin .sub (.t 66) (.k (.int .i64 1))),q1 9 (.asg (.t 67))] false [0,1,2,7,8,9]))) [0,1,2,7,8,9]) [0,1,2,7,8])) (.skip) [0,1,2,7,8])) (.seq (.reg [q4 95 2,q4 96 7,q1 97 (.bin .sub (.t 95) (.t 96)),q1 98 (.bin .geq (.t 97) (.k (.int .i64 2)))] false [0,1,2,7,8,98]) (.cond (.t 98) (.seq (.reg [q4 99 7,q1 100 (.bin .add (.t 99) (.k (.int .i64 1))),q1 10 (.asg (.t 100))] false [0,1,2,7,8,10]) (.block 6 (.loop (.seq (.seq (.reg [q4 101 10,q4 102 2,q1 103 (.bin .lss (.t 101) (.t 102))] false [0,1,2,7,8,10,103]) (.cond (.t 103) (.skip) (.exit 6 [0,1,2,7,8]) [0,1,2,7,8,10])) (.seq (.block 7 (.seq (.seq (.reg [q4 106 0,q4 107 10,q1 108 (.iadr 1 .none (.t 106) (.t 107)),q1 109 (.load false 1 (.t 108)),q4 110 0,q4 111 10,q1 112 (.bin .sub (.t 111) (.k (.int .i64 1))),q1 113 (.iadr 1 .none (.t 110) (.t 112)),q1 114 (.load false 1 (.t 113)),⟨some 115,.x (.call 135 [.t 109,.t 114] []),.none,true,[]⟩,q1 116 (.un .not (.t 115))] true [0,1,2,7,8,10,116]) (.cond (.t 116) (.exit 6 [0,1,2,7,8]) (.skip) [0,1,2,7,8,10])) (.reg [q4 117 0,q4 118 10,q4 119 0,q4 120 10,q1 121 (.bin .sub (.t 120) (.k (.int .i64 1))),q4 122 0,q4 123 10,q1 124 (.bin .sub (.t 123) (.k (.int .i64 1))),q1 125 (.iadr 1 .none (.t 122) (.t 124)),q1 126 (.load false 1 (.t 125)),q4 127 0,q4 128 10,q1 129 (.iadr 1 .none (.t 127) (.t 128)),q1 130 (.load false 1 (.t 129)),q1 131 (.iadr 1 .none (.t 117) (.t 118)),⟨.none,.x (.store 1 (.t 131) (.t 126)),.none,true,[]⟩,q1 132 (.iadr 1 .none (.t 119) (.t 121)),⟨.none,.x (.store 1 (.t 132) (.t 130)),.none,true,[]⟩] true [0,1,2,7,8,10])) [0,1,2,7,8,10]) (.reg [q4 104 10,q1 105 (.bin .add (.t 104) (.k (.int .i64 1))),q1 10 (.asg (.t 105))] false [0,1,2,7,8,10]))) [0,1,2,7,8,10]) [0,1,2,7,8])) (.skip) [0,1,2,7,8]))))))) [0,1,2,7,8]) (.reg [q4 15 8,q1 16 (.bin .add (.t 15) (.k (.int .i64 1))),q1 8 (.asg (.t 16))] false [0,1,2,7,8]))) [0,1,2,7,8]) [])) (.seq (.reg [q1 6 (.asg (.k (.bool false)))] false [6]) (.ret))))⟩
def h144:HF:=⟨4,[.tmp 8],.seq (.reg [q1 8 (.asg (.k (.int .i64 0)))] false [0,1,2,3]) (.seq (.reg [q4 11 0,q4 12 1,q4 13 0,q4 14 3,q4 15 0,q4 16 3,q1 17 (.iadr 1 .none (.t 15) (.t 16)),q1 18 (.load false 1 (.t 17)),q4 19 0,q4 20 1,q1 21 (.iadr 1 .none (.t 19) (.t 20)),q1 22 (.load false 1 (.t 21)),q1 23 (.iadr 1 .none (.t 11) (.t 12)),⟨.none,.x (.store 1 (.t 23) (.t 18)),.none,true,[]⟩,q1 24 (.iadr 1 .none (.t 13) (.t 14)),⟨.none,.x (.store 1 (.t 24) (.t 22)),.none,true,[]⟩] true [0,1,2]) (.seq (.reg [q4 25 1,q1 26 (.bin .add (.t 25) (.k (.int .i64 1))),q4 27 2,q1 28 (.bin .sub (.t 27) (.k (.int .i64 1))),q1 9 (.asg (.t 26)),q1 10 (.asg (.t 28))] false [0,1,9,10]) (.seq (.block 0 (.loop (.block 1 (.seq (.block 2 (.loop (.seq (.seq (.reg [q4 29 9,q4 30 10,q1 31 (.bin .leq (.t 29) (.t 30)),q4 32 31,q3 33 (.mv (.t 0)) 32 true,q3 34 (.mv (.t 1)) 32 true,q3 35 (.iadr 1 .none (.t 33) (.t 34)) 32 true,q3 36 (.load false 1 (.t 35)) 32 true,q3 37 (.mv (.t 0)) 32 true,q3 38 (.mv (.t 9)) 32 true,q3 39 (.iadr 1 .none (.t 37) (.t 38)) 32 true,q3 40 (.load false 1 (.t 39)) 32 true,⟨some 41,.x (.call 135 [.t 36,.t 40] []),some (32,true),true,[]⟩,q3 42 (.un .not (.t 41)) 32 true,q1 43 (.pick (.t 32) (.t 42) (.k (.bool false)))] true [0,1,9,10,43]) (.cond (.t 43) (.skip) (.exit 2 [0,1,9,10]) [0,1,9,10])) (.block 3 (.reg [q4 44 9,q1 45 (.bin .add (.t 44) (.k (.int .i64 1))),q1 9 (.asg (.t 45))] false [0,1,9,10]) [0,1,9,10])) [0,1,9,10]) [0,1,9,10]) (.seq (.block 4 (.loop (.seq (.seq (.reg [q4 46 9,q4 47 10,q1 48 (.bin .leq (.t 46) (.t 47)),q4 49 48,q3 50 (.mv (.t 0)) 49 true,q3 51 (.mv (.t 1)) 49 true,q3 52 (.iadr 1 .none (.t 50) (.t 51)) 49 true,q3 53 (.load false 1 (.t 52)) 49 true,q3 54 (.mv (.t 0)) 49 true,q3 55 (.mv (.t 10)) 49 true,q3 56 (.iadr 1 .none (.t 54) (.t 55)) 49 true,q3 57 (.load false 1 (.t 56)) 49 true,⟨some 58,.x (.call 135 [.t 53,.t 57] []),some (49,true),true,[]⟩,q1 59 (.pick (.t 49) (.t 58) (.k (.bool false)))] true [0,1,9,10,59]) (.cond (.t 59) (.skip) (.exit 4 [0,1,9,10]) [0,1,9,10])) (.block 5 (.reg [q4 60 10,q1 61 (.bin .sub (.t 60) (.k (.int .i64 1))),q1 10 (.asg (.t 61))] false [0,1,9,10]) [0,1,9,10])) [0,1,9,10]) [0,1,9,10]) (.seq (.seq (.reg [q4 62 9,q4 63 10,q1 64 (.bin .gtr (.t 62) (.t 63))] false [0,1,9,10,64]) (.cond (.t 64) (.exit 0 [9]) (.skip) [0,1,9,10])) (.seq (.reg [q4 65 0,q4 66 9,q4 67 0,q4 68 10,q4 69 0,q4 70 10,q1 71 (.iadr 1 .none (.t 69) (.t 70)),q1 72 (.load false 1 (.t 71)),q4 73 0,q4 74 9,q1 75 (.iadr 1 .none (.t 73) (.t 74)),q1 76 (.load false 1 (.t 75)),q1 77 (.iadr 1 .none (.t 65) (.t 66)),⟨.none,.x (.store 1 (.t 77) (.t 72)),.none,true,[]⟩,q1 78 (.iadr 1 .none (.t 67) (.t 68)),⟨.none,.x (.store 1 (.t 78) (.t 76)),.none,true,[]⟩] true [0,1,9,10]) (.seq (.reg [q4 79 9,q1 80 (.bin .add (.t 79) (.k (.int .i64 1))),q1 9 (.asg (.t 80))] false [0,1,9,10]) (.reg [q4 81 10,q1 82 (.bin .sub (.t 81) (.k (.int .i64 1))),q1 10 (.asg (.t 82))] false [0,1,9,10])))))) [0,1,9,10]) [0,1,9,10]) [9]) (.seq (.reg [q4 83 9,q1 8 (.asg (.t 83))] false [8]) (.ret)))))⟩
def h145:HF:=⟨4,[.tmp 8,.tmp 9],.seq (.reg [q1 8 (.asg (.k (.int .i64 0))),q1 9 (.asg (.k (.bool false)))] false [0,1,2,3]) (.seq (.reg [q4 12 0,q4 13 1,q4 14 0,q4 15 3,q4 16 0,q4 17 3,q1 18 (.iadr 1 .none (.t 16) (.t 17)),q1 19 (.load false 1 (.t 18)),q4 20 0,q4 21 1,q1 22 (.iadr 1 .none (.t 20) (.t 21)),q1 23 (.load false 1 (.t 22)),q1 24 (.iadr 1 .none (.t 12) (.t 13)),⟨.none,.x (.store 1 (.t 24) (.t 19)),.none,true,[]⟩,q1 25 (.iadr 1 .none (.t 14) (.t 15)),⟨.none,.x (.store 1 (.t 25) (.t 23)),.none,true,[]⟩] true [0,1,2]) (.seq (.reg [q4 26 1,q1 27 (.bin .add (.t 26) (.k (.int .i64 1))),q4 28 2,q1 29 (.bin .sub (.t 28) (.k (.int .i64 1))),q1 10 (.asg (.t 27)),q1 11 (.asg (.t 29))] false [0,1,10,11]) (.seq (.block 0 (.loop (.seq (.seq (.reg [q4 30 10,q4 31 11,q1 32 (.bin .leq (.t 30) (.t 31)),q4 33 32,q3 34 (.mv (.t 0)) 33 true,q3 35 (.mv (.t 10)) 33 true,q3 36 (.iadr 1 .none (.t 34) (.t 35)) 33 true,q3 37 (.load false 1 (.t 36)) 33 true,q3 38 (.mv (.t 0)) 33 true,q3 39 (.mv (.t 1)) 33 true,q3 40 (.iadr 1 .none (.t 38) (.t 39)) 33 true,q3 41 (.load false 1 (.t 40)) 33 true,⟨some 42,.x (.call 135 [.t 37,.t 41] []),some (33,true),true,[]⟩,q1 43 (.pick (.t 33) (.t 42) (.k (.bool false)))] true [0,1,10,11,43]) (.cond (.t 43) (.skip) (.exit 0 [0,1,10,11]) [0,1,10,11])) (.block 1 (.reg [q4 44 10,q1 45 (.bin .add (.t 44) (.k (.int .i64 1))),q1 10 (.asg (.t 45))] false [0,1,10,11]) [0,1,10,11])) [0,1,10,11]) [0,1,10,11]) (.seq (.block 2 (.loop (.seq (.seq (.reg [q4 46 10,q4 47 11,q1 48 (.bin .leq (.t 46) (.t 47)),q4 49 48,q3 50 (.mv (.t 0)) 49 true,q3 51 (.mv (.t 11)) 49 true,q3 52 (.iadr 1 .none (.t 50) (.t 51)) 49 true,q3 53 (.load false 1 (.t 52)) 49 true,q3 54 (.mv (.t 0)) 49 true,q3 55 (.mv (.t 1)) 49 true,q3 56 (.iadr 1 .none (.t 54) (.t 55)) 49 true,q3 57 (.load false 1 (.t 56)) 49 true,⟨some 58,.x (.call 135 [.t 53,.t 57] []),some (49,true),true,[]⟩,q3 59 (.un .not (.t 58)) 49 true,q1 60 (.pick (.t 49) (.t 59) (.k (.bool false)))] true [0,1,10,11,60]) (.cond (.t 60) (.skip) (.exit 2 [0,1,10,11]) [0,1,10,11])) (.block 3 (.reg [q4 61 11,q1 62 (.bin .sub (.t 61) (.k (.int .i64 1))),q1 11 (.asg (.t 62))] false [0,1,10,11]) [0,1,10,11])) [0,1,10,11]) [0,1,10,11]) (.seq (.seq (.reg [q4 63 10,q4 64 11,q1 65 (.bin .gtr (.t 63) (.t 64))] false [0,1,10,11,65]) (.cond (.t 65) (.seq (.reg [q4 66 0,q4 67 11,q4 68 0,q4 69 1,q4 70 0,q4 71 1,q1 72 (.iadr 1 .none (.t 70) (.t 71)),q1 73 (.load false 1 (.t 72)),q4 74 0,q4 75 11,q1 76 (.iadr 1 .none (.t 74) (.t 75)),q1 77 (.load false 1 (.t 76)),q1 78 (.iadr 1 .none (.t 66) (.t 67)),⟨.none,.x (.store 1 (.t 78) (.t 73)),.none,true,[]⟩,q1 79 (.iadr 1 .none (.t 68) (.t 69)),⟨.none,.x (.store 1 (.t 79) (.t 77)),.none,true,[]⟩] true [11]) (.seq (.reg [q4 80 11,q1 8 (.asg (.t 80)),q1 9 (.asg (.k (.bool true)))] false [8,9]) (.ret))) (.skip) [0,1,10,11])) (.seq (.reg [q4 81 0,q4 82 10,q4 83 0,q4 84 11,q4 85 0,q4 86 11,q1 87 (.iadr 1 .none (.t 85) (.t 86)),q1 88 (.load false 1 (.t 87)),q4 89 0,q4 90 10,q1 91 (.iadr 1 .none (.t 89) (.t 90)),q1 92 (.load false 1 (.t 91)),q1 93 (.iadr 1 .none (.t 81) (.t 82)),⟨.none,.x (.store 1 (.t 93) (.t 88)),.none,true,[]⟩,q1 94 (.iadr 1 .none (.t 83) (.t 84)),⟨.none,.x (.store 1 (.t 94) (.t 92)),.none,true,[]⟩] true [0,1,10,11]) (.seq (.reg [q4 95 10,q1 96 (.bin .add (.t 95) (.k (.int .i64 1))),q1 10 (.asg (.t 96))] false [0,1,10,11]) (.seq (.reg [q4 97 11,q1 98 (.bin .sub (.t 97) (.k (.int .i64 1))),q1 11 (.asg (.t 98))] false [0,1,10,11]) (.seq (.block 4 (.loop (.block 5 (.seq (.block 6 (.loop (.seq (.seq (.reg [q4 99 10,q4 100 11,q1 101 (.bin .leq (.t 99) (.t 100)),q4 102 101,q3 103 (.mv (.t 0)) 102 true,q3 104 (.mv (.t 10)) 102 true,q3 105 (.iadr 1 .none (.t 103) (.t 104)) 102 true,q3 106 (.load false 1 (.t 105)) 102 true,q3 107 (.mv (.t 0)) 102 true,q3 108 (.mv (.t 1)) 102 true,q3 109 (.iadr 1 .none (.t 107) (.t 108)) 102 true,q3 110 (.load false 1 (.t 109)) 102 true,⟨some 111,.x (.call 135 [.t 106,.t 110] []),some (102,true),true,[]⟩,q1 112 (.pick (.t 102) (.t 111) (.k (.bool false)))] true [0,1,10,11,112]) (.cond (.t 112) (.skip) (.exit 6 [0,1,10,11]) [0,1,10,11])) (.block 7 (.reg [q4 113 10,q1 114 (.bin .add (.t 113) (.k (.int .i64 1))),q1 10 (.asg (.t 114))] false [0,1,10,11]) [0,1,10,11])) [0,1,10,11]) [0,1,10,11]) (.seq (.block 8 (.loop (.seq (.seq (.reg [q4 115 10,q4 116 11,q1 117 (.bin .leq (.t 115) (.t 116)),q4 118 117,q3 119 (.mv (.t 0)) 118 true,q3 120 (.mv (.t 11)) 118 true,q3 121 (.iadr 1 .none (.t 119) (.t 120)) 118 true,q3 122 (.load false 1 (.t 121)) 118 true,q3 123 (.mv (.t 0)) 118 true,q3 124 (.mv (.t 1)) 118 true,q3 125 (.iadr 1 .none (.t 123) (.t 124)) 118 true,q3 126 (.load false 1 (.t 125)) 118 true,⟨some 127,.x (.call 135 [.t 122,.t 126] []),some (118,true),true,[]⟩,q3 128 (.un .not (.t 127)) 118 true,q1 129 (.pick (.t 118) (.t 128) (.k (.bool false)))] true [0,1,10,11,129]) (.cond (.t 129) (.skip) (.exit 8 [0,1,10,11]) [0,1,10,11])) (.block 9 (.reg [q4 130 11,q1 131 (.bin .sub (.t 130) (.k (.int .i64 1))),q1 11 (.asg (.t 131))] false [0,1,10,11]) [0,1,10,11])) [0,1,10,11]) [0,1,10,11]) (.seq (.seq (.reg [q4 132 10,q4 133 11,q1 134 (.bin .gtr (.t 132) (.t 133))] false [0,1,10,11,134]) (.cond (.t 134) (.exit 4 [0,1,11]) (.skip) [0,1,10,11])) (.seq (.reg [q4 135 0,q4 136 10,q4 137 0,q4 138 11,q4 139 0,q4 140 11,q1 141 (.iadr 1 .none (.t 139) (.t 140)),q1 142 (.load false 1 (.t 141)),q4 143 0,q4 144 10,q1 145 (.iadr 1 .none (.t 143) (.t 144)),q1 146 (.load false 1 (.t 145)),q1 147 (.iadr 1 .none (.t 135) (.t 136)),⟨.none,.x (.store 1 (.t 147) (.t 142)),.none,true,[]⟩,q1 148 (.iadr 1 .none (.t 137) (.t 138)),⟨.none,.x (.store 1 (.t 148) (.t 146)),.none,true,[]⟩] true [0,1,10,11]) (.seq (.reg [q4 149 10,q1 150 (.bin .add (.t 149) (.k (.int .i64 1))),q1 10 (.asg (.t 150))] false [0,1,10,11]) (.reg [q4 151 11,q1 152 (.bin .sub (.t 151) (.k (.int .i64 1))),q1 11 (.asg (.t 152))] false [0,1,10,11])))))) [0,1,10,11]) [0,1,10,11]) [0,1,11]) (.seq (.reg [q4 153 0,q4 154 11,q4 155 0,q4 156 1,q4 157 0,q4 158 1,q1 159 (.iadr 1 .none (.t 157) (.t 158)),q1 160 (.load false 1 (.t 159)),q4 161 0,q4 162 11,q1 163 (.iadr 1 .none (.t 161) (.t 162)),q1 164 (.load false 1 (.t 163)),q1 165 (.iadr 1 .none (.t 153) (.t 154)),⟨.none,.x (.store 1 (.t 165) (.t 160)),.none,true,[]⟩,q1 166 (.iadr 1 .none (.t 155) (.t 156)),⟨.none,.x (.store 1 (.t 166) (.t 164)),.none,true,[]⟩] true [11]) (.seq (.reg [q4 167 11,q1 8 (.asg (.t 167)),q1 9 (.asg (.k (.bool false)))] false [8,9]) (.ret))))))))))))⟩
def h146:HF:=⟨1,[.tmp 2],.seq (.reg [q1 2 (.asg (.k (.int .i64 0)))] false [0,2]) (.seq (.seq (.reg [q4 3 0,q1 4 (.bin .geq (.t 3) (.k (.int .u32 65536)))] false [0,2,4]) (.cond (.t 4) (.seq (.reg [q4 5 0,q1 6 (.bin .shr (.t 5) (.k (.int .u64 16))),q1 0 (.asg (.t 6))] false [0]) (.reg [q1 2 (.asg (.k (.int .i64 16)))] false [0,2])) (.skip) [0,2])) (.seq (.seq (.reg [q4 7 0,q1 8 (.bin .geq (.t 7) (.k (.int .u32 256)))] false [0,2,8]) (.cond (.t 8) (.seq (.reg [q4 9 0,q1 10 (.bin .shr (.t 9) (.k (.int .u64 8))),q1 0 (.asg (.t 10))] false [0,2]) (.reg [q4 11 2,q1 12 (.bin .add (.t 11) (.k (.int .i64 8))),q1 2 (.asg (.t 12))] false [0,2])) (.skip) [0,2])) (.seq (.reg [q4 13 2,q4 14 0,q1 15 (.conv .u8 (.t 14)),q1 16 (.idxs (.k (.str [0,1,2,2,3,3,3,3,4,4,4,4,4,4,4,4,5,5,5,5,5,5,5,5,5,5,5,5,5,5,5,5,6,6,6,6,6,6,6,6,6,6,6,6,6,6,6,6,6,6,6,6,6,6,6,6,6,6,6,6,6,6,6,6,7,7,7,7,7,7,7,7,7,7,7,7,7,7,7,7,7,7,7,7,7,7,7,7,7,7,7,7,7,7,7,7,7,7,7,7,7,7,7,7,7,7,7,7,7,7,7,7,7,7,7,7,7,7,7,7,7,7,7,7,7,7,7,7,8,8,8,8,8,8,8,8,8,8,8,8,8,8,8,8,8,8,8,8,8,8,8,8,8,8,8,8,8,8,8,8,8,8,8,8,8,8,8,8,8,8,8,8,8,8,8,8,8,8,8,8,8,8,8,8,8,8,8,8,8,8,8,8,8,8,8,8,8,8,8,8,8,8,8,8,8,8,8,8,8,8,8,8,8,8,8,8,8,8,8,8,8,8,8,8,8,8,8,8,8,8,8,8,8,8,8,8,8,8,8,8,8,8,8,8,8,8,8,8,8,8,8,8,8,8,8,8])) (.t 15)),q1 17 (.conv .i64 (.t 16)),q1 18 (.bin .add (.t 13) (.t 17)),q1 2 (.asg (.t 18))] false [2]) (.ret))))⟩
def h147:HF:=⟨1,[.tmp 2],.seq (.reg [q1 2 (.asg (.k (.int .i64 0)))] false [0,2]) (.seq (.seq (.reg [q4 3 0,q1 4 (.bin .geq (.t 3) (.k (.int .u64 4294967296)))] false [0,2,4]) (.cond (.t 4) (.seq (.reg [q4 5 0,q1 6 (.bin .shr (.t 5) (.k (.int .u64 32))),q1 0 (.asg (.t 6))] false [0]) (.reg [q1 2 (.asg (.k (.int .i64 32)))] false [0,2])) (.skip) [0,2])) (.seq (.seq (.reg [q4 7 0,q1 8 (.bin .geq (.t 7) (.k (.int .u64 65536)))] false [0,2,8]) (.cond (.t 8) (.seq (.reg [q4 9 0,q1 10 (.bin .shr (.t 9) (.k (.int .u64 16))),q1 0 (.asg (.t 10))] false [0,2]) (.reg [q4 11 2,q1 12 (.bin .add (.t 11) (.k (.int .i64 16))),q1 2 (.asg (.t 12))] false [0,2])) (.skip) [0,2])) (.seq (.seq (.reg [q4 13 0,q1 14 (.bin .geq (.t 13) (.k (.int .u64 256)))] false [0,2,14]) (.cond (.t 14) (.seq (.reg [q4 15 0,q1 16 (.bin .shr (.t 15) (.k (.int .u64 8))),q1 0 (.asg (.t 16))] false [0,2]) (.reg [q4 17 2,q1 18 (.bin .add (.t 17) (.k (.int .i64 8))),q1 2 (.asg (.t 18))] false [0,2])) (.skip) [0,2])) (.seq (.reg [q4 19 2,q4 20 0,q1 21 (.conv .u8 (.t 20)),q1 22 (.idxs (.k (.str [0,1,2,2,3,3,3,3,4,4,4,4,4,4,4,4,5,5,5,5,5,5,5,5,5,5,5,5,5,5,5,5,6,6,6,6,6,6,6,6,6,6,6,6,6,6,6,6,6,6,6,6,6,6,6,6,6,6,6,6,6,6,6,6,7,7,7,7,7,7,7,7,7,7,7,7,7,7,7,7,7,7,7,7,7,7,7,7,7,7,7,7,7,7,7,7,7,7,7,7,7,7,7,7,7,7,7,7,7,7,7,7,7,7,7,7,7,7,7,7,7,7,7,7,7,7,7,7,8,8,8,8,8,8,8,8,8,8,8,8,8,8,8,8,8,8,8,8,8,8,8,8,8,8,8,8,8,8,8,8,8,8,8,8,8,8,8,8,8,8,8,8,8,8,8,8,8,8,8,8,8,8,8,8,8,8,8,8,8,8,8,8,8,8,8,8,8,8,8,8,8,8,8,8,8,8,8,8,8,8,8,8,8,8,8,8,8,8,8,8,8,8,8,8,8,8,8,8,8,8,8,8,8,8,8,8,8,8,8,8,8,8,8,8,8,8,8,8,8,8,8,8,8,8,8,8])) (.t 21)),q1 23 (.conv .i64 (.t 22)),q1 24 (.bin .add (.t 19) (.t 23)),q1 2 (.asg (.t 24))] false [2]) (.ret)))))⟩
def h148:HF:=⟨1,[.tmp 2],.seq (.reg [q1 2 (.asg (.k (.bool false)))] false [0]) (.seq (.reg [q4 3 0,q4 4 0,q1 5 (.bin .neq (.t 3) (.t 4)),q1 2 (.asg (.t 5))] false [2]) (.ret))⟩
def h149:HF:=⟨4,[],.seq (.reg [q4 10 1,q1 8 (.asg (.t 10))] false [0,2,3,8]) (.block 0 (.loop (.block 1 (.seq (.reg [q4 11 8,q1 12 (.bin .mul (.k (.int .i64 2)) (.t 11)),q1 13 (.bin .add (.t 12) (.k (.int .i64 1))),q1 9 (.asg (.t 13))] false [0,2,3,8,9]) (.seq (.seq (.reg [q4 14 9,q4 15 2,q1 16 (.bin .geq (.t 14) (.t 15))] false [0,2,3,8,9,16]) (.cond (.t 16) (.exit 0 []) (.skip) [0,2,3,8,9])) (.seq (.seq (.reg [q4 17 9,q1 18 (.bin .add (.t 17) (.k (.int .i64 1))),q4 19 2,q1 20 (.bin .lss (.t 18) (.t 19)),q4 21 20,q3 22 (.mv (.t 0)) 21 true,q3 23 (.mv (.t 3)) 21 true,q3 24 (.mv (.t 9)) 21 true,q3 25 (.bin .add (.t 23) (.t 24)) 21 true,q3 26 (.iadr 1 .none (.t 22) (.t 25)) 21 true,q3 27 (.load false 1 (.t 26)) 21 true,q3 28 (.mv (.t 0)) 21 true,q3 29 (.mv (.t 3)) 21 true,q3 30 (.mv (.t 9)) 21 true,q3 31 (.bin .add (.t 29) (.t 30)) 21 true,q3 32 (.bin .add (.t 31) (.k (.int .i64 1))) 21 true,q3 33 (.iadr 1 .none (.t 28) (.t 32)) 21 true,q3 34 (.load false 1 (.t 33)) 21 true,⟨some 35,.x (.call 135 [.t 27,.t 34] []),some (21,true),true,[]⟩,q1 36 (.pick (.t 21) (.t 35) (.k (.bool false)))] true [0,2,3,8,9,36]) (.cond (.t 36) (.reg [q4 37 9,q1 38 (.bin .add (.t 37) (.k (.int .i64 1))),q1 9 (.asg (.t 38))] false [0,2,3,8,9]) (.skip) [0,2,3,8,9])) (.seq (.seq (.reg [q4 39 0,q4 40 3,q4 41 8,q1 42 (.bin .add (.t 40) (.t 41)),q1 43 (.iadr 1 .none (.t 39) (.t 42)),q1 44 (.load false 1 (.t 43)),q4 45 0,q4 46 3,q4 47 9,q1 48 (.bin .add (.t 46) (.t 47)),q1 49 (.iadr 1 .none (.t 45) (.t 48)),q1 50 (.load false 1 (.t 49)),⟨some 51,.x (.call 135 [.t 44,.t 50] []),.none,true,[]⟩,q1 52 (.un .not (.t 51))] true [0,2,3,8,9,52]) (.cond (.t 52) (.ret) (.skip) [0,2,3,8,9])) (.seq (.reg [q4 53 0,q4 54 3,q4 55 8,q1 56 (.bin .add (.t 54) (.t 55)),q4 57 0,q4 58 3,q4 59 9,q1 60 (.bin .add (.t 58) (.t 59)),q4 61 0,q4 62 3,q4 63 9,q1 64 (.bin .add (.t 62) (.t 63)),q1 65 (.iadr 1 .none (.t 61) (.t 64)),q1 66 (.load false 1 (.t 65)),q4 67 0,q4 68 3,q4 69 8,q1 70 (.bin .add (.t 68) (.t 69)),q1 71 (.iadr 1 .none (.t 67) (.t 70)),q1 72 (.load false 1 (.t 71)),q1 73 (.iadr 1 .none (.t 53) (.t 56)),⟨.none,.x (.store 1 (.t 73) (.t 66)),.none,true,[]⟩,q1 74 (.iadr 1 .none (.t 57) (.t 60)),⟨.none,.x (.store 1 (.t 74) (.t 72)),.none,true,[]⟩] true [0,2,3,9]) (.reg [q4 75 9,q1 8 (.asg (.t 75))] false [0,2,3,8])))))) [0,2,3,8]) [0,2,3,8]) [])⟩
def h150:HF:=⟨1,[.tmp 2],.seq (.reg [q1 2 (.asg (.k (.int .u64 0)))] false [0]) (.seq (.reg [q4 3 0,q1 4 (.conv .u64 (.t 3)),q1 5 (.call 134 [.t 4] []),q1 6 (.bin .shl (.k (.int .u64 1)) (.t 5)),q1 2 (.asg (.t 6))] false [2]) (.ret))⟩
def h151:HF:=⟨1,[.tmp 2],.seq (.reg [q1 2 (.asg (.k (.int .u64 0)))] false [0]) (.seq (.reg [q4 3 0,q1 4 (.nilck (.t 3)),q1 5 (.load false 1 (.t 4)),q4 6 0,q1 7 (.nilck (.t 6)),q1 8 (.load false 1 (.t 7)),q1 9 (.bin .shl (.t 8) (.k (.int .u64 13))),q1 10 (.bin .xor (.t 5) (.t 9)),q1 11 (.nilck (.t 3)),⟨.none,.x (.store 1 (.t 11) (.t 10)),.none,true,[]⟩] true [0]) (.seq (.reg [q4 12 0,q1 13 (.nilck (.t 12)),q1 14 (.load false 1 (.t 13)),q4 15 0,q1 16 (.nilck (.t 15)),q1 17 (.load false 1 (.t 16)),q1 18 (.bin .shr (.t 17) (.k (.int .u64 7))),q1 19 (.bin .xor (.t 14) (.t 18)),q1 20 (.nilck (.t 12)),⟨.none,.x (.store 1 (.t 20) (.t 19)),.none,true,[]⟩] true [0]) (.seq (.reg [q4 21 0,q1 22 (.nilck (.t 21)),q1 23 (.load false 1 (.t 22)),q4 24 0,q1 25 (.nilck (.t 24)),q1 26 (.load false 1 (.t 25)),q1 27 (.bin .shl (.t 26) (.k (.int .u64 17))),q1 28 (.bin .xor (.t 23) (.t 27)),q1 29 (.nilck (.t 21)),⟨.none,.x (.store 1 (.t 29) (.t 28)),.none,true,[]⟩] true [0]) (.seq (.reg [q4 30 0,q1 31 (.nilck (.t 30)),q1 32 (.load false 1 (.t 31)),q1 2 (.asg (.t 32))] false [2]) (.ret)))))⟩
def h152:HF:=⟨3,[.tmp 6],.seq (.reg [q1 6 (.asg (.k (.int .i64 0)))] false [0,1,2]) (.seq (.reg [q4 7 0,q4 8 1,q1 9 (.bin .sub (.t 8) (.k (.int .i64 1))),q4 10 1,q4 11 1,q1 12 (.bin .add (.t 11) (.k (.int .i64 1))),q4 13 2,q1 14 (.call 153 [.t 7,.t 9,.t 10,.t 12,.t 13] []),q1 6 (.asg (.t 14))] false [6]) (.ret))⟩
def h153:HF:=⟨5,[.tmp 10],.seq (.reg [q1 10 (.asg (.k (.int .i64 0)))] false [0,1,2,3,4]) (.seq (.reg [q4 12 0,q4 13 1,q4 14 2,q4 15 4,q1 16 (.call 154 [.t 12,.t 13,.t 14,.t 15] []),q4 11 16,q1 17 (.ext (.t 11) 0),q1 18 (.ext (.t 11) 1),q1 1 (.asg (.t 17)),q1 2 (.asg (.t 18))] false [0,1,2,3,4]) (.seq (.reg [q4 20 0,q4 21 2,q4 22 3,q4 23 4,q1 24 (.call 154 [.t 20,.t 21,.t 22,.t 23] []),q4 19 24,q1 25 (.ext (.t 19) 0),q1 26 (.ext (.t 19) 1),q1 2 (.asg (.t 25)),q1 3 (.asg (.t 26))] false [0,1,2,4]) (.seq (.reg [q4 28 0,q4 29 1,q4 30 2,q4 31 4,q1 32 (.call 154 [.t 28,.t 29,.t 30,.t 31] []),q4 27 32,q1 33 (.ext (.t 27) 0),q1 34 (.ext (.t 27) 1),q1 1 (.asg (.t 33)),q1 2 (.asg (.t 34))] false [2]) (.seq (.reg [q4 35 2,q1 10 (.asg (.t 35))] false [10]) (.ret)))))⟩
def h154:HF:=⟨4,[.tmp 8,.tmp 9],.seq (.reg [q1 8 (.asg (.k (.int .i64 0))),q1 9 (.asg (.k (.int .i64 0)))] false [0,1,2,3]) (.seq (.seq (.reg [q4 10 0,q4 11 2,q1 12 (.iadr 1 .none (.t 10) (.t 11)),q1 13 (.load false 1 (.t 12)),q4 14 0,q4 15 1,q1 16 (.iadr 1 .none (.t 14) (.t 15)),q1 17 (.load false 1 (.t 16)),⟨some 18,.x (.call 135 [.t 13,.t 17] []),.none,true,[]⟩] true [1,2,3,18]) (.cond (.t 18) (.seq (.reg [q4 19 3,q1 20 (.nilck (.t 19)),q1 21 (.load false 1 (.t 20)),q1 22 (.bin .add (.t 21) (.k (.int .i64 1))),q1 23 (.nilck (.t 19)),q2 (.store 1 (.t 23) (.t 22))] false [1,2]) (.seq (.reg [q4 24 2,q4 25 1,q1 8 (.asg (.t 24)),q1 9 (.asg (.t 25))] false [8,9]) (.ret))) (.skip) [1,2])) (.seq (.reg [q4 26 1,q4 27 2,q1 8 (.asg (.t 26)),q1 9 (.asg (.t 27))] false [8,9]) (.ret)))⟩
def TL:List (Nat×HF):=[(12,h12),(18,h18),(22,h22),(24,h24),(27,h27),(29,h29),(35,h35),(52,h52),(53,h53),(56,h56),(57,h57),(58,h58),(59,h59),(60,h60),(64,h64),(65,h65),(66,h66),(67,h67),(70,h70),(71,h71),(72,h72),(73,h73),(74,h74),(76,h76),(77,h77),(78,h78),(79,h79),(80,h80),(81,h81),(97,h97),(98,h98),(105,h105),(106,h106),(107,h107),(108,h108),(109,h109),(110,h110),(111,h111),(113,h113),(115,h115),(116,h116),(120,h120),(126,h126),(127,h127),(128,h128),(129,h129),(133,h133),(134,h134),(135,h135),(136,h136),(138,h138),(139,h139),(140,h140),(141,h141),(142,h142),(143,h143),(144,h144),(145,h145),(146,h146),(147,h147),(148,h148),(149,h149),(150,h150),(151,h151),(152,h152),(153,h153),(154,h154)]
def TH:Nat->Option HF:=fun f=>lookH f TL
open Go
set_option maxRecDepth 100000
set_option maxHeartbeats 4000000
open Go
set_option maxRecDepth 100000
set_option maxHeartbeats 4000000
end Go.Ab
