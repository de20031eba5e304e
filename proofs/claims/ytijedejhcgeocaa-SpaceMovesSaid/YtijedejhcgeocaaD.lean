/-
  Texts of this seat: lemmas on the way to the statement.
-/
import Derived.Test.YtijedejhcgeocaaC
import Derived.Test.YtijedejhcgeocaaB
import Derived.Test.YtijedejhcgeocaaRows
set_option linter.unusedVariables false
set_option linter.unusedSimpArgs false
namespace Go.Ab
open Go
section
variable {P:Program} {n:Nat} {w:World} {L:LM} {A:AM} {st:HSt} {a:Act}
theorem yiT{e:HEnv}(I:HInv n w L A st a e.get){r:ResultVar}{x:XR}(ht:trR P r=some x){v:HV}(h:resH1 (e,st) x=some v):
 ∃u,(oneR a.tmps r).run P w = .ok u w/\RepH w L A v u:=by
 cases r with
 | tmp t=>
   simp only[trR,Af] at ht
   subst ht
   simp only[resH1,Af] at h
   subst h
   exact⟨a.eval (.tmp t),by simp[oneR,Act.eval],(I.rep t).vis⟩
 | cell t ty=>
   simp only[trR,Ae] at ht
   obtain⟨agg,ha,sz,hz,ht⟩:=ht
   split at ht
   ·rename_i h1
    obtain rfl:=Ag ht
    simp only[resH1] at h
    split at h
    ·rename_i i k e0
     split at h
     ·rename_i cs hcs
      have H:=(I.rep t).vis
      rw[e0] at H
      obtain⟨b,j,u',h2,h3,h4⟩:=yhQ (b:=0) I.ok ha hz h1 H hcs h
      have e1:a.tmps.getD t undef=a.eval (.tmp t):=rfl
      exact⟨u',by simp[oneR,e1,h2,asAddr,h3],h4⟩
     ·cases h
    ·cases h
   ·cases ht
theorem yfh{e:HEnv}(I:HInv n w L A st a e.get):∀{rs:List ResultVar} {xs:List XR} {ys:List HV},trRs P rs=some xs->resHL (e,st) xs=some ys ->
 ∃us,ys.length=rs.length/\us.length=rs.length/\(rs.mapM (oneR a.tmps)).run P w = .ok us w/\∀k (hk:k<ys.length) (hk':k<us.length),RepH w L A ys[k] us[k]
 | [],xs,ys,ht,h=>by
   simp only[trRs,Af] at ht
   subst ht
   simp only[resHL,Af] at h
   subst h
   exact⟨[],rfl,rfl,by simp,fun k hk=>by simp at hk⟩
 | r::rs,xs,ys,ht,h=>by
   simp only[trRs,Ae,Ac] at ht
   obtain⟨x,hx,xs',hxs,rfl⟩:=ht
   simp only[resHL] at h
   split at h
   ·rename_i v vs hv hvs
    simp only[Af] at h
    subst h
    obtain⟨u,hr,V⟩:=yiT (P:=P) I hx hv
    obtain⟨us,h1,h2,h3,h4⟩:=yfh I hxs hvs
    refine⟨u::us,by simp[h1],by simp[h2],by simp[List.mapM_cons,hr,h3],fun k hk hk'=>?_⟩
    cases k with
    | zero=>exact V
    | succ k=>simpa using h4 k (by simpa using hk) (by simpa using hk')
   ·cases h
def TOkH(P:Program)(T:Nat->Option HF):Prop:=
 ∀ f x, T f = some x → ∃ fn code hints, P.funcs[f]? = some fn ∧ (fn.name == "runtime.NumGoroutine") = false ∧ fn.body = some code ∧ x.np ≤ fn.ntmps ∧ fn.ntmps ≤ HK ∧
  trHC P (fun d=>decide (d<fn.ntmps)) code hints=some (x.body,[])/\trRs P fn.results.toList=some x.res
theorem ydh:∀(ws:List HV) (i t:Nat),(paramsH i ws).get t = if i<=t/\t<i+ws.length then ws.getD (t-i) (.p .none) else .p .none
 | [],i,t=>by simp[paramsH,HEnv.get]
 | v::r,i,t=>by
   simp only[paramsH,HEnv.get,ydh r (i+1) t,Bv]
   by_cases h:t=i
   ·subst h;simp
   ·rw[if_neg h]
    by_cases h2:i+1<=t/\t<i+1+r.length
    ·rw[if_pos h2,if_pos (by omega),show t-i=(t-(i+1))+1 by omega];simp
    ·rw[if_neg h2,if_neg (by omega)]
theorem ymK{args:Array Value}{ws:List HV}{nt:Nat}(hsz:args.size=ws.length)(hnt:ws.length<=nt)(O:HOk w L A st)(H:∀i (hi:i<ws.length),RepH w L A ws[i] (args.getD i undef)):
 HInv nt w L A st { tmps:=args++Array.replicate (nt-args.size) undef,defers:=[] } (paramsH 0 ws).get:=by
 refine⟨O,fun t=>?_,rfl,by simp;omega,fun t ht=>?_⟩
 ·rw[ydh]
  by_cases h:0<=t/\t<0+ws.length
  ·rw[if_pos h]
   have ht:t<ws.length:=by omega
   have e1:Act.eval { tmps:=args++Array.replicate (nt-args.size) undef,defers:=[] } (.tmp t)=args.getD t undef:=by
    simp[Act.eval,Array.getD,Array.getElem_append,show t<args.size by omega,show t<args.size+(nt-args.size) by omega]
   rw[e1,Nat.sub_zero,show ws.getD t (.p .none)=ws[t] by simp[ht]]
   exact .inl (H t ht)
  ·rw[if_neg h];exact .inl (.none _)
 ·rw[ydh,if_neg (by omega)]
theorem yd0(hm:P.follows .mixedOrders=true){C:Calls'}(hC:CallOk P C){K:HCalls}(hK:HCallOk P K){T:Nat->Option HF}(hT:TOkH P T):∀n,HCallOk P (evHF C K T n)
 | 0=>fun f ws st r st' h=>by simp[evHF] at h
 | n+1=>fun f ws st r st' h=>by
   have ih:=yd0 hm hC hK hT n
   simp only[evHF] at h
   split at h
   ·rename_i rk hk
    obtain rfl:=Ag h
    exact hK f ws st r st' hk
   split at h
   ·rename_i x hx
    split at h
    ·rename_i hlen
     obtain⟨fn,code,hints,hf,hname,hbody,hnp,hnt,htr,htrr⟩:=hT f x hx
     refine⟨⟨fn,hf,hname,by rw[hbody];rfl⟩,fun args w L A hsz O bd Hargs=>?_⟩
     have I0:=ymK (nt:=fn.ntmps) hsz (by omega) O Hargs
     generalize ha0:({ tmps:=args++Array.replicate (fn.ntmps-args.size) undef,defers:=[] }:Act)=a0 at I0
     let X:HCtx:={ n:=fn.ntmps,w0:=w,L0:=L,A0:=A,st0:=st }
     have hX:X.Good:=⟨hnt,O⟩
     have hok:∀d,decide (d<fn.ntmps)=true->d<X.n:=fun d hd=>by simpa using hd
     have S0:X.St ((paramsH 0 ws).get,st) a0 w:=⟨L,A,I0,.refl _ _ _⟩
     have fin:∀(s:HS) vs a' w',resHL (hland s (x.res.map resT)) x.res=some vs->r=tupHOf vs->st'=(hland s (x.res.map resT)).2->X.St (s.1.get,s.2) a' w'->a'.defers=[]/\∃v,(results fn a'.tmps).run P w' = .ok v w'/\HRetOk w L A r st' v w':=by
      intro s vs a' w' hres hr hs' S
      obtain⟨h1,h2⟩:=ygY (x.res.map resT) s
      obtain⟨L1,A1,I1,E1⟩:=HCtx.St.land hX (x.res.map resT) S
      rw[←h1,←h2] at I1
      obtain⟨us,hl1,hl2,hrun,H2⟩:=yfh I1 htrr hres
      refine⟨I1.df,_,ye2 hrun,?_⟩
      obtain⟨Oc,Ec⟩:=I1.ok.cut
      subst hr;subst hs'
      refine⟨_,A1,Oc,fun b j q p i h=>(ycO h).2,?_,E1.tr O Ec⟩
      have hvu:vs.length=us.length:=by omega
      have H3:∀k (hk:k<vs.length) (hk':k<us.length),RepH w' (fun b j=>cutL (L1 b j)) A1 vs[k] us[k]:=fun k hk hk'=>(H2 k hk hk').evo Ec I1.ok.wf
      by_cases h1:us.length=1
      ·rw[dif_pos h1]
       obtain⟨u,rfl⟩:=List.length_eq_one_iff.1 h1
       obtain⟨v,rfl⟩:=List.length_eq_one_iff.1 (hvu.trans h1)
       exact H3 0 (by simp) (by simp)
      ·rw[dif_neg h1]
       have ht:tupHOf vs=mkTup vs:=by
        match vs,hvu with
        | [],_=>rfl
        | [v],hv=>exact absurd hv.symm h1
        | _::_::_,_=>rfl
       rw[ht]
       refine RepH.mkTup (by simp[hvu]) fun k hk=>?_
       have:=H3 k hk (by omega)
       have e5:us.toArray.getD k undef=us[k]'(by omega):=by simp[Array.getD,show k<us.length by omega]
       rw[e5];exact this
     refine calls_of_wp hf hbody ?_
     rw[ha0]
     split at h
     ·cases h
     ·rename_i ex s1 hne hev
      simp only[Ac,Am] at h
      obtain⟨vs,hres,hr,ho⟩:=h
      refine (ygk hX hC ih hm hok (ymJ hX hC ih hok) n code hints [] x.body _ _ _ a0 w _ htr hev S0 fun a' w' S=>?_).1
      have:=fin s1 vs a' w' hres hr.symm ho.symm S
      cases ex with
      | norm=>exact this
      | ret=>exact this
      | exit id=>exact absurd rfl (hne _)
     ·cases h
    ·cases h
   ·cases h
end
open Go
def hintsH:HC->List HHint
 | .skip=>[]
 | .reg ops _ k=>[⟨k,ops.map fun o=>(o.bar,o.loose),false⟩]
 | .seq a b=>hintsH a++hintsH b
 | .cond (.k .none) _ _ _=>[⟨[],[],true⟩]
 | .cond _ a b k=>hintsH a++(hintsH b++[⟨k,[],false⟩])
 | .block _ b k=>hintsH b++[⟨k,[],false⟩]
 | .loop b k=>hintsH b++[⟨k,[],false⟩]
 | .exit _ k=>[⟨k,[],false⟩]
 | .ret=>[]
def OkH1(P:Program)(f:Nat)(x:HF):Prop:=
 ∃ fn code hints, P.funcs[f]? = some fn ∧ (fn.name == "runtime.NumGoroutine") = false ∧ fn.body = some code ∧ x.np ≤ fn.ntmps ∧ fn.ntmps ≤ HK ∧
  trHC P (fun d=>decide (d<fn.ntmps)) code hints=some (x.body,[])/\trRs P fn.results.toList=some x.res
def lookH:Nat->List (Nat×HF)->Option HF
 | _,[]=>Option.none
 | f,(k,x)::r=>if f=k then some x else lookH f r
def AllOk(P:Program):List (Nat×HF)->Prop
 | []=>True
 | (k,x)::r=>OkH1 P k x/\AllOk P r
theorem yne{P:Program}:∀{l:List (Nat×HF)},AllOk P l->TOkH P (fun f=>lookH f l)
 | [],_,f,x,h=>by cases h
 | (k,y)::r,ha,f,x,h=>by
   simp only[lookH] at h
   split at h
   ·rename_i e
    obtain rfl:=Ag h
    subst e
    obtain⟨fn,code,hints,h1⟩:=ha.1
    exact⟨fn,code,hints,h1⟩
   ·exact yne ha.2 f x h
open Go
def HV.isP:HV->Bool
 | .p v=>v.loose
 | _=>false
def sealed(H:HCalls):HCalls:=fun f ws st=>
 if ws.all HV.isP then match H f ws [] with
  | some (.p v,_)=>if v.flat then some (.p v,st) else Option.none
  | _=>Option.none
 else Option.none
section
variable {P:Program}
theorem ylh{H:HCalls}(hH:HCallOk P H):HCallOk P (sealed H):=by
 intro f ws st r st' h
 unfold sealed at h
 split at h
 case isFalse=>cases h
 rename_i hall
 split at h
 case h_2=>cases h
 rename_i v st1 hev
 split at h
 case isFalse=>cases h
 rename_i hflat
 simp only[Af,Am] at h
 obtain⟨rfl,rfl⟩:=h
 obtain⟨hfn,hcalls⟩:=hH f ws [] _ _ hev
 refine⟨hfn,fun args w L A hsz O bd Hargs=>?_⟩
 have W0:=WF.outAll O.wf
 have O0:HOk w (fun b j=>outAll (L b j)) [] []:=by
  refine⟨W0,rfl,fun b j r p i h _=>?_,fun a k h=>by simp at h,fun a b o m k h=>by simp at h,fun a a' b o m o' m' ks vs h=>by simp at h⟩
  cases e:L b j <;> simp[e,outAll] at h
 have shO:∀b j,L b j = .sh->outAll (L b j) = .sh:=fun b j h=>by rw[h];rfl
 refine Calls.mono (hcalls args w _ [] hsz O0 (fun b j q p i h=>by cases e:L b j <;> simp[e,outAll] at h) fun i hi=>?_) fun en w' he=>?_
 ·have h1:=Ax.1 hall _ (Au hi)
  have h2:=Hargs i hi
  generalize ws[i]=x at h1 h2
  cases x with
  | p pv=>
    obtain⟨h3,h4⟩:=h2.pv
    exact .p _ _ h3 (h4.frame (fun b j hr=>by rw[shO b j hr.shared,hr.shared]) (fun q hq=>by rw[yaf h3] at hq;cases hq) fun _ _ _=>rfl)
  | _=>simp[HV.isP] at h1
 ·cases en with
  | panicked=>exact he.elim
  | outgrown=>exact he.elim
  | returned u=>
    obtain⟨L',A',O',bd',Hr,E⟩:=he
    obtain⟨hl,Hr⟩:=Hr.pv
    have blk:∀b,b<w.heap.size->SameBlk (fun b j=>outAll (L b j)) b w.heap[b]? w'.heap[b]?:=fun b hb=>by
     rcases E.blk b hb with⟨a,o,m,es,c,h,_⟩|h
     ·simp at h
     ·exact h
    have blk':∀b,b<w.heap.size->SameBlk L b w.heap[b]? w'.heap[b]?:=fun b hb=>(blk b hb).weaken fun j hj=>by
     rcases hj with hj|hj <;> simp[hj,outAll]
    let L2:LM:=fun b j=>if b<w.heap.size then L b j else .out
    have hin:∀{b j},b<w.heap.size->L2 b j=L b j:=fun {b j} h=>by simp only[L2,h,if_true]
    have cell:∀b j,L b j ≠ .out->w'.cell? ⟨b,j,Option.none⟩=w.cell? ⟨b,j,Option.none⟩/\w'.frozen? ⟨b,j,Option.none⟩=w.frozen? ⟨b,j,Option.none⟩:=fun b j h=>by
     have hb:=O.wf.lt h
     obtain⟨v,hv⟩:=O.wf.ex b j h
     have hs:=blk b hb
     cases e:w.heap[b]? with
     | none=>simp[World.cell?,e] at hv
     | some ob=>
       rw[e] at hs
       cases ob with
       | cells c t fr=>
         cases e':w'.heap[b]? with
         | none=>rw[e'] at hs;cases hs
         | some ob'=>
           rw[e'] at hs
           cases ob' with
           | cells c' t' fr'=>
             obtain⟨rfl,rfl,h3,h4⟩:=hs
             refine⟨?_,by simp[World.frozen?,e,e']⟩
             have:=h4 j (by cases e2:L b j <;> simp[e2,outAll])
             simp only[World.cell?,e,e']
             simpa using this
           | _=>cases hs
       | _=>simp[World.cell?,e] at hv
    have W:WF w' L2:=by
     refine⟨fun b j b' j' r p i h h'=>?_,fun b j h=>?_,fun b j r p i h=>?_⟩
     ·have hb:b<w.heap.size:=by apply Bc;intro hn;simp[L2,hn] at h
      have hb':b'<w.heap.size:=by apply Bc;intro hn;simp[L2,hn] at h'
      rw[hin hb] at h;rw[hin hb'] at h'
      exact O.wf.inj _ _ _ _ _ _ _ h h'
     ·have hb:b<w.heap.size:=by apply Bc;intro hn;simp[L2,hn] at h
      rw[hin hb] at h
      obtain⟨v,hv⟩:=O.wf.ex b j h
      exact⟨v,by rw[(cell b j h).1,hv]⟩
     ·have hb:b<w.heap.size:=by apply Bc;intro hn;simp[L2,hn] at h
      rw[hin hb] at h
      rw[(cell b j (by rw[h];simp)).2];exact O.wf.thaw _ _ _ _ _ h
    have E2:Evo w L A w' L2 A:=⟨E.os,E.tape,E.output,E.size,fun b j hb _=>hin hb,fun b hb=>.inr (blk' b hb),Av _,fun _ _=>.inl rfl,fun a b o m h _=>.inl ⟨a,o,m,h⟩⟩
    have Ex:Ext w L w' L2:=⟨E.os,E.tape,E.output,E.size,fun b j hb _=>hin hb,blk'⟩
    have G:Go1 w L w' L2:=⟨W,Ex,fun b j h=>hin (O.wf.lt (fun e=>by rw[e] at h;exact h)),fun b j h=>(cell b j (fun e=>by rw[e] at h;exact h)).1⟩
    have O2:HOk w' L2 A st:=O.grow G fun b j r p i h _=>by
     have hb:b<w.heap.size:=by apply Bc;intro hn;simp[L2,hn] at h
     rwa [hin hb] at h
    refine⟨L2,A,O2,fun b j q p i h=>?_,.p _ _ hl (ygJ Hr hflat),E2⟩
    have hb:b<w.heap.size:=by apply Bc;intro hn;simp[L2,hn] at h
    rw[hin hb] at h
    exact bd _ _ _ _ _ h
end
def HLe(H H':HCalls):Prop:=∀f ws st r,H f ws st=some r->H' f ws st=some r
theorem HLe.refl(H:HCalls):HLe H H:=fun _ _ _ _ h=>h
section
variable {C:Calls'} {H H':HCalls}
theorem yli(h:HLe H H'){L:XO->HV}{st:HSt}{x:HOp}{r:HV×HSt}(hv:evHS H L st x=some r):evHS H' L st x=some r:=by
 cases x with
 | x o=>
   cases o
   case call f az ms=>simp only[evHS] at hv ⊢;exact h _ _ _ _ hv
   case callv f az=>
    simp only[evHS] at hv ⊢
    split at hv
    ·exact h _ _ _ _ hv
    ·exact h _ _ _ _ hv
    ·exact h _ _ _ _ hv
    ·cases hv
   all_goals exact hv
 | _=>exact hv
theorem yiU(h:HLe H H'){s s':HS}{o:HI}(hv:stepHL C H s o=some s'):stepHL C H' s o=some s':=by
 unfold stepHL at hv ⊢
 split at hv
 ·rename_i v e;(try simp only[e]);exact hv
 ·rename_i e
  (try simp only[e])
  split at hv
  ·rename_i v st e2
   simp only[yli h e2];exact hv
  ·cases hv
theorem yd1(h:HLe H H'){s s':HS}{o:HI}(hv:stepH C H s o=some s'):stepH C H' s o=some s':=by
 unfold stepH at hv ⊢
 split at hv
 ·rename_i e;(try simp only[e]);exact yiU h hv
 ·rename_i e;(try simp only[e]);exact hv
 ·cases hv
theorem yca(h:HLe H H'):∀{l:List HI} {s s':HS},stepsH C H s l=some s'->stepsH C H' s l=some s'
 | [],s,s',hv=>hv
 | o::l,s,s',hv=>by
   simp only[stepsH] at hv ⊢
   split at hv
   ·rename_i s1 e;simp only[yd1 h e];exact yca h hv
   ·cases hv
theorem ycw(h:HLe H H'):∀{l:List HI} {s:HS} {tr:List HS},traceHD C H s l=some tr->traceHD C H' s l=some tr
 | [],s,tr,hv=>hv
 | o::l,s,tr,hv=>by
   simp only[traceHD] at hv ⊢
   split at hv
   ·rename_i hb
    rw[if_pos hb]
    split at hv
    ·rename_i s1 e
     simp only[Ac] at hv
     obtain⟨t,ht,rfl⟩:=hv
     simp only[yd1 h e,ycw h ht,An]
    ·cases hv
   ·rename_i hb
    rw[if_neg hb]
    split at hv
    ·rename_i d v e
     simp only[Ac] at hv
     obtain⟨t,ht,rfl⟩:=hv
     simp only[e,ycw h ht,An]
    ·cases hv
theorem ygn(h:HLe H H'){s s':HS}{l:List HI}(hv:regHD C H s l=some s'):regHD C H' s l=some s':=by
 unfold regHD at hv ⊢
 split at hv
 ·rename_i hf
  rw[if_pos hf]
  split at hv
  ·rename_i tr e;simp only[ycw h e];exact hv
  ·cases hv
 ·cases hv
theorem ymL{k:List Nat}{x:Option (Ex×HS)}{y:Ex×HS}(h:fgtH k x=some y):∃z,x=some z/\∀x',x'=some z->fgtH k x'=some y:=by
 cases x with
 | none=>simp[fgtH] at h
 | some z=>exact⟨z,rfl,fun x' e=>by rw[e];exact h⟩
theorem yag(h:HLe H H'):∀{n m:Nat} {c:HC} {s:HS} {x:Ex×HS},n<=m->evHC C H n c s=some x->evHC C H' m c s=some x
 | 0,m,c,s,x,_,hv=>by simp[evHC] at hv
 | n+1,0,c,s,x,hle,hv=>by omega
 | n+1,m+1,c,s,x,hle,hv=>by
   have ih:∀{c:HC} {s:HS} {x:Ex×HS},evHC C H n c s=some x->evHC C H' m c s=some x:=fun hv=>yag h (by omega) hv
   cases c with
   | skip=>exact hv
   | reg ops draw keep=>
     simp only[evHC,Ac] at hv ⊢
     obtain⟨s1,h1,rfl⟩:=hv
     refine⟨s1,?_,rfl⟩
     cases draw with
     | true=>simp only[if_true] at h1 ⊢;exact ygn h h1
     | false=>simp only[Al,if_false] at h1 ⊢;exact yca h h1
   | seq a b=>
     simp only[evHC] at hv ⊢
     split at hv
     ·rename_i s1 e;simp only[ih e];exact ih hv
     ·rename_i hno
      have:=ih hv
      rw[this]
      obtain⟨ex,s1⟩:=x
      cases ex with
      | norm=>exact absurd hv (hno _)
      | _=>rfl
   | cond c a b k=>
     simp only[evHC] at hv ⊢
     obtain⟨z,hz,hf⟩:=ymL hv
     refine hf _ ?_
     split at hz
     ·rename_i e;(try simp only[e]);exact ih hz
     ·rename_i e;(try simp only[e]);exact ih hz
     ·cases hz
   | block id b k=>
     simp only[evHC] at hv ⊢
     cases hb:evHC C H n b s with
     | none=>rw[hb] at hv;simp[fgtH] at hv
     | some q=>rw[hb] at hv;rw[ih hb];exact hv
   | loop b k=>
     simp only[evHC] at hv ⊢
     cases hb:evHC C H n b s with
     | none=>rw[hb] at hv;simp[fgtH] at hv
     | some q=>
       rw[hb] at hv;rw[ih hb]
       obtain⟨ex,s1⟩:=q
       cases ex with
       | norm=>simp only[fgtH] at hv ⊢;exact ih hv
       | exit id=>exact hv
       | ret=>exact hv
   | exit id k=>exact hv
   | ret=>exact hv
variable {K:HCalls} {T:Nat->Option HF}
theorem yz:∀{n m:Nat},n<=m->HLe (evHF C K T n) (evHF C K T m)
 | 0,m,_,f,ws,st,r,h=>by simp[evHF] at h
 | n+1,0,hle,f,ws,st,r,h=>by omega
 | n+1,m+1,hle,f,ws,st,r,h=>by
   simp only[evHF] at h ⊢
   split at h
   ·rename_i k hk;(try simp only[hk]);exact h
   ·rename_i hk
    (try simp only[hk])
    split at h
    ·rename_i x hx
     (try simp only[hx])
     split at h
     ·rename_i hl
      rw[if_pos hl]
      have hle':HLe (evHF C K T n) (evHF C K T m):=yz (by omega)
      cases hb:evHC C (evHF C K T n) n x.body (paramsH 0 ws,st) with
      | none=>rw[hb] at h;cases h
      | some q=>rw[hb] at h;rw[yag hle' (by omega) hb];exact h
     ·cases h
    ·cases h
def Ans(C:Calls')(K:HCalls)(T:Nat->Option HF)(f:Nat)(ws:List HV)(st:HSt)(r:HV)(st':HSt):Prop:=∃n,evHF C K T n f ws st=some (r,st')
def Run(C:Calls')(K:HCalls)(T:Nat->Option HF)(c:HC)(s:HS)(ex:Ex)(s':HS):Prop:=∃n,evHC C (evHF C K T n) n c s=some (ex,s')
def Seq(C:Calls')(K:HCalls)(T:Nat->Option HF)(s:HS)(ops:List HI)(s':HS):Prop:=∃n,stepsH C (evHF C K T n) s ops=some s'
theorem Run.up{c:HC}{s s':HS}{ex:Ex}{n m:Nat}(hle:n<=m)(h:evHC C (evHF C K T n) n c s=some (ex,s')):evHC C (evHF C K T m) m c s=some (ex,s'):=yag (yz hle) hle h
theorem Ans.known{f:Nat}{ws:List HV}{st st':HSt}{r:HV}(h:K f ws st=some (r,st')):Ans C K T f ws st r st':=⟨1,by simp only[evHF,h]⟩
theorem Ans.intro{f:Nat}{x:HF}(hk:∀ws st,K f ws st=Option.none)(hx:T f=some x){ws:List HV}(hl:ws.length=x.np){st:HSt}{ex:Ex}{s:HS}(hb:Run C K T x.body (paramsH 0 ws,st) ex s)(hex:∀id,ex ≠ .exit id){vs:List HV}
 (hr:resHL (hland s (x.res.map resT)) x.res=some vs){r:HV}{st':HSt}(h1:r=tupHOf vs)(h2:st'=(hland s (x.res.map resT)).2):Ans C K T f ws st r st':=by
 obtain⟨n,hn⟩:=hb
 refine⟨n+1,?_⟩
 subst h1;subst h2
 simp only[evHF,hk,hx,hl,if_true,hn]
 cases ex with
 | norm=>simp[hr]
 | ret=>simp[hr]
 | exit id=>exact absurd rfl (hex id)
theorem Run.skip{s:HS}:Run C K T .skip s .norm s:=⟨1,rfl⟩
theorem Run.ret{s:HS}:Run C K T .ret s .ret s:=⟨1,rfl⟩
theorem Run.exit{s:HS}{id:Nat}{k:List Nat}:Run C K T (.exit id k) s (.exit id) (s.1.keep k,s.2):=⟨1,rfl⟩
theorem Run.seq{a b:HC}{s s1 s2:HS}{ex:Ex}(h1:Run C K T a s .norm s1)(h2:Run C K T b s1 ex s2):Run C K T (.seq a b) s ex s2:=by
 obtain⟨n,hn⟩:=h1
 obtain⟨m,hm⟩:=h2
 refine⟨max n m+1,?_⟩
 have e1:=yag (yz (C:=C) (K:=K) (T:=T) (show n<=max n m+1 by omega)) (show n<=max n m by omega) hn
 have e2:=yag (yz (C:=C) (K:=K) (T:=T) (show m<=max n m+1 by omega)) (show m<=max n m by omega) hm
 simp only[evHC,e1,e2]
theorem Run.seqX{a b:HC}{s s1:HS}{ex:Ex}(h1:Run C K T a s ex s1)(hx:ex ≠ .norm):Run C K T (.seq a b) s ex s1:=by
 obtain⟨n,hn⟩:=h1
 refine⟨n+1,?_⟩
 have e1:=yag (yz (C:=C) (K:=K) (T:=T) (show n<=n+1 by omega)) (Av n) hn
 simp only[evHC,e1]
 cases ex with
 | norm=>exact absurd rfl hx
 | _=>rfl
def fgtS(k:List Nat)(ex:Ex)(s:HS):HS:=match ex with
 | .norm=>(s.1.keep k,s.2)
 | _=>s
theorem yjt(k:List Nat)(ex:Ex)(s:HS):fgtH k (some (ex,s))=some (ex,fgtS k ex s):=by cases ex<;>rfl
theorem Run.condT{c:XO}{a b:HC}{k:List Nat}{s s1:HS}{ex:Ex}(hc:lookHG s.1.get c = .p (.bool true))(h:Run C K T a s ex s1):Run C K T (.cond c a b k) s ex (fgtS k ex s1):=by
 obtain⟨n,hn⟩:=h
 refine⟨n+1,?_⟩
 have e1:=yag (yz (C:=C) (K:=K) (T:=T) (show n<=n+1 by omega)) (Av n) hn
 simp only[evHC,hc,e1,yjt]
theorem Run.condF{c:XO}{a b:HC}{k:List Nat}{s s1:HS}{ex:Ex}(hc:lookHG s.1.get c = .p (.bool false))(h:Run C K T b s ex s1):Run C K T (.cond c a b k) s ex (fgtS k ex s1):=by
 obtain⟨n,hn⟩:=h
 refine⟨n+1,?_⟩
 have e1:=yag (yz (C:=C) (K:=K) (T:=T) (show n<=n+1 by omega)) (Av n) hn
 simp only[evHC,hc,e1,yjt]
def blockX(id:Nat):Ex->Ex
 | .exit id'=>if id'=id then .norm else .exit id'
 | e=>e
theorem Run.block{id:Nat}{b:HC}{k:List Nat}{s s1:HS}{ex:Ex}(h:Run C K T b s ex s1):Run C K T (.block id b k) s (blockX id ex) (fgtS k (blockX id ex) s1):=by
 obtain⟨n,hn⟩:=h
 refine⟨n+1,?_⟩
 have e1:=yag (yz (C:=C) (K:=K) (T:=T) (show n<=n+1 by omega)) (Av n) hn
 simp only[evHC,e1]
 cases ex with
 | norm=>rfl
 | ret=>rfl
 | exit id'=>
   by_cases hid:id'=id
   ·simp only[hid,if_true,blockX];rfl
   ·simp only[hid,if_false,blockX];rfl
theorem Run.loopX{b:HC}{k:List Nat}{s s1:HS}{ex:Ex}(h:Run C K T b s ex s1)(hx:ex ≠ .norm):Run C K T (.loop b k) s ex s1:=by
 obtain⟨n,hn⟩:=h
 refine⟨n+1,?_⟩
 have e1:=yag (yz (C:=C) (K:=K) (T:=T) (show n<=n+1 by omega)) (Av n) hn
 simp only[evHC,e1,yjt]
 cases ex with
 | norm=>exact absurd rfl hx
 | _=>rfl
theorem Run.loopN{b:HC}{k:List Nat}{s s1 s2:HS}{ex:Ex}(h:Run C K T b s .norm s1)(h2:Run C K T (.loop b k) (s1.1.keep k,s1.2) ex s2):Run C K T (.loop b k) s ex s2:=by
 obtain⟨n,hn⟩:=h
 obtain⟨m,hm⟩:=h2
 refine⟨max n m+1,?_⟩
 have e1:=yag (yz (C:=C) (K:=K) (T:=T) (show n<=max n m+1 by omega)) (show n<=max n m by omega) hn
 have e2:=yag (yz (C:=C) (K:=K) (T:=T) (show m<=max n m+1 by omega)) (show m<=max n m by omega) hm
 simp only[evHC,e1,yjt,fgtS,e2]
theorem Run.loop{b:HC}{k:List Nat}{ex:Ex}(I:HS->Prop)(Q:HS->Prop)(μ:HS->Nat)
 (step:∀s,I s->(∃s1,Run C K T b s ex s1/\ex ≠ .norm/\Q s1)\/∃s1,Run C K T b s .norm s1/\I (s1.1.keep k,s1.2)/\μ (s1.1.keep k,s1.2)<μ s):∀s,I s->∃s',Run C K T (.loop b k) s ex s'/\Q s':=by
 intro s
 induction hn:μ s using Nat.strongRecOn generalizing s with
 | ind n ih=>
   intro hs
   rcases step s hs with⟨s1,h1,h2,h3⟩|⟨s1,h1,h2,h3⟩
   ·exact⟨s1,.loopX h1 h2,h3⟩
   ·obtain⟨s',h4,h5⟩:=ih _ (by omega) _ rfl h2
    exact⟨s',.loopN h1 h4,h5⟩
theorem Run.reg{ops:List HI}{keep:List Nat}{s s':HS}(h:Seq C K T s ops s'):Run C K T (.reg ops false keep) s .norm (s'.1.keep keep,s'.2):=by
 obtain⟨n,hn⟩:=h
 refine⟨n+1,?_⟩
 have:=yca (C:=C) (yz (C:=C) (K:=K) (T:=T) (show n<=n+1 by omega)) hn
 simp only[evHC,Al,if_false,this,An]
theorem Run.regD{ops:List HI}{keep:List Nat}{s s':HS}(h:∃n,regHD C (evHF C K T n) s ops=some s'):Run C K T (.reg ops true keep) s .norm (s'.1.keep keep,s'.2):=by
 obtain⟨n,hn⟩:=h
 refine⟨n+1,?_⟩
 have:=ygn (C:=C) (yz (C:=C) (K:=K) (T:=T) (show n<=n+1 by omega)) hn
 simp only[evHC,if_true,this,An]
theorem Seq.nil{s:HS}:Seq C K T s [] s:=⟨0,rfl⟩
theorem Seq.cons{s s1 s':HS}{o:HI}{r:List HI}(h:∃n,stepH C (evHF C K T n) s o=some s1)(h2:Seq C K T s1 r s'):Seq C K T s (o::r) s':=by
 obtain⟨n,hn⟩:=h
 obtain⟨m,hm⟩:=h2
 refine⟨max n m,?_⟩
 simp only[stepsH,yd1 (yz (C:=C) (K:=K) (T:=T) (show n<=max n m by omega)) hn]
 exact yca (yz (C:=C) (K:=K) (T:=T) (show m<=max n m by omega)) hm
end
open Go
def oel{α β:Type}(x:Option α)(f:α->β)(g:Unit->β):β:=match x with
 | some v=>f v
 | Option.none=>g ()
@[congr] theorem ypj{α β:Type}{x y:Option α}{f:α->β}{g:Unit->β}(h:x=y):oel x f g=oel y f g:=by rw[h]
theorem yby{α β:Type}{v:α}{f:α->β}{g:Unit->β}:oel (some v) f g=f v:=(rfl)
theorem ydD{α β:Type}{f:α->β}{g:Unit->β}:oel Option.none f g=g ():=(rfl)
def bel{β:Type}(x:Bool)(f g:Unit->β):β:=match x with
 | true=>f ()
 | false=>g ()
@[congr] theorem ypk{β:Type}{x y:Bool}{f g:Unit->β}(h:x=y):bel x f g=bel y f g:=by rw[h]
theorem yeI{β:Type}{f g:Unit->β}:bel true f g=f ():=(rfl)
theorem ydE{β:Type}{f g:Unit->β}:bel false f g=g ():=(rfl)
def hvel{β:Type}(x:HV)(f g:Unit->Option β):Option β:=match x with
 | .p (.bool true)=>f ()
 | .p (.bool false)=>g ()
 | _=>Option.none
@[congr] theorem yo0{β:Type}{x y:HV}{f g:Unit->Option β}(h:x=y):hvel x f g=hvel y f g:=by rw[h]
theorem ydF{β:Type}{f g:Unit->Option β}:hvel (.p (.bool true)) f g=f ():=(rfl)
theorem ycR{β:Type}{f g:Unit->Option β}:hvel (.p (.bool false)) f g=g ():=(rfl)
def exel(x:Option (Ex×HS))(f:HS->Option (Ex×HS)):Option (Ex×HS):=match x with
 | some (.norm,s)=>f s
 | r=>r
@[congr] theorem yo1{x y:Option (Ex×HS)}{f:HS->Option (Ex×HS)}(h:x=y):exel x f=exel y f:=by rw[h]
theorem ydG{s:HS}{f:HS->Option (Ex×HS)}:exel (some (.norm,s)) f=f s:=(rfl)
theorem yeJ{s:HS}{f:HS->Option (Ex×HS)}:exel (some (.ret,s)) f=some (.ret,s):=(rfl)
theorem ydH{s:HS}{i:Nat}{f:HS->Option (Ex×HS)}:exel (some (.exit i,s)) f=some (.exit i,s):=(rfl)
def retel{β:Type}(x:Option (Ex×HS))(f:HS->Option β):Option β:=match x with
 | some (.exit _,_)=>Option.none
 | some (_,s)=>f s
 | Option.none=>Option.none
@[congr] theorem yn2{β:Type}{x y:Option (Ex×HS)}{f:HS->Option β}(h:x=y):retel x f=retel y f:=by rw[h]
theorem ycS{β:Type}{s:HS}{f:HS->Option β}:retel (some (.norm,s)) f=f s:=(rfl)
theorem ydI{β:Type}{s:HS}{f:HS->Option β}:retel (some (.ret,s)) f=f s:=(rfl)
theorem yhZ{k:List Nat}{s:HS}:fgtH k (some (.norm,s))=some (.norm,(s.1.keep k,s.2)):=(rfl)
theorem yju{k:List Nat}{s:HS}:fgtH k (some (.ret,s))=some (.ret,s):=(rfl)
theorem yh0{k:List Nat}{i:Nat}{s:HS}:fgtH k (some (.exit i,s))=some (.exit i,s):=(rfl)
def blkel(id:Nat):Option (Ex×HS)->Option (Ex×HS)
 | some (.exit id',s')=>if id'=id then some (.norm,s') else some (.exit id',s')
 | r=>r
theorem ygo{id:Nat}{s:HS}:blkel id (some (.norm,s))=some (.norm,s):=(rfl)
theorem yh1{id:Nat}{s:HS}:blkel id (some (.ret,s))=some (.ret,s):=(rfl)
theorem ygp{id i:Nat}{s:HS}:blkel id (some (.exit i,s)) = if i=id then some (.norm,s) else some (.exit i,s):=(rfl)
theorem ylj{t:Nat}:HEnv.get [] t = .p .none:=(rfl)
theorem yjv{k t:Nat}{v:HV}{r:HEnv}:HEnv.get ((k,v)::r) t = if t=k then v else HEnv.get r t:=(rfl)
theorem ylk{t:Nat}{v:HV}:HEnv.set [] t v=[(t,v)]:=(rfl)
theorem yjw{k t:Nat}{x v:HV}{r:HEnv}:HEnv.set ((k,x)::r) t v = if t<k then (t,v)::(k,x)::r else if t=k then (t,v)::r else (k,x)::HEnv.set r t v:=(rfl)
theorem yjx{l:List Nat}:HEnv.keep l []=[]:=(rfl)
theorem yh2{l:List Nat}{k:Nat}{x:HV}{r:HEnv}:HEnv.keep l ((k,x)::r) = if l.contains k=true then (k,x)::HEnv.keep l r else HEnv.keep l r:=(rfl)
theorem ygq{i:Nat}:paramsH i []=[]:=(rfl)
theorem yfi{i:Nat}{v:HV}{r:List HV}:paramsH i (v::r)=(i,v)::paramsH (i+1) r:=(rfl)
theorem yjy{g:Nat->HV}{n:Nat}:lookHG g (.t n)=vis (g n):=(rfl)
theorem yjz{g:Nat->HV}{v:PV}:lookHG g (.k v) = .p v:=(rfl)
theorem yjA{g:Nat->HV}{n:Nat}:lookHG g (.f n) = .p (.fn n []):=(rfl)
def alG(n:Nat):PV->PV
 | .agg cs=>.agg (alL n [] 0 cs)
 | .tup cs=>if noOwnL cs then .tup cs else .none
 | v=>al n [] v
theorem yjB{g:Nat->HV}{n:Nat}:lookPG g (.t n)=alG n (toP (g n)):=by
 show lookG (fun t=>toP (g t)) (.t n)=_
 simp only[lookG]
 cases toP (g n)<;>rfl
theorem yjC{g:Nat->HV}{v:PV}:lookPG g (.k v)=v:=(rfl)
theorem yjD{g:Nat->HV}{n:Nat}:lookPG g (.f n) = .fn n []:=(rfl)
def wantsE(e:HEnv)(g:Option (Nat×Bool)):Option Bool:=wantsG (fun t=>toP (e.get t)) g
theorem yfj{e:HEnv}:wantsE e Option.none=some true:=(rfl)
def wantB(want:Bool):PV->Option Bool
 | .bool b=>some (b==want)
 | .tup []=>some false
 | _=>Option.none
theorem yfk{e:HEnv}{d:Nat}{b:Bool}:wantsE e (some (d,b))=wantB b (toP (e.get d)):=by
 simp only[wantsE,wantsG]
 cases toP (e.get d) with
 | tup cs=>cases cs<;>rfl
 | _=>rfl
theorem ygr{w b:Bool}:wantB w (.bool b)=some (b==w):=(rfl)
theorem ygs{w:Bool}:wantB w (.tup [])=some false:=(rfl)
section
variable {C:Calls'} {H K:HCalls} {T:Nat->Option HF}
theorem ygt{s:HS}:stepsH C H s []=some s:=(rfl)
theorem yfl{s:HS}{o:HI}{r:List HI}:stepsH C H s (o::r)=oel (stepH C H s o) (fun s'=>stepsH C H s' r) (fun _=>Option.none):=by
 simp only[stepsH]
 cases stepH C H s o<;>rfl
theorem yjE{e:HEnv}{st:HSt}{dst:Option Nat}{op:HOp}{g:Option (Nat×Bool)}{bar:Bool}{ls:List Nat}:stepH C H (e,st) ⟨dst,op,g,bar,ls⟩ =
 oel (wantsE e g) (fun b=>bel b (fun _=>stepHL C H (hland (e,st) op.temps) ⟨dst,op,g,bar,ls⟩) (fun _=>some (setH e dst (.p (.tup [])),st))) (fun _=>Option.none):=by
 simp only[stepH,wantsE]
 cases wantsG (fun t=>toP (e.get t)) g with
 | none=>rfl
 | some b=>cases b<;>rfl
theorem yh3{e:HEnv}{st:HSt}{dst:Option Nat}{op:HOp}{g:Option (Nat×Bool)}{bar:Bool}{ls:List Nat}:stepHL C H (e,st) ⟨dst,op,g,bar,ls⟩ =
 oel (evHP C (lookHG e.get) (lookPG e.get) st op) (fun v=>oel dst (fun d=>some (e.set d v,st)) (fun _=>Option.none))
  (fun _=>oel (evHS H (lookHG e.get) st op) (fun r=>some (setH e dst r.1,r.2)) (fun _=>Option.none)):=by
 simp only[stepHL]
 cases evHP C (lookHG e.get) (lookPG e.get) st op with
 | some v=>cases dst<;>rfl
 | none=>cases evHS H (lookHG e.get) st op<;>rfl
theorem ynf{L:XO->HV}{LP:XO->PV}{st:HSt}{o:XOp}:evHP C L LP st (.x o) =
 oel (evHX L st o) some (fun _=>oel (evP C LP (fun _ _=>.none) o) (fun v=>if (v.loose||fresh v)=true then some (.p v) else Option.none) (fun _=>evHN L o)):=by
 simp only[evHP]
 cases evHX L st o with
 | some v=>rfl
 | none=>cases evP C LP (fun _ _=>.none) o<;>rfl
theorem yll{L:XO->HV}{LP:XO->PV}{st:HSt}{f:Nat}{l:List XO}:evHP C L LP st (.bm f l)=some (.bm f (l.map L)):=(rfl)
theorem yh4{L:XO->HV}{LP:XO->PV}{st:HSt}{n:Bool}{x:XO}:evHP C L LP st (.snil n x)=evHV L st (.snil n x):=(rfl)
theorem yh5{L:XO->HV}{LP:XO->PV}{st:HSt}{x:XO}:evHP C L LP st (.slc0 x)=evHV L st (.slc0 x):=(rfl)
theorem yh6{L:XO->HV}{LP:XO->PV}{st:HSt}{n:Nat}{d s:XO}:evHP C L LP st (.copy n d s)=Option.none:=(rfl)
variable {n:Nat}
theorem yh7{s:HS}:evHC C H (n+1) .skip s=some (.norm,s):=(rfl)
theorem yjF{s:HS}:evHC C H (n+1) .ret s=some (.ret,s):=(rfl)
theorem yh8{s:HS}{i:Nat}{k:List Nat}:evHC C H (n+1) (.exit i k) s=some (.exit i,(s.1.keep k,s.2)):=(rfl)
theorem yjG{s:HS}{ops:List HI}{k:List Nat}:evHC C H (n+1) (.reg ops false k) s=oel (stepsH C H s ops) (fun s'=>some (.norm,(s'.1.keep k,s'.2))) (fun _=>Option.none):=by
 simp only[evHC,Al,if_false]
 cases stepsH C H s ops<;>rfl
theorem yh9{s:HS}{ops:List HI}{k:List Nat}:evHC C H (n+1) (.reg ops true k) s=oel (regHD C H s ops) (fun s'=>some (.norm,(s'.1.keep k,s'.2))) (fun _=>Option.none):=by
 simp only[evHC,if_true]
 cases regHD C H s ops<;>rfl
theorem yjH{s:HS}{a b:HC}:evHC C H (n+1) (.seq a b) s=exel (evHC C H n a s) (fun s'=>evHC C H n b s'):=by
 simp only[evHC]
 cases evHC C H n a s with
 | none=>rfl
 | some r=>obtain⟨ex,s'⟩:=r;cases ex<;>rfl
theorem yia{s:HS}{x:XO}{a b:HC}{k:List Nat}:evHC C H (n+1) (.cond x a b k) s=fgtH k (hvel (lookHG s.1.get x) (fun _=>evHC C H n a s) (fun _=>evHC C H n b s)):=by
 simp only[evHC]
 congr 1
theorem ygu{s:HS}{i:Nat}{b:HC}{k:List Nat}:evHC C H (n+1) (.block i b k) s=fgtH k (blkel i (evHC C H n b s)):=by
 simp only[evHC]
 congr 1
theorem ylm{s:HS}{b:HC}{k:List Nat}:evHC C H (n+1) (.loop b k) s=exel (fgtH k (evHC C H n b s)) (fun s'=>evHC C H n (.loop b k) s'):=by
 simp only[evHC]
 cases fgtH k (evHC C H n b s) with
 | none=>rfl
 | some r=>obtain⟨ex,s'⟩:=r;cases ex<;>rfl
theorem yg1{f:Nat}{args:List HV}{st:HSt}:evHF C K T (n+1) f args st =
 oel (K f args st) some (fun _=>oel (T f) (fun x=>if args.length=x.np then
  retel (evHC C (evHF C K T n) n x.body (paramsH 0 args,st)) (fun s=>oel (resHL (hland s (x.res.map resT)) x.res) (fun vs=>some (tupHOf vs,(hland s (x.res.map resT)).2)) (fun _=>Option.none))
  else Option.none) (fun _=>Option.none)):=by
 simp only[evHF]
 cases K f args st with
 | some r=>rfl
 | none=>
   cases T f with
   | none=>rfl
   | some x=>
     show (if args.length=x.np then _ else _)=(if args.length=x.np then _ else _)
     by_cases h:args.length=x.np
     ·rw[if_pos h,if_pos h]
      cases evHC C (evHF C K T n) n x.body (paramsH 0 args,st) with
      | none=>rfl
      | some r=>
        obtain⟨ex,s⟩:=r
        cases ex with
        | exit i=>rfl
        | norm=>simp only[retel];cases resHL (hland s (x.res.map resT)) x.res<;>rfl
        | ret=>simp only[retel];cases resHL (hland s (x.res.map resT)) x.res<;>rfl
     ·rw[if_neg h,if_neg h]
theorem yjI{e:HEnv}{st:HSt}{ops:List HI}:regHD C H (e,st) ops =
 if (hland (e,st) (e.map (·.1))).1.all (fun x=>!isFresh x.2)=true then
  oel (traceHD C H (hland (e,st) (e.map (·.1))) ops) (fun tr=>if stableAll tr tr ops=true then lastO tr else Option.none) (fun _=>Option.none)
 else Option.none:=by
 simp only[regHD]
 split
 ·cases traceHD C H (hland (e,st) (e.map (·.1))) ops<;>rfl
 ·rfl
theorem yfm{s:HS}:traceHD C H s []=some [s]:=(rfl)
theorem yeq{e:HEnv}{st:HSt}{dst:Option Nat}{op:HOp}{g:Option (Nat×Bool)}{bar:Bool}{ls:List Nat}{r:List HI}:traceHD C H (e,st) (⟨dst,op,g,bar,ls⟩::r) =
 bel bar (fun _=>oel (stepH C H (e,st) ⟨dst,op,g,bar,ls⟩) (fun s'=>oel (traceHD C H s' r) (fun t=>some ((e,st)::t)) (fun _=>Option.none)) (fun _=>Option.none))
  (fun _=>oel (stepHD C st e ⟨dst,op,g,bar,ls⟩) (fun p=>oel (traceHD C H (e.set p.1 p.2,st) r) (fun t=>some ((e,st)::t)) (fun _=>Option.none)) (fun _=>Option.none)):=by
 simp only[traceHD]
 cases bar with
 | true=>
   simp only[if_true,bel]
   cases stepH C H (e,st) ⟨dst,op,g,true,ls⟩ with
   | none=>rfl
   | some s'=>cases hh:traceHD C H s' r <;> simp[oel,hh]
 | false=>
   simp only[Al,if_false,bel]
   cases stepHD C st e ⟨dst,op,g,false,ls⟩ with
   | none=>rfl
   | some s'=>obtain⟨d,v⟩:=s';cases hh:traceHD C H (e.set d v,st) r <;> simp[oel,hh]
theorem yib{e:HEnv}{st:HSt}{d:Nat}{op:HOp}{g:Option (Nat×Bool)}{bar:Bool}{ls:List Nat}:stepHD C st e ⟨some d,op,g,bar,ls⟩ =
 oel (wantsE e g) (fun b=>bel b (fun _=>oel (evHP C (lookHG e.get) (lookPG e.get) st op) (fun v=>some (d,v)) (fun _=>Option.none)) (fun _=>some (d,.p (.tup [])))) (fun _=>Option.none):=by
 simp only[stepHD,wantsE]
 cases wantsG (fun t=>toP (e.get t)) g with
 | none=>rfl
 | some b=>
   cases b with
   | false=>rfl
   | true=>simp only[oel,bel];cases evHP C (lookHG e.get) (lookPG e.get) st op<;>rfl
end
theorem yln:(PV.none ).free=false:=(rfl)
theorem ylo(b:Bool):(PV.bool b).free=true:=(rfl)
theorem yng(k:IntKind)(n:Int):(PV.int k n).free=true:=(rfl)
theorem ynh(s:List UInt8):(PV.str s).free=true:=(rfl)
theorem ylp:(PV.nilp ).free=true:=(rfl)
theorem ylq:(PV.nils ).free=true:=(rfl)
theorem ylr:(PV.nilf ).free=true:=(rfl)
theorem ypl(n:Nat)(cs:List PV):(PV.sl n cs).free=true:=(rfl)
theorem ypm(cs:List PV):(PV.sp cs).free=true:=(rfl)
theorem yni(r:Nat)(p:List Nat)(i n:Nat):(PV.ref r p i n).free=false:=(rfl)
theorem yls(r:Nat)(p:List Nat)(o l z:Nat):(PV.view r p o l z).free=false:=(rfl)
theorem ynj(cs:List PV):(PV.box cs).free=false:=(rfl)
theorem ynk(sz len:Nat)(cs:List PV):(PV.own sz len cs).free=false:=(rfl)
theorem ynl(cs:List PV):(PV.agg cs).free=false:=(rfl)
theorem ynm(cs:List PV):(PV.tup cs).free=false:=(rfl)
theorem ypn(f:Nat)(cs:List PV):(PV.fn f cs).free=false:=(rfl)
theorem ym{α:Type}(l r:List α)(k:Nat):(l++r)[l.length+k]? = r[k]?:=by
 rw[A7 (by omega)];congr 1;omega
theorem yy{α:Type}(l r:List α):(l++r)[l.length]? = r[0]?:=by
 rw[A7 (by omega)];congr 1;omega
theorem yeK{α:Type}(l r:List α)(x:α):(l++r).set l.length x=l++r.set 0 x:=by
 rw[Ch _ _ (by omega)];congr 2;omega
theorem yfn{α:Type}(l r:List α)(k:Nat)(x:α):(l++r).set (l.length+k) x=l++r.set k x:=by
 rw[Ch _ _ (by omega)];congr 2;omega
theorem ylt{α:Type}(l r:List α):(l++r).length=l.length+r.length:=Bj
def C0:Calls':=fun _ _=>Option.none
theorem yn3{P:Program}:CallOk P C0:=fun _ _ _ _ h=>by cases h
theorem yic{L:XO->PV}{S:Subs}{f:Nat}{az:List XO}{ms:List Nat}:evP C0 L S (.call f az ms)=Option.none:=by
 cases ms with
 | nil=>
   simp only[evP,C0]
   split<;>rfl
 | cons=>rfl
theorem ygv{L:XO->PV}{S:Subs}{x:XO}{az:List XO}:evP C0 L S (.callv x az)=Option.none:=by
 simp only[evP,C0]
 split
 ·split<;>rfl
 ·rfl
theorem yD{C:Calls'}{K:HCalls}{T:Nat->Option HF}{n:Nat}{f:Nat}{args:List HV}{st:HSt}{x:HF}(hk:∀ws st,K f ws st=Option.none)(hT:T f=some x)(hl:args.length=x.np){r:Option (HV×HSt)}
 (h:retel (evHC C (evHF C K T n) n x.body (paramsH 0 args,st)) (fun s=>oel (resHL (hland s (x.res.map resT)) x.res) (fun vs=>some (tupHOf vs,(hland s (x.res.map resT)).2)) (fun _=>Option.none))=r):evHF C K T (n+1) f args st=r:=by
 rw[yg1,hk,hT,ydD,yby,if_pos hl];exact h
open Go Go.ChangeShapes Go.WideShapes Go.ChangeAt Go.RowKit
section
variable {H:Type} {enc:TypeId×Value->H} {P:Program} {w:World}
theorem ylu{cs:List PV}(h:∀i (hi:i<cs.length),cs[i].free=true):PV.loose (.agg cs)=true:=by
 have h1:noOwnL cs=true:=yap fun c hc=>by obtain⟨i,hi,rfl⟩:=A9 hc;exact yax (h i hi)
 have h2:refsL cs=[]:=ydu fun i hi=>yL (h i hi)
 simp[PV.loose,noOwn,refs,h1,h2]
theorem ymM{n:Nat}{t:TypeId}{v:Value}{d:DataW H}{ps:List MemPlace}{base:Nat}{sp:Nat->Bool}{held:Bool}(hp:plainTy P n t=true)(hval:Value.okWide P w .any base t v)(h:DataW.Trod enc P w 0 sp held t v d ps):
 ∃pv,argPV P n t d=some pv/\(∀hd,RepV w (allSh w) hd pv v)/\pv.loose=true:=by
 obtain⟨fuel,hf⟩:=h
 obtain⟨pvs,h1,h2,h3⟩:=yjm _ _ _ _ _ _ hp hf
 have agg:∀cs,v = .agg cs->(∀hd,RepV w (allSh w) hd (.agg pvs) v)/\PV.loose (.agg pvs)=true:=fun cs hv=>by
  subst hv
  have hl:cs.size=pvs.length:=by simpa[Value.cells] using h2.symm
  refine⟨fun hd=>.agg _ _ _ hl fun i hi=>?_,ylu fun i hi=>(h3 i hi).2⟩
  have:=(h3 i hi).1.any (h3 i hi).2 (Hd.snoc hd i)
  simpa[Value.cells,Array.getD,List.getD,show i<cs.size by omega] using this
 have one:(∀cs,v ≠ .agg cs)->∃x,pvs=[x]/\(∀hd,RepV w (allSh w) hd x v)/\x.loose=true:=fun hv=>by
  have hc:v.cells=#[v]:=by cases v <;> first | rfl|exact absurd rfl (hv _)
  rw[hc] at h2 h3
  obtain⟨x,rfl⟩:=List.length_eq_one_iff.1 (show pvs.length=1 by simpa using h2)
  have:=h3 0 (by simp)
  exact⟨x,rfl,fun hd=>by simpa using this.1.any this.2 hd,yaH (by simpa using this.2)⟩
 unfold argPV
 cases n with
 | zero=>simp[plainTy] at hp
 | succ n=>
   simp only[plainTy] at hp
   unfold Value.okWide at hval
   cases hu:P.underlying t with
   | none=>rw[hu] at hp;cases hp
   | some td=>
     rw[hu] at hp hval
     cases td with
     | struct fs=>
       obtain⟨cs,hv,_⟩:=hval
       exact⟨.agg pvs,by simp[h1],agg cs hv⟩
     | array m e=>
       obtain⟨cs,hv,_⟩:=hval
       exact⟨.agg pvs,by simp[h1],agg cs hv⟩
     | bool=>
       obtain⟨x,rfl,hx⟩:=one (fun cs hv=>by subst hv;simp[Cell.okWide,hu,Cell.ok] at hval)
       exact⟨x,by simp[h1],hx⟩
     | int k=>
       obtain⟨x,rfl,hx⟩:=one (fun cs hv=>by subst hv;simp[Cell.okWide,hu,Cell.ok] at hval)
       exact⟨x,by simp[h1],hx⟩
     | string=>
       obtain⟨x,rfl,hx⟩:=one (fun cs hv=>by subst hv;simp[Cell.okWide,hu,Cell.ok] at hval)
       exact⟨x,by simp[h1],hx⟩
     | slice e=>
       obtain⟨x,rfl,hx⟩:=one (fun cs hv=>by subst hv;simp[Cell.okWide,hu,Cell.ok] at hval)
       exact⟨x,by simp[h1],hx⟩
     | _=>cases hp
theorem yid{n:Nat}{base:Nat}{sp:Nat->Bool}{held:Bool}:∀{ts:List TypeId} {vs:List Value} {ds:List (DataW H)} {ps:List MemPlace},ts.all (fun t=>plainTy P n t)=true ->
 (∀(j:Nat) t v,ts[j]? = some t->vs[j]? = some v->Value.okWide P w .any base t v)->DataW.TrodAll enc P w 0 sp held ts vs ds ps ->
 ∃ws,argsPV P n ts ds=some ws/\ws.length=vs.length/\vs.length=ts.length/\ds.length=ts.length/\∀i (hi:i<ws.length) (hi':i<vs.length),(∀hd,RepV w (allSh w) hd ws[i] vs[i])/\ws[i].loose=true
 | [],vs,ds,ps,hp,hval,h=>by
   cases vs <;> cases ds <;> simp[DataW.TrodAll] at h
   exact⟨[],rfl,rfl,rfl,rfl,fun i hi=>by simp at hi⟩
 | t::ts,vs,ds,ps,hp,hval,h=>by
   obtain⟨v,vs',d,ds',p,q,rfl,rfl,rfl,h1,h2⟩:=trodAll_cons h
   simp only[List.all_cons,Ay] at hp
   obtain⟨pv,h3,h4,h5⟩:=ymM hp.1 (hval 0 t v rfl rfl) h1
   obtain⟨ws,h6,h7,h8,h9,h10⟩:=yid hp.2 (fun j t' v' ht hv=>hval (j+1) t' v' (by simpa using ht) (by simpa using hv)) h2
   refine⟨pv::ws,by simp[argsPV,h3,h6],by simp[h7],by simp[h8],by simp[h9],fun i hi hi'=>?_⟩
   cases i with
   | zero=>exact⟨h4,h5⟩
   | succ i=>exact h10 i (by simpa using hi) (by simpa using hi')
theorem law_contractH{HC:HCalls}(hH:HCallOk P HC)(hl:laidOutB P=true){f:Nat}{fn:Func}{rt:TypeId}(hr:fn.resultTypes=#[rt])(hrt:P.underlying rt=some .bool)
 {ts:List TypeId}{N:Nat}(hps:fn.params.toList=ts)(hplain:ts.all (fun t=>plainTy P N t)=true)(hread:ts.all (fun t=>P.readableRec t&&decide (t<P.types.size))=true)
 {s:ChangeSpec}(hvars:s.vars=[]){args:Array Value}{ds gs:List (DataW H)}{before:List MemPlace}{base:Nat}(hs0:ds.length=ts.length->s.fn H ds={ results:=[.lit (.bool true)],args:=ds })
 (hval:∀(j:Nat) t v,fn.params[j]? = some t->args[j]? = some v->Value.okWide P w .any base t v)
 (hW:DataW.Whole enc P fn.params.toList s.vars false w args.toList ds gs before)
 (hwt:(DataW.weightsEach P (fn.params.toList++s.plain.varTypes P) (ds++gs)).all (·<=reachBytes)=true)
 (law:∀ws,(argsPV P N ts ds=some ws/\∀x∈DataW.weightsEach P ts ds,x<=reachBytes)->∃st',HC f (ws.map .p) []=some (.p (.bool true),st')):
 Calls P f args w fun e w'=>∃v,e = .returned v/\s.post enc P fn false true false false w args v w':=by
 have hW':=hW
 obtain⟨p,q,hA,hV,rfl,hfz,hnd⟩:=hW
 rw[hps] at hA
 obtain⟨ws,h1,h2,h3,h4,h5⟩:=yid hplain (fun j t v ht hv=>hval j t v (by rw[←hps] at ht;simpa using ht) (by simpa using hv)) hA
 have hs:=hs0 h4
 have hwt':∀x∈DataW.weightsEach P ts ds,x<=reachBytes:=fun x hx=>by
  have:=Ax.1 hwt x (by rw[hps];exact yce h4 x hx)
  simpa using this
 obtain⟨st',hev⟩:=law ws ⟨h1,hwt'⟩
 obtain⟨_,hcall⟩:=hH f (ws.map .p) _ _ _ hev
 have hsz:args.size=(ws.map HV.p).length:=by simpa using h2.symm
 have O0:HOk w (allSh w) [] []:=by
  refine⟨ymx w,rfl,fun b j r p i h _=>?_,fun a k h=>by simp at h,fun a b o m k h=>by simp at h,fun a a' b o m o' m' ks vs h=>by simp at h⟩
  simp only[allSh] at h;split at h <;> cases h
 refine Calls.mono (hcall args w (allSh w) [] hsz O0 (fun b j q p i h=>by simp only[allSh] at h;split at h <;> cases h) fun i hi=>?_) fun e w' he=>?_
 ·have hi0:i<ws.length:=by simpa using hi
  have hi':i<args.size:=by omega
  have:=h5 i hi0 (by simpa using hi')
  have h6:=this.1 Option.none
  have:RepH w (allSh w) [] (.p ws[i]) (args.getD i undef):=.p _ _ this.2 (by simpa[Array.getD,hi'] using h6)
  simpa using this
 ·cases e with
  | returned v=>
    obtain⟨L',A',O',_,HR,E0⟩:=he
    have E:Ext w (allSh w) w' L':=⟨E0.os,E0.tape,E0.output,E0.size,E0.lab,fun b hb=>by
     rcases E0.blk b hb with⟨a,o,m,es,c,h,_⟩|h
     ·simp at h
     ·exact h⟩
    have hb:=yhP E
    obtain⟨_,HR⟩:=HR.pv
    cases HR
    have hq:q=[]/\gs=[]:=by
     rw[hvars] at hV
     cases gs with
     | nil=>exact⟨by simpa[DataW.TrodVars] using hV,rfl⟩
     | cons g gs=>simp[DataW.TrodVars] at hV
    obtain⟨rfl,rfl⟩:=hq
    have hlt:∀x∈p,x.block<w.heap.size:=fun x hx=>hW'.lt x (by simp[hx])
    refine⟨_,rfl,ds,[],p++[],[],p,[],hW',?_,?_,?_,hb.frame _,fun h=>by cases h⟩
    ·rw[Br,hs,hr]
     exact trodAll_mk1 (shut_bool hrt true)
    ·rw[Br,hs,hps]
     exact ygh hl hread hA (fun x hx=>hb.same (hlt x hx)) (fun x hx=>by simpa using hlt x hx)
    ·rw[Br,hs,hvars];rfl
  | panicked=>exact he.elim
  | outgrown=>exact he.elim
noncomputable def evHI(C:Calls')(K:HCalls)(T:Nat->Option HF):HCalls:=fun f ws st=>limO fun n=>evHF C K T n f ws st
theorem ycx{C:Calls'}{K:HCalls}{T:Nat->Option HF}{f:Nat}{ws:List HV}{st:HSt}{r:HV×HSt}:evHI C K T f ws st=some r↔∃n,evHF C K T n f ws st=some r:=
 ydv fun n m x hn h=>yz hn _ _ _ _ h
theorem ygw(hm:P.follows .mixedOrders=true){C:Calls'}(hC:CallOk P C){K:HCalls}(hK:HCallOk P K){T:Nat->Option HF}(hT:TOkH P T):HCallOk P (evHI C K T):=by
 intro f ws st r st' h
 obtain⟨n,hn⟩:=ycx.1 h
 exact yd0 hm hC hK hT n f ws st r st' hn
end
open Go
set_option maxRecDepth 100000
theorem yrI:type_of% (Aa (Aa (Aa (Aa (Aa @yiI (Aa @ye3 @yeH)) (Aa (Aa @yiH @ygS) (Aa @ygQ @ygR))) (Aa (Aa (Aa @yiG @step.eq_1) (Aa @steps.eq_1 @steps.eq_2)) (Aa (Aa @stepP.eq_1 @evP.eq_1) (Aa @evP.eq_2 @evP.eq_3)))) (Aa (Aa (Aa @evP.eq_4 (Aa @evP.eq_5 @evP.eq_6)) (Aa (Aa @evP.eq_7 @evP.eq_8) (Aa @evP.eq_9 @evP.eq_10))) (Aa (Aa (Aa @evP.eq_11 @evP.eq_12) (Aa @evP.eq_13 @evP.eq_14)) (Aa (Aa @evP.eq_15 @evP.eq_16) (Aa @evP.eq_17 @evP.eq_18))))) (Aa (Aa (Aa (Aa @evP.eq_19 (Aa @evP.eq_20 @evP.eq_21)) (Aa (Aa @evP.eq_22 @evP.eq_23) (Aa @evP.eq_24 @evP.eq_25))) (Aa (Aa (Aa @evP.eq_26 @evP.eq_27) (Aa @evP.eq_28 @evP.eq_29)) (Aa (Aa @evP.eq_30 @evP.eq_31) (Aa @evS.eq_1 @evS.eq_3)))) (Aa (Aa (Aa @evS.eq_5 (Aa @evS.eq_6 @evS.eq_9)) (Aa (Aa @evS.eq_11 @evS.eq_14) (Aa @blocked.eq_1 @wants.eq_1))) (Aa (Aa (Aa @wantsG.eq_1 @wantsG.eq_2) (Aa @skipped.eq_1 @look.eq_1)) (Aa (Aa @lookG.eq_1 @lookG.eq_2) (Aa @lookG.eq_3 @al.eq_1)))))):=(Aa (Aa (Aa (Aa (Aa @yiI (Aa @ye3 @yeH)) (Aa (Aa @yiH @ygS) (Aa @ygQ @ygR))) (Aa (Aa (Aa @yiG @step.eq_1) (Aa @steps.eq_1 @steps.eq_2)) (Aa (Aa @stepP.eq_1 @evP.eq_1) (Aa @evP.eq_2 @evP.eq_3)))) (Aa (Aa (Aa @evP.eq_4 (Aa @evP.eq_5 @evP.eq_6)) (Aa (Aa @evP.eq_7 @evP.eq_8) (Aa @evP.eq_9 @evP.eq_10))) (Aa (Aa (Aa @evP.eq_11 @evP.eq_12) (Aa @evP.eq_13 @evP.eq_14)) (Aa (Aa @evP.eq_15 @evP.eq_16) (Aa @evP.eq_17 @evP.eq_18))))) (Aa (Aa (Aa (Aa @evP.eq_19 (Aa @evP.eq_20 @evP.eq_21)) (Aa (Aa @evP.eq_22 @evP.eq_23) (Aa @evP.eq_24 @evP.eq_25))) (Aa (Aa (Aa @evP.eq_26 @evP.eq_27) (Aa @evP.eq_28 @evP.eq_29)) (Aa (Aa @evP.eq_30 @evP.eq_31) (Aa @evS.eq_1 @evS.eq_3)))) (Aa (Aa (Aa @evS.eq_5 (Aa @evS.eq_6 @evS.eq_9)) (Aa (Aa @evS.eq_11 @evS.eq_14) (Aa @blocked.eq_1 @wants.eq_1))) (Aa (Aa (Aa @wantsG.eq_1 @wantsG.eq_2) (Aa @skipped.eq_1 @look.eq_1)) (Aa (Aa @lookG.eq_1 @lookG.eq_2) (Aa @lookG.eq_3 @al.eq_1))))))
theorem yrJ:type_of% (Aa (Aa (Aa (Aa (Aa @al.eq_2 (Aa @al.eq_3 @al.eq_4)) (Aa (Aa @al.eq_5 @al.eq_6) (Aa @alL.eq_1 @alL.eq_2))) (Aa (Aa (Aa @purge1.eq_1 @purge1.eq_2) (Aa @purge1.eq_3 @purge1.eq_4)) (Aa (Aa @purge1.eq_5 @purgeL.eq_1) (Aa @purgeL.eq_2 @Env.get.eq_1)))) (Aa (Aa (Aa @Env.get.eq_2 (Aa @Env.set.eq_1 @Env.set.eq_2)) (Aa (Aa @Env.keep.eq_1 @Env.keep.eq_2) (Aa @Env.purgeBy.eq_1 @Env.purgeBy.eq_2))) (Aa (Aa (Aa @Env.purge.eq_1 @Env.setD.eq_1) (Aa @Env.sub.eq_1 @Env.upd.eq_1)) (Aa (Aa @sub.eq_1 @sub.eq_2) (Aa @upd.eq_1 @upd.eq_2))))) (Aa (Aa (Aa (Aa @kids.eq_1 (Aa @kids.eq_2 @kids.eq_3)) (Aa (Aa @kids.eq_4 @setKid.eq_1) (Aa @setKid.eq_2 @setKid.eq_3))) (Aa (Aa (Aa @setKid.eq_4 @frz.eq_1) (Aa @frz.eq_2 @frz.eq_3)) (Aa (Aa @frz.eq_4 @frz.eq_5) (Aa @frz.eq_6 @frz.eq_7)))) (Aa (Aa (Aa @frz.eq_8 (Aa @frz.eq_9 @frzL.eq_1)) (Aa (Aa @frzL.eq_2 @refs.eq_1) (Aa @refs.eq_2 @refs.eq_3))) (Aa (Aa (Aa @refs.eq_4 @refs.eq_5) (Aa @refsL.eq_1 @refsL.eq_2)) (Aa (Aa @noOwn.eq_1 @noOwn.eq_2) (Aa @noOwn.eq_3 @noOwn.eq_4)))))):=(Aa (Aa (Aa (Aa (Aa @al.eq_2 (Aa @al.eq_3 @al.eq_4)) (Aa (Aa @al.eq_5 @al.eq_6) (Aa @alL.eq_1 @alL.eq_2))) (Aa (Aa (Aa @purge1.eq_1 @purge1.eq_2) (Aa @purge1.eq_3 @purge1.eq_4)) (Aa (Aa @purge1.eq_5 @purgeL.eq_1) (Aa @purgeL.eq_2 @Env.get.eq_1)))) (Aa (Aa (Aa @Env.get.eq_2 (Aa @Env.set.eq_1 @Env.set.eq_2)) (Aa (Aa @Env.keep.eq_1 @Env.keep.eq_2) (Aa @Env.purgeBy.eq_1 @Env.purgeBy.eq_2))) (Aa (Aa (Aa @Env.purge.eq_1 @Env.setD.eq_1) (Aa @Env.sub.eq_1 @Env.upd.eq_1)) (Aa (Aa @sub.eq_1 @sub.eq_2) (Aa @upd.eq_1 @upd.eq_2))))) (Aa (Aa (Aa (Aa @kids.eq_1 (Aa @kids.eq_2 @kids.eq_3)) (Aa (Aa @kids.eq_4 @setKid.eq_1) (Aa @setKid.eq_2 @setKid.eq_3))) (Aa (Aa (Aa @setKid.eq_4 @frz.eq_1) (Aa @frz.eq_2 @frz.eq_3)) (Aa (Aa @frz.eq_4 @frz.eq_5) (Aa @frz.eq_6 @frz.eq_7)))) (Aa (Aa (Aa @frz.eq_8 (Aa @frz.eq_9 @frzL.eq_1)) (Aa (Aa @frzL.eq_2 @refs.eq_1) (Aa @refs.eq_2 @refs.eq_3))) (Aa (Aa (Aa @refs.eq_4 @refs.eq_5) (Aa @refsL.eq_1 @refsL.eq_2)) (Aa (Aa @noOwn.eq_1 @noOwn.eq_2) (Aa @noOwn.eq_3 @noOwn.eq_4))))))
theorem yrK:type_of% (Aa (Aa (Aa (Aa (Aa @noOwn.eq_5 (Aa @noOwnL.eq_1 @noOwnL.eq_2)) (Aa (Aa @PV.free.eq_1 @PV.free.eq_2) (Aa @PV.free.eq_3 @PV.free.eq_4))) (Aa (Aa (Aa @PV.free.eq_5 @PV.free.eq_6) (Aa @PV.free.eq_7 @PV.free.eq_8)) (Aa (Aa @take1.eq_1 @take1.eq_2) (Aa @takeL.eq_1 @takeL.eq_2)))) (Aa (Aa (Aa @copy1.eq_1 (Aa @copyL.eq_1 @copyL.eq_2)) (Aa (Aa @pass1.eq_1 @pass1.eq_2) (Aa @pass1.eq_3 @passL.eq_1))) (Aa (Aa (Aa @passL.eq_2 @share.eq_1) (Aa @lend.eq_1 @lend.eq_2)) (Aa (Aa @lend1.eq_1 @lendL.eq_1) (Aa @lendL.eq_2 @lend1L.eq_1))))) (Aa (Aa (Aa (Aa @lend1L.eq_2 (Aa @give.eq_1 @give.eq_2)) (Aa (Aa @give.eq_3 @give.eq_4) (Aa @resVal.eq_1 @resVal.eq_2))) (Aa (Aa (Aa @resL.eq_1 @resL.eq_2) (Aa @outsOf.eq_1 @outsOf.eq_2)) (Aa (Aa @tupOf.eq_1 @params.eq_1) (Aa @params.eq_2 @stepD.eq_1)))) (Aa (Aa (Aa @stepsD.eq_1 (Aa @stepsD.eq_2 @regD.eq_1)) (Aa (Aa @dstsOf.eq_1 @dstsOf.eq_2) (Aa @setCells.eq_1 @setCells.eq_2))) (Aa (Aa (Aa @putObj.eq_1 @cells.eq_1) (Aa @fillP.eq_1 @fillP.eq_2)) (Aa (Aa @rep.eq_1 @rep.eq_2) (Aa @part.eq_1 @objCells.eq_1)))))):=(Aa (Aa (Aa (Aa (Aa @noOwn.eq_5 (Aa @noOwnL.eq_1 @noOwnL.eq_2)) (Aa (Aa @PV.free.eq_1 @PV.free.eq_2) (Aa @PV.free.eq_3 @PV.free.eq_4))) (Aa (Aa (Aa @PV.free.eq_5 @PV.free.eq_6) (Aa @PV.free.eq_7 @PV.free.eq_8)) (Aa (Aa @take1.eq_1 @take1.eq_2) (Aa @takeL.eq_1 @takeL.eq_2)))) (Aa (Aa (Aa @copy1.eq_1 (Aa @copyL.eq_1 @copyL.eq_2)) (Aa (Aa @pass1.eq_1 @pass1.eq_2) (Aa @pass1.eq_3 @passL.eq_1))) (Aa (Aa (Aa @passL.eq_2 @share.eq_1) (Aa @lend.eq_1 @lend.eq_2)) (Aa (Aa @lend1.eq_1 @lendL.eq_1) (Aa @lendL.eq_2 @lend1L.eq_1))))) (Aa (Aa (Aa (Aa @lend1L.eq_2 (Aa @give.eq_1 @give.eq_2)) (Aa (Aa @give.eq_3 @give.eq_4) (Aa @resVal.eq_1 @resVal.eq_2))) (Aa (Aa (Aa @resL.eq_1 @resL.eq_2) (Aa @outsOf.eq_1 @outsOf.eq_2)) (Aa (Aa @tupOf.eq_1 @params.eq_1) (Aa @params.eq_2 @stepD.eq_1)))) (Aa (Aa (Aa @stepsD.eq_1 (Aa @stepsD.eq_2 @regD.eq_1)) (Aa (Aa @dstsOf.eq_1 @dstsOf.eq_2) (Aa @setCells.eq_1 @setCells.eq_2))) (Aa (Aa (Aa @putObj.eq_1 @cells.eq_1) (Aa @fillP.eq_1 @fillP.eq_2)) (Aa (Aa @rep.eq_1 @rep.eq_2) (Aa @part.eq_1 @objCells.eq_1))))))
theorem yrL:type_of% (Aa (Aa (Aa (Aa (Aa @objCells.eq_2 (Aa @pvBin.eq_1 @pvBin.eq_2)) (Aa (Aa @intBin.eq_1 @intBin.eq_2) (Aa @intBin.eq_3 @intBin.eq_4))) (Aa (Aa (Aa @intBin.eq_5 @intBin.eq_6) (Aa @intBin.eq_7 @intBin.eq_8)) (Aa (Aa @intBin.eq_9 @intBin.eq_10) (Aa @intBin.eq_11 @intBin.eq_12)))) (Aa (Aa (Aa @intBin.eq_13 (Aa @intBin.eq_14 @intBin.eq_15)) (Aa (Aa @intBin.eq_16 @intBin.eq_17) (Aa @strBin.eq_1 @strBin.eq_2))) (Aa (Aa (Aa @strBin.eq_3 @slCells.eq_1) (Aa @slCells.eq_2 @slCells.eq_3)) (Aa (Aa @bnd.eq_1 @bnd.eq_2) (Aa @refAt.eq_1 @refAt.eq_2))))) (Aa (Aa (Aa (Aa @waysOf.eq_1 (Aa @und.eq_1 @deep.eq_1)) (Aa (Aa @canUpd.eq_1 @isT.eq_1) (Aa @setO.eq_1 @setO.eq_2))) (Aa (Aa (Aa @boxOnly.eq_1 @boxOnly.eq_2) (Aa @purges.eq_1 @purges.eq_2)) (Aa (Aa @PV.lok.eq_1 @PV.lok.eq_2) (Aa @eqCells.eq_1 @eqCells.eq_2)))) (Aa (Aa (Aa @eqCells.eq_3 (Aa @eqCells.eq_4 @pvBeq.eq_1)) (Aa (Aa @pvAeq.eq_1 @pvPeq.eq_1) (Aa @pvPeq.eq_2 @pvPeq.eq_3))) (Aa (Aa (Aa @pvPeq.eq_4 @pvPeq.eq_5) (Aa @pvUn.eq_1 @pvUn.eq_2)) (Aa (Aa @PV.isNone.eq_1 @lent.eq_1) (Aa @lent.eq_2 @lent.eq_3)))))):=(Aa (Aa (Aa (Aa (Aa @objCells.eq_2 (Aa @pvBin.eq_1 @pvBin.eq_2)) (Aa (Aa @intBin.eq_1 @intBin.eq_2) (Aa @intBin.eq_3 @intBin.eq_4))) (Aa (Aa (Aa @intBin.eq_5 @intBin.eq_6) (Aa @intBin.eq_7 @intBin.eq_8)) (Aa (Aa @intBin.eq_9 @intBin.eq_10) (Aa @intBin.eq_11 @intBin.eq_12)))) (Aa (Aa (Aa @intBin.eq_13 (Aa @intBin.eq_14 @intBin.eq_15)) (Aa (Aa @intBin.eq_16 @intBin.eq_17) (Aa @strBin.eq_1 @strBin.eq_2))) (Aa (Aa (Aa @strBin.eq_3 @slCells.eq_1) (Aa @slCells.eq_2 @slCells.eq_3)) (Aa (Aa @bnd.eq_1 @bnd.eq_2) (Aa @refAt.eq_1 @refAt.eq_2))))) (Aa (Aa (Aa (Aa @waysOf.eq_1 (Aa @und.eq_1 @deep.eq_1)) (Aa (Aa @canUpd.eq_1 @isT.eq_1) (Aa @setO.eq_1 @setO.eq_2))) (Aa (Aa (Aa @boxOnly.eq_1 @boxOnly.eq_2) (Aa @purges.eq_1 @purges.eq_2)) (Aa (Aa @PV.lok.eq_1 @PV.lok.eq_2) (Aa @eqCells.eq_1 @eqCells.eq_2)))) (Aa (Aa (Aa @eqCells.eq_3 (Aa @eqCells.eq_4 @pvBeq.eq_1)) (Aa (Aa @pvAeq.eq_1 @pvPeq.eq_1) (Aa @pvPeq.eq_2 @pvPeq.eq_3))) (Aa (Aa (Aa @pvPeq.eq_4 @pvPeq.eq_5) (Aa @pvUn.eq_1 @pvUn.eq_2)) (Aa (Aa @PV.isNone.eq_1 @lent.eq_1) (Aa @lent.eq_2 @lent.eq_3))))))
theorem yrM:type_of% (Aa (Aa (Aa (Aa @PV.flat1.eq_1 @PV.flat1.eq_2) (Aa @PV.flat1.eq_3 @PV.flat.eq_1)) (Aa (Aa @PV.flat.eq_2 @norm1.eq_1) (Aa @lendCaps.eq_1 @lendCaps.eq_2))) (Aa (Aa (Aa @fgt.eq_1 @seqK.eq_1) (Aa @blockK.eq_1 @condK.eq_1)) (Aa (Aa @condK.eq_2 @PV.isView.eq_1) (Aa @PV.isRef.eq_1 @bytesOf.eq_1)))):=(Aa (Aa (Aa (Aa @PV.flat1.eq_1 @PV.flat1.eq_2) (Aa @PV.flat1.eq_3 @PV.flat.eq_1)) (Aa (Aa @PV.flat.eq_2 @norm1.eq_1) (Aa @lendCaps.eq_1 @lendCaps.eq_2))) (Aa (Aa (Aa @fgt.eq_1 @seqK.eq_1) (Aa @blockK.eq_1 @condK.eq_1)) (Aa (Aa @condK.eq_2 @PV.isView.eq_1) (Aa @PV.isRef.eq_1 @bytesOf.eq_1))))
theorem yrN:(∀(r:Nat) (p:List Nat) (b:Bool),al r p (.bool b)=(.bool b)) /\
 (∀(r:Nat) (p:List Nat) (k:IntKind) (n:Int),al r p (.int k n)=(.int k n)) /\
 (∀(r:Nat) (p:List Nat) (s:List UInt8),al r p (.str s)=(.str s)) /\
 (∀(r:Nat) (p:List Nat) ,al r p (.nilp)=(.nilp)) /\
 (∀(r:Nat) (p:List Nat) ,al r p (.nilf)=(.nilf)) /\
 (∀(r:Nat) (p:List Nat) (l:Nat) (c:List PV),al r p (.sl l c)=(.sl l c)) /\
 (∀(r:Nat) (p:List Nat) (c:List PV),al r p (.sp c)=(.sp c)) /\
 (∀(r:Nat) (p:List Nat) ,al r p (.nils)=(.nils)) /\
 (∀(r:Nat) (p:List Nat) ,al r p (PV.none)=(PV.none)) /\
 (∀(r:Nat) (p:List Nat) (r2:Nat) (p2:List Nat) (o l z:Nat),al r p (.view r2 p2 o l z)=(.view r2 p2 o l z)) /\
 (∀(r:Nat) (p:List Nat) (r2:Nat) (p2:List Nat) (i n:Nat),al r p (.ref r2 p2 i n)=(.ref r2 p2 i n)) /\
 (∀(f:Nat->List Nat->Bool) (b:Bool),purge1 f (.bool b)=(.bool b)) /\
 (∀(f:Nat->List Nat->Bool) (k:IntKind) (n:Int),purge1 f (.int k n)=(.int k n)) /\
 (∀(f:Nat->List Nat->Bool) (s:List UInt8),purge1 f (.str s)=(.str s)) /\
 (∀(f:Nat->List Nat->Bool) ,purge1 f (.nilp)=(.nilp)) /\
 (∀(f:Nat->List Nat->Bool) ,purge1 f (.nilf)=(.nilf)) /\
 (∀(f:Nat->List Nat->Bool) (l:Nat) (c:List PV),purge1 f (.sl l c)=(.sl l c)) /\
 (∀(f:Nat->List Nat->Bool) (c:List PV),purge1 f (.sp c)=(.sp c)) /\
 (∀(f:Nat->List Nat->Bool) ,purge1 f (.nils)=(.nils)) /\
 (∀(f:Nat->List Nat->Bool) ,purge1 f (PV.none)=(PV.none)) /\
 (∀(f:Nat->List Nat->Bool) (a l:Nat) (c:List PV),purge1 f (.own a l c)=(.own a l c)) /\
 (∀(f:Nat->List Nat->Bool) (c:List PV),purge1 f (.box c)=(.box c)) /\
 (∀(k:IntKind) (n:Int),kids (.int k n)=[]) /\
 (∀(b:Bool),frz (.bool b)=some (.bool b)) /\
 (∀(k:IntKind) (n:Int),frz (.int k n)=some (.int k n)) /\
 (∀(s:List UInt8),frz (.str s)=some (.str s)) /\
 (frz (.nilp)=some (.nilp)) /\
 (frz (.nilf)=some (.nilf)) /\
 (∀(l:Nat) (c:List PV),frz (.sl l c)=some (.sl l c)) /\
 (∀(c:List PV),frz (.sp c)=some (.sp c)) /\
 (∀(b:Bool),refs (.bool b)=[]) /\
 (∀(k:IntKind) (n:Int),refs (.int k n)=[]) /\
 (∀(s:List UInt8),refs (.str s)=[]) /\
 (refs (.nilp)=[]) /\
 (refs (.nilf)=[]) /\
 (∀(l:Nat) (c:List PV),refs (.sl l c)=[]) /\
 (∀(c:List PV),refs (.sp c)=[]) /\
 (refs (.nils)=[]) /\
 (refs (PV.none)=[]) /\
 (∀(a l:Nat) (c:List PV),refs (.own a l c)=[]) /\
 (∀(c:List PV),refs (.box c)=[]) /\
 (∀(ds:List Nat) (b:Bool),noRefs ds (.bool b)=true) /\
 (∀(ds:List Nat) (k:IntKind) (n:Int),noRefs ds (.int k n)=true) /\
 (∀(ds:List Nat) (s:List UInt8),noRefs ds (.str s)=true) /\
 (∀(ds:List Nat) ,noRefs ds (.nilp)=true) /\
 (∀(ds:List Nat) ,noRefs ds (.nilf)=true) /\
 (∀(ds:List Nat) (l:Nat) (c:List PV),noRefs ds (.sl l c)=true) /\
 (∀(ds:List Nat) (c:List PV),noRefs ds (.sp c)=true) /\
 (∀(ds:List Nat) ,noRefs ds (.nils)=true) /\
 (∀(ds:List Nat) ,noRefs ds (PV.none)=true) /\
 (∀(ds:List Nat) (a l:Nat) (c:List PV),noRefs ds (.own a l c)=true) /\
 (∀(ds:List Nat) (c:List PV),noRefs ds (.box c)=true) /\
 (∀(ds:List Nat) (r:Nat) (p:List Nat) (i n:Nat),noRefs ds (.ref r p i n)=(!ds.contains r&&true)) /\
 (∀(ds:List Nat) (r:Nat) (p:List Nat) (o l z:Nat),noRefs ds (.view r p o l z)=(!ds.contains r&&true)) /\
 (∀(ds:List Nat),noRefs ds (.tup [])=true) /\
 (∀(b:Bool),noOwn (.bool b)=true) /\
 (∀(k:IntKind) (n:Int),noOwn (.int k n)=true) /\
 (∀(s:List UInt8),noOwn (.str s)=true) /\
 (noOwn (.nilp)=true) /\
 (noOwn (.nilf)=true):=by
 refine⟨?_,?_,?_,?_,?_,?_,?_,?_,?_,?_,?_,?_,?_,?_,?_,?_,?_,?_,?_,?_,?_,?_,?_,?_,?_,?_,?_,?_,?_,?_,?_,?_,?_,?_,?_,?_,?_,?_,?_,?_,?_,?_,?_,?_,?_,?_,?_,?_,?_,?_,?_,?_,?_,?_,?_,?_,?_,?_,?_,?_⟩<;>intros<;>rfl
theorem yrO:(∀(l:Nat) (c:List PV),noOwn (.sl l c)=true) /\
 (∀(c:List PV),noOwn (.sp c)=true) /\
 (noOwn (.nils)=true) /\
 (noOwn (PV.none)=true) /\
 (∀(r2:Nat) (p2:List Nat) (o l z:Nat),noOwn (.view r2 p2 o l z)=true) /\
 (∀(r2:Nat) (p2:List Nat) (i n:Nat),noOwn (.ref r2 p2 i n)=true) /\
 (∀(b:Bool),PV.free (.bool b)=true) /\
 (∀(k:IntKind) (n:Int),PV.free (.int k n)=true) /\
 (∀(s:List UInt8),PV.free (.str s)=true) /\
 (PV.free (.nilp)=true) /\
 (PV.free (.nilf)=true) /\
 (∀(l:Nat) (c:List PV),PV.free (.sl l c)=true) /\
 (∀(c:List PV),PV.free (.sp c)=true) /\
 (PV.free (.nils)=true) /\
 (∀(e:Env) (b:Bool),take1 e (.bool b)=some ((.bool b),e)) /\
 (∀(e:Env) (k:IntKind) (n:Int),take1 e (.int k n)=some ((.int k n),e)) /\
 (∀(e:Env) (s:List UInt8),take1 e (.str s)=some ((.str s),e)) /\
 (∀(e:Env) ,take1 e (.nilp)=some ((.nilp),e)) /\
 (∀(e:Env) ,take1 e (.nilf)=some ((.nilf),e)) /\
 (∀(e:Env) (l:Nat) (c:List PV),take1 e (.sl l c)=some ((.sl l c),e)) /\
 (∀(e:Env) (c:List PV),take1 e (.sp c)=some ((.sp c),e)) /\
 (∀(e:Env) ,take1 e (.nils)=some ((.nils),e)) /\
 (∀(e:Env) (b:Bool),copy1 e (.bool b)=some ((.bool b),e)) /\
 (∀(e:Env) (k:IntKind) (n:Int),copy1 e (.int k n)=some ((.int k n),e)) /\
 (∀(e:Env) (s:List UInt8),copy1 e (.str s)=some ((.str s),e)) /\
 (∀(e:Env) ,copy1 e (.nilp)=some ((.nilp),e)) /\
 (∀(e:Env) ,copy1 e (.nilf)=some ((.nilf),e)) /\
 (∀(e:Env) (l:Nat) (c:List PV),copy1 e (.sl l c)=some ((.sl l c),e)) /\
 (∀(e:Env) (c:List PV),copy1 e (.sp c)=some ((.sp c),e)) /\
 (∀(e:Env) ,copy1 e (.nils)=some ((.nils),e)) /\
 (∀(e:Env) (b:Bool),pass1 e (.bool b)=some ((.bool b),e)) /\
 (∀(e:Env) (k:IntKind) (n:Int),pass1 e (.int k n)=some ((.int k n),e)) /\
 (∀(e:Env) (s:List UInt8),pass1 e (.str s)=some ((.str s),e)) /\
 (∀(e:Env) ,pass1 e (.nilp)=some ((.nilp),e)) /\
 (∀(e:Env) ,pass1 e (.nilf)=some ((.nilf),e)) /\
 (∀(e:Env) (l:Nat) (c:List PV),pass1 e (.sl l c)=some ((.sl l c),e)) /\
 (∀(e:Env) (c:List PV),pass1 e (.sp c)=some ((.sp c),e)) /\
 (∀(e:Env) ,pass1 e (.nils)=copy1 e (.nils)) /\
 (∀(e:Env) (r2:Nat) (p2:List Nat) (o l z:Nat),pass1 e (.view r2 p2 o l z)=copy1 e (.view r2 p2 o l z)) /\
 (∀(S:Subs) (b:Bool),lend1 S (.bool b)=some (.bool b)) /\
 (∀(S:Subs) (k:IntKind) (n:Int),lend1 S (.int k n)=some (.int k n)) /\
 (∀(S:Subs) (s:List UInt8),lend1 S (.str s)=some (.str s)) /\
 (∀(S:Subs) ,lend1 S (.nilp)=some (.nilp)) /\
 (∀(S:Subs) ,lend1 S (.nilf)=some (.nilf)) /\
 (∀(S:Subs) (l:Nat) (c:List PV),lend1 S (.sl l c)=some (.sl l c)) /\
 (∀(S:Subs) (c:List PV),lend1 S (.sp c)=some (.sp c)) /\
 (∀(S:Subs) ,lend1 S (.nils)=some (.nils)) /\
 (∀(S:Subs) (r2:Nat) (p2:List Nat) (i n:Nat),lend1 S (.ref r2 p2 i n)=none) /\
 (∀(S:Subs) (b:Bool),lend S (.bool b)=lend1 S (.bool b)) /\
 (∀(S:Subs) (k:IntKind) (n:Int),lend S (.int k n)=lend1 S (.int k n)) /\
 (∀(S:Subs) (s:List UInt8),lend S (.str s)=lend1 S (.str s)) /\
 (∀(S:Subs) ,lend S (.nilp)=lend1 S (.nilp)) /\
 (∀(S:Subs) ,lend S (.nilf)=lend1 S (.nilf)) /\
 (∀(S:Subs) (l:Nat) (c:List PV),lend S (.sl l c)=lend1 S (.sl l c)) /\
 (∀(S:Subs) (c:List PV),lend S (.sp c)=lend1 S (.sp c)) /\
 (∀(S:Subs) ,lend S (.nils)=lend1 S (.nils)) /\
 (∀(S:Subs) (r2:Nat) (p2:List Nat) (o l z:Nat),lend S (.view r2 p2 o l z)=lend1 S (.view r2 p2 o l z)) /\
 (∀(S:Subs) (r2:Nat) (p2:List Nat) (i n:Nat),lend S (.ref r2 p2 i n)=lend1 S (.ref r2 p2 i n)) /\
 (∀(kp:Bool) (e:Env) (b:Bool),give kp e (.bool b)=some ((.bool b),e)) /\
 (∀(kp:Bool) (e:Env) (k:IntKind) (n:Int),give kp e (.int k n)=some ((.int k n),e)):=by
 refine⟨?_,?_,?_,?_,?_,?_,?_,?_,?_,?_,?_,?_,?_,?_,?_,?_,?_,?_,?_,?_,?_,?_,?_,?_,?_,?_,?_,?_,?_,?_,?_,?_,?_,?_,?_,?_,?_,?_,?_,?_,?_,?_,?_,?_,?_,?_,?_,?_,?_,?_,?_,?_,?_,?_,?_,?_,?_,?_,?_,?_⟩<;>intros<;>rfl
theorem yrP:(∀(kp:Bool) (e:Env) (s:List UInt8),give kp e (.str s)=some ((.str s),e)) /\
 (∀(kp:Bool) (e:Env) ,give kp e (.nilp)=some ((.nilp),e)) /\
 (∀(kp:Bool) (e:Env) ,give kp e (.nilf)=some ((.nilf),e)) /\
 (∀(kp:Bool) (e:Env) (l:Nat) (c:List PV),give kp e (.sl l c)=some ((.sl l c),e)) /\
 (∀(kp:Bool) (e:Env) (c:List PV),give kp e (.sp c)=some ((.sp c),e)) /\
 (∀(a b:PV) (r:List PV),tupOf (a::b::r) = .tup (a::b::r)) /\
 (tupOf [] = .tup []) /\
 (∀(b:Bool),objCells (.bool b)=Option.none) /\
 (∀(k:IntKind) (n:Int),objCells (.int k n)=Option.none) /\
 (∀(s:List UInt8),objCells (.str s)=Option.none) /\
 (objCells (.nilp)=Option.none) /\
 (objCells (.nilf)=Option.none) /\
 (∀(l:Nat) (c:List PV),objCells (.sl l c)=Option.none) /\
 (∀(c:List PV),objCells (.sp c)=Option.none) /\
 (objCells (.nils)=Option.none) /\
 (objCells (PV.none)=Option.none) /\
 (∀(b:Bool),cells (.bool b)=[(.bool b)]) /\
 (∀(k:IntKind) (n:Int),cells (.int k n)=[(.int k n)]) /\
 (∀(s:List UInt8),cells (.str s)=[(.str s)]) /\
 (cells (.nilp)=[(.nilp)]) /\
 (cells (.nilf)=[(.nilf)]) /\
 (∀(l:Nat) (c:List PV),cells (.sl l c)=[(.sl l c)]) /\
 (∀(c:List PV),cells (.sp c)=[(.sp c)]) /\
 (cells (.nils)=[(.nils)]) /\
 (∀(r2:Nat) (p2:List Nat) (o l z:Nat),cells (.view r2 p2 o l z)=[(.view r2 p2 o l z)]) /\
 (∀(r2:Nat) (p2:List Nat) (i n:Nat),cells (.ref r2 p2 i n)=[(.ref r2 p2 i n)]) /\
 (∀(b:Bool),waysOf (.bool b)=refs (.bool b)) /\
 (∀(k:IntKind) (n:Int),waysOf (.int k n)=refs (.int k n)) /\
 (∀(s:List UInt8),waysOf (.str s)=refs (.str s)) /\
 (waysOf (.nilp)=refs (.nilp)) /\
 (waysOf (.nilf)=refs (.nilf)) /\
 (∀(l:Nat) (c:List PV),waysOf (.sl l c)=refs (.sl l c)) /\
 (∀(c:List PV),waysOf (.sp c)=refs (.sp c)) /\
 (waysOf (.nils)=refs (.nils)) /\
 (∀(r2:Nat) (p2:List Nat) (o l z:Nat),waysOf (.view r2 p2 o l z)=refs (.view r2 p2 o l z)) /\
 (∀(b:Bool),boxOnly (.bool b)=PV.none) /\
 (∀(k:IntKind) (n:Int),boxOnly (.int k n)=PV.none) /\
 (∀(s:List UInt8),boxOnly (.str s)=PV.none) /\
 (boxOnly (.nilp)=PV.none) /\
 (boxOnly (.nilf)=PV.none) /\
 (∀(l:Nat) (c:List PV),boxOnly (.sl l c)=PV.none) /\
 (∀(c:List PV),boxOnly (.sp c)=PV.none) /\
 (boxOnly (.nils)=PV.none) /\
 (boxOnly (PV.none)=PV.none) /\
 (∀(r2:Nat) (p2:List Nat) (o l z:Nat),boxOnly (.view r2 p2 o l z)=PV.none) /\
 (∀(r2:Nat) (p2:List Nat) (i n:Nat),boxOnly (.ref r2 p2 i n)=PV.none) /\
 (∀(c:List PV),boxOnly (.agg c) = .none) /\
 (∀(c:List PV),boxOnly (.tup c) = .none) /\
 (∀(b:Bool),PV.lok (.bool b)=true) /\
 (∀(k:IntKind) (n:Int),PV.lok (.int k n)=true) /\
 (∀(s:List UInt8),PV.lok (.str s)=true) /\
 (PV.lok (.nilp)=true) /\
 (PV.lok (.nilf)=true) /\
 (∀(l:Nat) (c:List PV),PV.lok (.sl l c)=true) /\
 (∀(c:List PV),PV.lok (.sp c)=true) /\
 (PV.lok (.nils)=true) /\
 (∀(b:Bool),PV.isNone (.bool b)=false) /\
 (∀(k:IntKind) (n:Int),PV.isNone (.int k n)=false) /\
 (∀(s:List UInt8),PV.isNone (.str s)=false) /\
 (PV.isNone (.nilp)=false):=by
 refine⟨?_,?_,?_,?_,?_,?_,?_,?_,?_,?_,?_,?_,?_,?_,?_,?_,?_,?_,?_,?_,?_,?_,?_,?_,?_,?_,?_,?_,?_,?_,?_,?_,?_,?_,?_,?_,?_,?_,?_,?_,?_,?_,?_,?_,?_,?_,?_,?_,?_,?_,?_,?_,?_,?_,?_,?_,?_,?_,?_,?_⟩<;>intros<;>rfl
theorem yrQ:(PV.isNone (.nilf)=false) /\
 (∀(l:Nat) (c:List PV),PV.isNone (.sl l c)=false) /\
 (∀(c:List PV),PV.isNone (.sp c)=false) /\
 (PV.isNone (.nils)=false) /\
 (∀(r2:Nat) (p2:List Nat) (o l z:Nat),PV.isNone (.view r2 p2 o l z)=false) /\
 (∀(r2:Nat) (p2:List Nat) (i n:Nat),PV.isNone (.ref r2 p2 i n)=false) /\
 (∀(c:List PV),PV.isNone (.agg c)=false) /\
 (∀(b:Bool),PV.isView (.bool b)=false) /\
 (∀(k:IntKind) (n:Int),PV.isView (.int k n)=false) /\
 (∀(s:List UInt8),PV.isView (.str s)=false) /\
 (PV.isView (.nilp)=false) /\
 (PV.isView (.nilf)=false) /\
 (∀(l:Nat) (c:List PV),PV.isView (.sl l c)=false) /\
 (∀(c:List PV),PV.isView (.sp c)=false) /\
 (PV.isView (.nils)=false) /\
 (∀(b:Bool),lent (.bool b)=false) /\
 (∀(k:IntKind) (n:Int),lent (.int k n)=false) /\
 (∀(s:List UInt8),lent (.str s)=false) /\
 (lent (.nilp)=false) /\
 (lent (.nilf)=false) /\
 (∀(l:Nat) (c:List PV),lent (.sl l c)=false) /\
 (∀(c:List PV),lent (.sp c)=false) /\
 (lent (.nils)=false) /\
 (∀(r2:Nat) (p2:List Nat) (i n:Nat),lent (.ref r2 p2 i n)=false) /\
 (PV.flat1 (.nilp)=false) /\
 (∀(l:Nat) (c:List PV),PV.flat1 (.sl l c)=false) /\
 (∀(c:List PV),PV.flat1 (.sp c)=false) /\
 (∀(b:Bool),PV.flat (.bool b)=PV.flat1 (.bool b)) /\
 (∀(k:IntKind) (n:Int),PV.flat (.int k n)=PV.flat1 (.int k n)) /\
 (∀(s:List UInt8),PV.flat (.str s)=PV.flat1 (.str s)) /\
 (PV.flat (.nilp)=PV.flat1 (.nilp)) /\
 (PV.flat (.nilf)=PV.flat1 (.nilf)) /\
 (∀(l:Nat) (c:List PV),PV.flat (.sl l c)=PV.flat1 (.sl l c)) /\
 (∀(c:List PV),PV.flat (.sp c)=PV.flat1 (.sp c)) /\
 (∀(b:Bool),norm1 (.bool b)=(.bool b)) /\
 (∀(k:IntKind) (n:Int),norm1 (.int k n)=(.int k n)) /\
 (∀(s:List UInt8),norm1 (.str s)=(.str s)) /\
 (norm1 (.nilp)=(.nilp)) /\
 (norm1 (.nilf)=(.nilf)) /\
 (∀(l:Nat) (c:List PV),norm1 (.sl l c)=(.sl l c)) /\
 (∀(c:List PV),norm1 (.sp c)=(.sp c)) /\
 (∀(ws:List PV),argsIn false ws=ws.map normA) /\
 (∀(ws:List PV),argsIn true ws=ws) /\
 (∀(b:Bool),normA (.bool b)=(.bool b)) /\
 (∀(k:IntKind) (n:Int),normA (.int k n)=(.int k n)) /\
 (∀(s:List UInt8),normA (.str s)=(.str s)) /\
 (normA (.nilp)=(.nilp)) /\
 (normA (.nilf)=(.nilf)) /\
 (∀(l:Nat) (c:List PV),normA (.sl l c)=(.sl l c)) /\
 (∀(c:List PV),normA (.sp c)=(.sp c)) /\
 (∀(r2:Nat) (p2:List Nat) (o l z:Nat),normA (.view r2 p2 o l z)=(.view r2 p2 o l z)) /\
 (∀(r2:Nat) (p2:List Nat) (i n:Nat),normA (.ref r2 p2 i n)=(.ref r2 p2 i n)) /\
 (∀(a l:Nat) (c:List PV),normA (.own a l c)=(.own a l c)) /\
 (∀(c:List PV),normA (.box c)=(.box c)) /\
 (normA .nils = .sl 0 []) /\
 (∀(c:List PV),normA (.agg c) = .agg (c.map norm1)) /\
 (∀(f:Nat) (c:List PV),normA (.fn f c) = .fn f c) /\
 (∀(e:Env) (vs:List PV),rowAt e [] vs=Option.none) /\
 (∀(e:Env) (k:Nat) (m:List Nat) (vs:List PV),rowAt e (k::m) vs=(match vs[k]? with | some (.view q p off len z)=>(match e.sub q p with | .own sz n cs=>if off=0/\len=n/\z=sz then some (k,q,p,sz,n,cs) else Option.none|_=>Option.none) | _=>Option.none)) /\
 (∀(r:List PV) (b:Bool),refAt ((.bool b)::r)=(refAt r).map fun (k,q)=>(k+1,q)):=by
 refine⟨?_,?_,?_,?_,?_,?_,?_,?_,?_,?_,?_,?_,?_,?_,?_,?_,?_,?_,?_,?_,?_,?_,?_,?_,?_,?_,?_,?_,?_,?_,?_,?_,?_,?_,?_,?_,?_,?_,?_,?_,?_,?_,?_,?_,?_,?_,?_,?_,?_,?_,?_,?_,?_,?_,?_,?_,?_,?_,?_,?_⟩<;>intros<;>rfl
theorem yrR:(∀(r:List PV) (k:IntKind) (n:Int),refAt ((.int k n)::r)=(refAt r).map fun (k,q)=>(k+1,q)) /\
 (∀(r:List PV) (s:List UInt8),refAt ((.str s)::r)=(refAt r).map fun (k,q)=>(k+1,q)) /\
 (∀(r:List PV) ,refAt ((.nilp)::r)=(refAt r).map fun (k,q)=>(k+1,q)) /\
 (∀(r:List PV) ,refAt ((.nilf)::r)=(refAt r).map fun (k,q)=>(k+1,q)) /\
 (∀(r:List PV) (l:Nat) (c:List PV),refAt ((.sl l c)::r)=(refAt r).map fun (k,q)=>(k+1,q)) /\
 (∀(r:List PV) (c:List PV),refAt ((.sp c)::r)=(refAt r).map fun (k,q)=>(k+1,q)) /\
 (∀(r:List PV) ,refAt ((.nils)::r)=(refAt r).map fun (k,q)=>(k+1,q)) /\
 (∀(c r:List PV),refAt (.agg c::r)=(refAt r).map fun (k,q)=>(k+1,q)) /\
 (∀(C:Calls') (L:XO->PV) (S:Subs) (x:XO),evP C L S (.asg x)=Option.none) /\
 (∀(C:Calls') (L:XO->PV) (S:Subs) (n:Nat) (x y:XO),evP C L S (.store n x y)=Option.none) /\
 (∀(C:Calls') (L:XO->PV) (S:Subs) (x:XO),blocked C L S (.asg x)=false) /\
 (∀(C:Calls') (L:XO->PV) (S:Subs) (n:Nat) (x y:XO),blocked C L S (.store n x y)=false) /\
 (∀(C:Calls') (L:XO->PV) (S:Subs) (n m:Nat) (x y:XO),blocked C L S (.app n m x y)=false) /\
 (∀(C:Calls') (L:XO->PV) (S:Subs) (x:XO) (n:Nat),blocked C L S (.ext x n)=false) /\
 (∀(C:Calls') (L:XO->PV) (S:Subs) (n m:Nat) (z:List PV) (p:List (Nat×Nat×XO)),blocked C L S (.bsl n m z p)=false) /\
 (∀(C:Calls') (L:XO->PV) (S:Subs) (x:XO),blocked C L S (.box x)=false) /\
 (∀(k:IntKind) (x y:Int),intBits .and k x y=some (bAnd k x y)) /\
 (∀(k:IntKind) (x y:Int),intBits .or k x y=some (bOr k x y)) /\
 (∀(k:IntKind) (x y:Int),intBits .xor k x y=some (bXor k x y)) /\
 (IntKind.bits .i8=8) /\
 (IntKind.bits .u8=8) /\
 (IntKind.bits .i16=16) /\
 (IntKind.bits .u16=16) /\
 (IntKind.bits .i32=32) /\
 (IntKind.bits .u32=32) /\
 (IntKind.bits .i64=64) /\
 (IntKind.bits .u64=64) /\
 ((true==true)=true) /\
 ((true==false)=false) /\
 ((false==true)=false) /\
 ((false==false)=true) /\
 (∀(id:Nat) (e:Env) (k:Env->Option (Ex×Env)),seqK (some (.exit id,e)) k=some (.exit id,e)) /\
 (∀(e:Env) (k:Env->Option (Ex×Env)),seqK (some (.ret,e)) k=some (.ret,e)) /\
 (∀(i:Nat) (e:Env),blockK i (some (.norm,e))=some (.norm,e)) /\
 (∀(i:Nat) (e:Env),blockK i (some (.ret,e))=some (.ret,e)) /\
 (∀(l:List Nat) (i:Nat) (e:Env),fgt l (some (.exit i,e))=some (.exit i,e)) /\
 (∀(l:List Nat) (e:Env),fgt l (some (.ret,e))=some (.ret,e)) /\
 (∀(x:XF) (ws:List PV) (e:Env),retK x ws (some (.ret,e))=(resL x.keep e x.res).map fun (vs,e')=>(tupOf vs,outsOf x.prot e' 0 ws)) /\
 (∀(x:XF) (ws:List PV) (e:Env),retK x ws (some (.norm,e))=(resL x.keep e x.res).map fun (vs,e')=>(tupOf vs,outsOf x.prot e' 0 ws)) /\
 (∀(d:Nat) (w:Bool) (g:Nat->PV),wantsG g (some (d,w))=(match g d with | .bool b=>some (b==w) | .tup []=>some false|_=>Option.none)):=by
 refine⟨?_,?_,?_,?_,?_,?_,?_,?_,?_,?_,?_,?_,?_,?_,?_,?_,?_,?_,?_,?_,?_,?_,?_,?_,?_,?_,?_,?_,?_,?_,?_,?_,?_,?_,?_,?_,?_,?_,?_,?_⟩<;>intros<;>rfl
theorem rn:type_of% (Aa (Aa (Aa yrI yrJ) (Aa yrK (Aa yrL yrM))) (Aa (Aa yrN yrO) (Aa yrP (Aa yrQ yrR)))):=(Aa (Aa (Aa yrI yrJ) (Aa yrK (Aa yrL yrM))) (Aa (Aa yrN yrO) (Aa yrP (Aa yrQ yrR))))
theorem nzg:(∀(k:IntKind) (xs:List Int),(xs.flatMap (cint k)).length=xs.length*1)/\(∀(xs:List Bool),(xs.flatMap cbool).length=xs.length*1)/\(∀(xs:List Str),(xs.flatMap cstr).length=xs.length*1)/\(∀(α:Type) (c:α->List PV) (xs:List (List α)),(xs.flatMap (csl c)).length=xs.length*1) /\
 (∀(k:IntKind) (xs:List Int),frzL (xs.flatMap (cint k))=some (xs.flatMap (cint k)))/\(∀(xs:List Bool),frzL (xs.flatMap cbool)=some (xs.flatMap cbool))/\(∀(xs:List Str),frzL (xs.flatMap cstr)=some (xs.flatMap cstr))/\(∀(α:Type) (c:α->List PV) (xs:List (List α)),frzL (xs.flatMap (csl c))=some (xs.flatMap (csl c))) /\
 (∀(k:IntKind) (xs:List Int),(xs.flatMap (cint k)).all PV.free=true)/\(∀(xs:List Bool),(xs.flatMap cbool).all PV.free=true)/\(∀(xs:List Str),(xs.flatMap cstr).all PV.free=true)/\(∀(α:Type) (c:α->List PV) (xs:List (List α)),(xs.flatMap (csl c)).all PV.free=true) /\
 (∀(k:IntKind) (xs:List Int),(xs.flatMap (cint k)).take (xs.length*1)=xs.flatMap (cint k))/\(∀(xs:List Bool),(xs.flatMap cbool).take (xs.length*1)=xs.flatMap cbool)/\(∀(xs:List Str),(xs.flatMap cstr).take (xs.length*1)=xs.flatMap cstr)/\(∀(α:Type) (c:α->List PV) (xs:List (List α)),(xs.flatMap (csl c)).take (xs.length*1)=xs.flatMap (csl c)) /\
 (∀(k:IntKind) (ds:List Nat) (xs:List Int),(xs.flatMap (cint k)).all (noRefs ds)=true)/\(∀(ds:List Nat) (xs:List Bool),(xs.flatMap cbool).all (noRefs ds)=true)/\(∀(ds:List Nat) (xs:List Str),(xs.flatMap cstr).all (noRefs ds)=true)/\(∀(α:Type) (c:α->List PV) (ds:List Nat) (xs:List (List α)),(xs.flatMap (csl c)).all (noRefs ds)=true)/\(∀n:Nat,(n=n*1)=True):=
 ⟨fun k=>yam (ybl k),yam ykV,yam yna,fun _ c=>yam (ypc c),fun k=>ybD (ykW k),ybD yiM,ybD ykX,fun _ c=>ybD (ynT c),fun k=>yao (ykW k),yao yiM,yao ykX,fun _ c=>yao (ynT c),fun k=>ya2 (ybl k),ya2 ykV,ya2 yna,fun _ c=>ya2 (ypc c),fun k=>yal (ykW k),yal yiM,yal ykX,fun _ c=>yal (ynT c),fun n=>by simp⟩
theorem nzc:((0:Nat):Int)=0/\((1:Nat):Int)=1/\((2:Nat):Int)=2/\((3:Nat):Int)=3/\((4:Nat):Int)=4/\((5:Nat):Int)=5/\((6:Nat):Int)=6/\((7:Nat):Int)=7/\((8:Nat):Int)=8/\((9:Nat):Int)=9/\((10:Nat):Int)=10/\((11:Nat):Int)=11/\((12:Nat):Int)=12/\((13:Nat):Int)=13/\((14:Nat):Int)=14/\((15:Nat):Int)=15/\((16:Nat):Int)=16:=⟨rfl,rfl,rfl,rfl,rfl,rfl,rfl,rfl,rfl,rfl,rfl,rfl,rfl,rfl,rfl,rfl,rfl⟩
theorem nzt:(∀(σ ρ β:Type) (f:σ->β) (g:ρ->β) (s:σ),stpK f g (.next s)=f s)/\(∀(σ ρ β:Type) (f:σ->β) (g:ρ->β) (r:ρ),stpK f g (.stop r)=g r):=⟨fun _ _ _ _ _ _=>rfl,fun _ _ _ _ _ _=>rfl⟩
theorem nz:type_of% (Aa (Aa (Aa (Aa (Aa (Aa nzg nzc) (Aa nzt (Aa @Cc.{0} @List.flatMap_nil.{0,0}))) (Aa (Aa @yhM @yga) (Aa @ygb (Aa @ye6 @Bv.{0})))) (Aa (Aa (Aa @Bn.{0,0} @Ba.{0}) (Aa @Br.{0} (Aa @Bx.{0} @Bt.{0}))) (Aa (Aa @Az @Nat.zero_mul) (Aa @A5.{0} (Aa @Av @eq_self.{1}))))) (Aa (Aa (Aa (Aa @and_true @true_and) (Aa @and_self (Aa @ne_eq.{1} @not_true_eq_false))) (Aa (Aa @not_false_eq_true @or_false) (Aa @false_or (Aa @or_self @Bool.or_true)))) (Aa (Aa (Aa @Bool.true_or @Bool.or_false) (Aa @Bool.false_or (Aa @Bool.and_true @Bool.true_and))) (Aa (Aa @Bool.and_false (Aa @Bool.false_and @Bool.not_true)) (Aa @Bool.not_false (Aa @List.isEmpty_nil.{0} @List.all_cons.{0})))))) (Aa (Aa (Aa (Aa (Aa @List.all_nil.{0} @List.any_cons.{0}) (Aa @List.any_nil.{0} (Aa @Bu.{0,0} @List.map_nil.{0,0}))) (Aa (Aa @Ah.{0} @Ai.{0}) (Aa @List.set_cons_zero.{0} (Aa @List.set_cons_succ.{0} @List.take_succ_cons.{0})))) (Aa (Aa (Aa @List.take_zero.{0} @List.drop_succ_cons.{0}) (Aa @List.take_nil.{0} (Aa @List.drop_nil.{0} @Bool.not_eq_false))) (Aa (Aa @Bool.not_eq_true @Bool.true_eq_false) (Aa @beq_self_eq_true.{0} (Aa @ym9 @yge))))) (Aa (Aa (Aa (Aa @yek @ygc) (Aa @yel (Aa @ygf @ygg))) (Aa (Aa @yk1 @yhO) (Aa @ye9 (Aa @cint.eq_1 @cbool.eq_1)))) (Aa (Aa (Aa @cstr.eq_1 @csl.eq_1) (Aa @decide_true (Aa @decide_false @Bg.{0,0}))) (Aa (Aa @List.isPrefixOf_nil_left.{0} (Aa @Bool.false_xor @Bool.true_xor)) (Aa @Bj.{0} (Aa @List.replicate_zero.{0} @Cp.{0,0}))))))):=(Aa (Aa (Aa (Aa (Aa (Aa nzg nzc) (Aa nzt (Aa @Cc.{0} @List.flatMap_nil.{0,0}))) (Aa (Aa @yhM @yga) (Aa @ygb (Aa @ye6 @Bv.{0})))) (Aa (Aa (Aa @Bn.{0,0} @Ba.{0}) (Aa @Br.{0} (Aa @Bx.{0} @Bt.{0}))) (Aa (Aa @Az @Nat.zero_mul) (Aa @A5.{0} (Aa @Av @eq_self.{1}))))) (Aa (Aa (Aa (Aa @and_true @true_and) (Aa @and_self (Aa @ne_eq.{1} @not_true_eq_false))) (Aa (Aa @not_false_eq_true @or_false) (Aa @false_or (Aa @or_self @Bool.or_true)))) (Aa (Aa (Aa @Bool.true_or @Bool.or_false) (Aa @Bool.false_or (Aa @Bool.and_true @Bool.true_and))) (Aa (Aa @Bool.and_false (Aa @Bool.false_and @Bool.not_true)) (Aa @Bool.not_false (Aa @List.isEmpty_nil.{0} @List.all_cons.{0})))))) (Aa (Aa (Aa (Aa (Aa @List.all_nil.{0} @List.any_cons.{0}) (Aa @List.any_nil.{0} (Aa @Bu.{0,0} @List.map_nil.{0,0}))) (Aa (Aa @Ah.{0} @Ai.{0}) (Aa @List.set_cons_zero.{0} (Aa @List.set_cons_succ.{0} @List.take_succ_cons.{0})))) (Aa (Aa (Aa @List.take_zero.{0} @List.drop_succ_cons.{0}) (Aa @List.take_nil.{0} (Aa @List.drop_nil.{0} @Bool.not_eq_false))) (Aa (Aa @Bool.not_eq_true @Bool.true_eq_false) (Aa @beq_self_eq_true.{0} (Aa @ym9 @yge))))) (Aa (Aa (Aa (Aa @yek @ygc) (Aa @yel (Aa @ygf @ygg))) (Aa (Aa @yk1 @yhO) (Aa @ye9 (Aa @cint.eq_1 @cbool.eq_1)))) (Aa (Aa (Aa @cstr.eq_1 @csl.eq_1) (Aa @decide_true (Aa @decide_false @Bg.{0,0}))) (Aa (Aa @List.isPrefixOf_nil_left.{0} (Aa @Bool.false_xor @Bool.true_xor)) (Aa @Bj.{0} (Aa @List.replicate_zero.{0} @Cp.{0,0})))))))
open Go
set_option maxRecDepth 100000
set_option maxHeartbeats 4000000
structure Shape where
 Slots:Int
 Mask:Int
 deriving DecidableEq
instance:Inhabited Shape:=⟨⟨default,default⟩⟩
def cShape(x:Shape):List PV:=[.int .i64 x.Slots,.int .i64 x.Mask]
theorem yg2:Sz cShape 2:=fun _=>rfl
theorem ya8:Fz cShape:=fun _=>⟨rfl,rfl⟩
theorem yR:type_of% (Aa @cShape.eq_1 (Aa (yam yg2) (Aa (ybD ya8) (Aa (yao ya8) (Aa (ya2 yg2) (Aa (ybU ya8) (Aa (ygd ya8) (Aa (ycN ya8) ((yal ya8)))))))))):=Aa @cShape.eq_1 (Aa (yam yg2) (Aa (ybD ya8) (Aa (yao ya8) (Aa (ya2 yg2) (Aa (ybU ya8) (Aa (ygd ya8) (Aa (ycN ya8) ((yal ya8)))))))))
structure r26_Object where
 At:Int
 Shape:Shape
 Slots:List Int
 deriving DecidableEq
instance:Inhabited r26_Object:=⟨⟨default,default,default⟩⟩
def cr26_Object(x:r26_Object):List PV:=[.int .i64 x.At,.int .i64 x.Shape.Slots,.int .i64 x.Shape.Mask,.sl x.Slots.length (x.Slots.flatMap (cint .i64))]
theorem yH:Sz cr26_Object 4:=fun _=>rfl
theorem yU:Fz cr26_Object:=fun _=>⟨rfl,rfl⟩
theorem yo:type_of% (Aa @cr26_Object.eq_1 (Aa (yam yH) (Aa (ybD yU) (Aa (yao yU) (Aa (ya2 yH) (Aa (ybU yU) (Aa (ygd yU) (Aa (ycN yU) ((yal yU)))))))))):=Aa @cr26_Object.eq_1 (Aa (yam yH) (Aa (ybD yU) (Aa (yao yU) (Aa (ya2 yH) (Aa (ybU yU) (Aa (ygd yU) (Aa (ycN yU) ((yal yU)))))))))
structure Area where
 Lo:Int
 Hi:Int
 Next:Int
 deriving DecidableEq
instance:Inhabited Area:=⟨⟨default,default,default⟩⟩
def cArea(x:Area):List PV:=[.int .i64 x.Lo,.int .i64 x.Hi,.int .i64 x.Next]
theorem yc1:Sz cArea 3:=fun _=>rfl
theorem ycf:Fz cArea:=fun _=>⟨rfl,rfl⟩
theorem yac:type_of% (Aa @cArea.eq_1 (Aa (yam yc1) (Aa (ybD ycf) (Aa (yao ycf) (Aa (ya2 yc1) (Aa (ybU ycf) (Aa (ygd ycf) (Aa (ycN ycf) ((yal ycf)))))))))):=Aa @cArea.eq_1 (Aa (yam yc1) (Aa (ybD ycf) (Aa (yao ycf) (Aa (ya2 yc1) (Aa (ybU ycf) (Aa (ygd ycf) (Aa (ycN ycf) ((yal ycf)))))))))
structure l26_Op where
 Kind:Int
 Area:Int
 Id:Int
 Slot:Int
 N:Int
 Mask:Int
 deriving DecidableEq
instance:Inhabited l26_Op:=⟨⟨default,default,default,default,default,default⟩⟩
def cl26_Op(x:l26_Op):List PV:=[.int .i64 x.Kind,.int .u8 x.Area,.int .u8 x.Id,.int .u8 x.Slot,.int .u8 x.N,.int .u16 x.Mask]
theorem yjJ:Sz cl26_Op 6:=fun _=>rfl
noncomputable def r03_power_l1_b(p0:Int)(out1:Int)(i2:Int):Option (Stp (Int×Int) Int):=
 if decide (i2<p0) then
  some (.next (IntKind.wrap .i64 (out1*2),IntKind.wrap .i64 (i2+1)))
 else
  some (.stop out1)
noncomputable def r03_power_l1(p0:Int)(s:Int×Int):Option Int:=runL (fun s=>r03_power_l1_b p0 s.1 s.2) s
noncomputable def r03_power(p0:Int):Option Int:=
 (r03_power_l1 p0 (1,0)).bind fun out3=>
 some out3
noncomputable def r03_Pointer(p0:Shape)(p1:Int):Option Bool:=
 if ((decide (p1<0))||(decide (p0.Slots<=p1))) then
  some false
 else
  (r03_power p1).bind fun r2=>
  if decide (r2=0) then
   Option.none
  else
   some ((Int.tmod (IntKind.wrap .i64 (Int.tdiv p0.Mask r2)) 2)==1)
noncomputable def r05_Ints_l1_b(p0:List Int)(p1:List Int)(i1:Int):Option (Stp Int (Stp Unit Unit)):=
 if decide (i1<((p0.length:Int))) then
  (ix p0 i1).bind fun x_2=>
  (ix p1 i1).bind fun x_3=>
  if (x_2 != x_3) then
   some (.stop (.stop (())))
  else
   some (.next (IntKind.wrap .i64 (i1+1)))
 else
  some (.stop (.next ()))
noncomputable def r05_Ints_l1(p0:List Int)(p1:List Int)(s:Int):Option (Stp Unit Unit):=runL (fun s=>r05_Ints_l1_b p0 p1 s) s
noncomputable def r05_Ints(p0:List Int)(p1:List Int):Option Bool:=
 if (((p0.length:Int)) != ((p1.length:Int))) then
  some false
 else
  (r05_Ints_l1 p0 p1 0).bind fun
    | .next _=>
      some true
    | .stop _=>
      some false
noncomputable def l12_Shape_l5_b(p0:Int)(m1:Int)(i2:Int):Option (Stp (Int×Int) Int):=
 if decide ((IntKind.wrap .i64 (Int.tmod (IntKind.wrap .u64 p0) 17))<i2) then
  if decide ((IntKind.wrap .i64 (i2-1))<0) then
   Option.none
  else
   some (.next ((if decide ((IntKind.wrap .i64 (1*2 ^ (min (IntKind.wrap .i64 (i2-1)).toNat 64)))<=m1) then IntKind.wrap .i64 (m1-(IntKind.wrap .i64 (1*2 ^ (min (IntKind.wrap .i64 (i2-1)).toNat 64)))) else m1),IntKind.wrap .i64 (i2-1)))
 else
  some (.stop m1)
noncomputable def l12_Shape_l5(p0:Int)(s:Int×Int):Option Int:=runL (fun s=>l12_Shape_l5_b p0 s.1 s.2) s
noncomputable def l12_Shape(p0:Int)(p1:Int):Option Shape:=
 (l12_Shape_l5 p0 (IntKind.wrap .i64 p1,16)).bind fun m4=>
 some (⟨IntKind.wrap .i64 (Int.tmod (IntKind.wrap .u64 p0) 17),m4⟩:Shape)
noncomputable def shape_Check(p0:Shape):Option Int:=
 if ((decide (p0.Slots<0))||(((decide (16<p0.Slots))||(((decide (p0.Mask<0))||(decide ((IntKind.wrap .i64 (1*2 ^ (min p0.Slots.toNat 64)))<=p0.Mask))))))) then
  some 16
 else
  some 0
noncomputable def shape_Of(p0:Int):Option (Shape×Int):=
 if ((decide (p0<0))||(decide (2097152<=p0))) then
  some ((⟨0,0⟩:Shape),16)
 else
  (shape_Check ((⟨bAnd .i64 p0 31,Int.fdiv p0 (2 ^ (min (5:Int).toNat 64))⟩:Shape))).bind fun r2=>
  if (r2 != 0) then
   some ((⟨0,0⟩:Shape),r2)
  else
   some ((⟨bAnd .i64 p0 31,Int.fdiv p0 (2 ^ (min (5:Int).toNat 64))⟩:Shape),0)
noncomputable def shape_Head(p0:Shape):Option Int:=
 some (bOr .i64 (IntKind.wrap .i64 (p0.Mask*2 ^ (min (5:Int).toNat 64))) p0.Slots)
noncomputable def shape_bits:Option (List Int):=
 some ([1,2,4,8,16,32,64,128,256,512,1024,2048,4096,8192,16384,32768])
noncomputable def shape_Pointer_j1(p0:Shape)(p1:Int):Option Bool:=
 if decide (0<=p1) then
  if decide (p1<p0.Slots) then
   (shape_bits).bind fun r1=>
   (ixa r1 16 p1).bind fun x_2=>
   some ((bAnd .i64 p0.Mask x_2) != 0)
  else
   some false
 else
  some false
noncomputable def shape_Pointer(p0:Shape)(p1:Int):Option Bool:=
 (shape_Pointer_j1 p0 p1).bind fun v3=>
 some v3
noncomputable def r26_Find_l1_b(p0:List r26_Object)(p1:Int)(i1:Int):Option (Stp Int (Stp Unit Int)):=
 if decide (0<=i1) then
  (ix p0 i1).bind fun x_2=>
  if (x_2.At==p1) then
   some (.stop (.stop (i1)))
  else
   some (.next (IntKind.wrap .i64 (i1-1)))
 else
  some (.stop (.next ()))
noncomputable def r26_Find_l1(p0:List r26_Object)(p1:Int)(s:Int):Option (Stp Unit Int):=runL (fun s=>r26_Find_l1_b p0 p1 s) s
noncomputable def r26_Find(p0:List r26_Object)(p1:Int):Option Int:=
 (r26_Find_l1 p0 p1 (IntKind.wrap .i64 (((p0.length:Int))-1))).bind fun
   | .next _=>
     some (-1)
   | .stop v3=>
     some v3
noncomputable def r26_Starts_j4(p0:List r26_Object)(p1:Area)(out1:List Int)(v2:Int)(r3:Int):Option (List Int):=
 if decide (0<=r3) then
  (app out1 [v2] 8).bind fun l_4=>
  some l_4
 else
  some out1
noncomputable def r26_Starts_l5_b(p0:List r26_Object)(p1:Area)(out1:List Int)(v2:Int):Option (Stp (List Int×Int) (List Int)):=
 if decide (v2<p1.Next) then
  (r26_Find p0 v2).bind fun r3=>
  (r26_Starts_j4 p0 p1 out1 v2 r3).bind fun out5=>
  some (.next (out5,IntKind.wrap .i64 (v2+1)))
 else
  some (.stop out1)
noncomputable def r26_Starts_l5(p0:List r26_Object)(p1:Area)(s:List Int×Int):Option (List Int):=runL (fun s=>r26_Starts_l5_b p0 p1 s.1 s.2) s
noncomputable def r26_Starts(p0:List r26_Object)(p1:Area):Option (List Int):=
 (r26_Starts_l5 p0 p1 ([],p1.Lo)).bind fun out6=>
 some out6
noncomputable def r26_Words_l1_b(p0:List r26_Object)(p1:List Int)(n1:Int)(i2:Int):Option (Stp (Int×Int) Int):=
 if decide (i2<((p1.length:Int))) then
  (ix p1 i2).bind fun x_3=>
  (r26_Find p0 x_3).bind fun r4=>
  (ix p0 r4).bind fun x_5=>
  some (.next (IntKind.wrap .i64 ((IntKind.wrap .i64 (n1+1))+((x_5.Slots.length:Int))),IntKind.wrap .i64 (i2+1)))
 else
  some (.stop n1)
noncomputable def r26_Words_l1(p0:List r26_Object)(p1:List Int)(s:Int×Int):Option Int:=runL (fun s=>r26_Words_l1_b p0 p1 s.1 s.2) s
noncomputable def r26_Words(p0:List r26_Object)(p1:List Int):Option Int:=
 (r26_Words_l1 p0 p1 (0,0)).bind fun n6=>
 some n6
noncomputable def r26_In(p0:Area)(p1:Int):Option Bool:=
 some ((decide (p0.Lo<=p1))&&(decide (p1<p0.Next)))
noncomputable def r26_within_l1_b(p0:List Area)(p1:Int)(i1:Int):Option (Stp Int (Stp Unit Unit)):=
 if decide (i1<((p0.length:Int))) then
  (ix p0 i1).bind fun x_2=>
  (r26_In x_2 p1).bind fun r3=>
  if r3 then
   some (.stop (.stop (())))
  else
   some (.next (IntKind.wrap .i64 (i1+1)))
 else
  some (.stop (.next ()))
noncomputable def r26_within_l1(p0:List Area)(p1:Int)(s:Int):Option (Stp Unit Unit):=runL (fun s=>r26_within_l1_b p0 p1 s) s
noncomputable def r26_within(p0:List Area)(p1:Int):Option Bool:=
 (r26_within_l1 p0 p1 0).bind fun
   | .next _=>
     some false
   | .stop _=>
     some true
noncomputable def r26_moved_l1_b(p0:List Int)(p1:List Int)(p2:Int)(i1:Int):Option (Stp Int (Stp Unit Int)):=
 if decide (i1<((p0.length:Int))) then
  (ix p0 i1).bind fun x_2=>
  if (x_2==p2) then
   (ix p1 i1).bind fun x_3=>
   some (.stop (.stop (x_3)))
  else
   some (.next (IntKind.wrap .i64 (i1+1)))
 else
  some (.stop (.next ()))
noncomputable def r26_moved_l1(p0:List Int)(p1:List Int)(p2:Int)(s:Int):Option (Stp Unit Int):=runL (fun s=>r26_moved_l1_b p0 p1 p2 s) s
noncomputable def r26_moved(p0:List Int)(p1:List Int)(p2:Int):Option Int:=
 (r26_moved_l1 p0 p1 p2 0).bind fun
   | .next _=>
     some p2
   | .stop v4=>
     some v4
noncomputable def r08_Has_l1_b(p0:List Int)(p1:Int)(i1:Int):Option (Stp Int (Stp Unit Unit)):=
 if decide (i1<((p0.length:Int))) then
  (ix p0 i1).bind fun x_2=>
  if (x_2==p1) then
   some (.stop (.stop (())))
  else
   some (.next (IntKind.wrap .i64 (i1+1)))
 else
  some (.stop (.next ()))
noncomputable def r08_Has_l1(p0:List Int)(p1:Int)(s:Int):Option (Stp Unit Unit):=runL (fun s=>r08_Has_l1_b p0 p1 s) s
noncomputable def r08_Has(p0:List Int)(p1:Int):Option Bool:=
 (r08_Has_l1 p0 p1 0).bind fun
   | .next _=>
     some false
   | .stop _=>
     some true
noncomputable def r13_Begins_l1_b(p0:List Int)(p1:List Int)(i1:Int):Option (Stp Int (Stp Unit Unit)):=
 if decide (i1<((p0.length:Int))) then
  (ix p0 i1).bind fun x_2=>
  (ix p1 i1).bind fun x_3=>
  if (x_2 != x_3) then
   some (.stop (.stop (())))
  else
   some (.next (IntKind.wrap .i64 (i1+1)))
 else
  some (.stop (.next ()))
noncomputable def r13_Begins_l1(p0:List Int)(p1:List Int)(s:Int):Option (Stp Unit Unit):=runL (fun s=>r13_Begins_l1_b p0 p1 s) s
noncomputable def r13_Begins(p0:List Int)(p1:List Int):Option Bool:=
 if decide (((p1.length:Int))<((p0.length:Int))) then
  some false
 else
  (r13_Begins_l1 p0 p1 0).bind fun
    | .next _=>
      some true
    | .stop _=>
      some false
noncomputable def r13_Nums_j1(p0:List Int)(p1:List Int):Option Bool:=
 if (((p0.length:Int))==((p1.length:Int))) then
  (r13_Begins p0 p1).bind fun r1=>
  some r1
 else
  some false
noncomputable def r13_Nums(p0:List Int)(p1:List Int):Option Bool:=
 (r13_Nums_j1 p0 p1).bind fun v2=>
 some v2
noncomputable def l26_roots_j4(p0:List r26_Object)(p1:List Int)(out1:List Int)(i2:Int)(x_3:Int):Option (List Int):=
 if decide ((Int.tmod (IntKind.wrap .i64 x_3) (IntKind.wrap .i64 (((p0.length:Int))+1)))<((p0.length:Int))) then
  (ix p0 (Int.tmod (IntKind.wrap .i64 x_3) (IntKind.wrap .i64 (((p0.length:Int))+1)))).bind fun x_4=>
  (app out1 [x_4.At] 8).bind fun l_5=>
  some l_5
 else
  (app out1 [0] 8).bind fun l_6=>
  some l_6
noncomputable def l26_roots_l5_b(p0:List r26_Object)(p1:List Int)(out1:List Int)(i2:Int):Option (Stp (List Int×Int) (List Int)):=
 if decide (i2<((p1.length:Int))) then
  (ix p1 i2).bind fun x_3=>
  if decide ((IntKind.wrap .i64 (((p0.length:Int))+1))=0) then
   Option.none
  else
   (l26_roots_j4 p0 p1 out1 i2 x_3).bind fun out7=>
   some (.next (out7,IntKind.wrap .i64 (i2+1)))
 else
  some (.stop out1)
noncomputable def l26_roots_l5(p0:List r26_Object)(p1:List Int)(s:List Int×Int):Option (List Int):=runL (fun s=>l26_roots_l5_b p0 p1 s.1 s.2) s
noncomputable def l26_roots(p0:List r26_Object)(p1:List Int):Option (List Int):=
 (l26_roots_l5 p0 p1 ([],0)).bind fun out8=>
 some out8
noncomputable def space_In(p0:Area)(p1:Int):Option Bool:=
 some ((decide (p0.Lo<=p1))&&(decide (p1<p0.Next)))
open Go
set_option maxRecDepth 100000
set_option maxHeartbeats 4000000
def q(d:Nat)(o:XOp):XI:=⟨some d,o,.none,false⟩
def x75_1:XC:=.seq (.seq (.reg [⟨some 5,.mv (.t 4),.none,false⟩,⟨some 6,.mv (.t 0),.none,false⟩,⟨some 7,.bin .lss (.t 5) (.t 6),.none,false⟩] false [0,3,4,7]) (.cond (.t 7) (.skip) (.exit 0 [3]) [0,3,4])) (.seq (.block 1 (.reg [⟨some 10,.mv (.t 3),.none,false⟩,⟨some 11,.bin .mul (.t 10) (.k (.int .i64 2)),.none,false⟩,⟨some 3,.asg (.t 11),.none,false⟩] false [0,3,4]) [0,3,4]) (.reg [⟨some 8,.mv (.t 4),.none,false⟩,⟨some 9,.bin .add (.t 8) (.k (.int .i64 1)),.none,false⟩,⟨some 4,.asg (.t 9),.none,false⟩] false [0,3,4]))
def x75:XF:=⟨1,13,[.tmp 2],.seq (.reg [⟨some 2,.asg (.k (.int .i64 0)),.none,false⟩] false [0]) (.seq (.reg [⟨some 3,.asg (.k (.int .i64 1)),.none,false⟩] false [0,3]) (.seq (.seq (.reg [⟨some 4,.asg (.k (.int .i64 0)),.none,false⟩] false [0,3,4]) (.block 0 (.loop x75_1 [0,3,4]) [3])) (.seq (.reg [⟨some 12,.mv (.t 3),.none,false⟩,⟨some 2,.asg (.t 12),.none,false⟩] false [2]) (.ret)))),[],false,false,.none⟩
def x23_1:XC:=.reg [⟨some 5,.mv (.t 1),.none,false⟩,⟨some 6,.bin .lss (.t 5) (.k (.int .i64 0)),.none,false⟩,⟨some 7,.mv (.t 6),.none,false⟩,⟨some 8,.mv (.t 1),some (7,false),false⟩,⟨some 9,.fadr 0 (.t 2),some (7,false),false⟩,⟨some 10,.load false 1 (.t 9),some (7,false),false⟩,⟨some 11,.bin .geq (.t 8) (.t 10),some (7,false),false⟩,⟨some 12,.pick (.t 7) (.k (.bool true)) (.t 11),.none,false⟩] false [1,2,12]
def x23:XF:=⟨2,20,[.tmp 4],.seq (.reg [⟨some 2,.box (.t 0),.none,false⟩,⟨some 4,.asg (.k (.bool false)),.none,false⟩] false [1,2]) (.seq (.seq x23_1 (.cond (.t 12) (.seq (.reg [⟨some 4,.asg (.k (.bool false)),.none,false⟩] false [4]) (.ret)) (.skip) [1,2])) (.seq (.reg [⟨some 13,.fadr 1 (.t 2),.none,false⟩,⟨some 14,.load false 1 (.t 13),.none,false⟩,⟨some 15,.mv (.t 1),.none,false⟩,⟨some 16,.call 75 [.t 15] [],.none,false⟩,⟨some 17,.bin .quo (.t 14) (.t 16),.none,true⟩,⟨some 18,.bin .rem (.t 17) (.k (.int .i64 2)),.none,true⟩,⟨some 19,.bin .eql (.t 18) (.k (.int .i64 1)),.none,true⟩,⟨some 4,.asg (.t 19),.none,true⟩] true [4]) (.ret))),[],false,false,.none⟩
def x29_1:XC:=.seq (.seq (.reg [⟨some 11,.mv (.t 5),.none,false⟩,⟨some 12,.mv (.t 0),.none,false⟩,⟨some 13,.len false (.t 12),.none,false⟩,⟨some 14,.bin .lss (.t 11) (.t 13),.none,false⟩] false [0,1,5,14]) (.cond (.t 14) (.skip) (.exit 0 []) [0,1,5])) (.seq (.block 1 (.seq (.reg [⟨some 17,.mv (.t 0),.none,false⟩,⟨some 18,.mv (.t 5),.none,false⟩,⟨some 19,.iadr 1 .none (.t 17) (.t 18),.none,false⟩,⟨some 20,.load false 1 (.t 19),.none,false⟩,⟨some 21,.mv (.t 1),.none,false⟩,⟨some 22,.mv (.t 5),.none,false⟩,⟨some 23,.iadr 1 .none (.t 21) (.t 22),.none,false⟩,⟨some 24,.load false 1 (.t 23),.none,false⟩,⟨some 25,.bin .neq (.t 20) (.t 24),.none,true⟩] true [0,1,5,25]) (.cond (.t 25) (.seq (.reg [⟨some 4,.asg (.k (.bool false)),.none,false⟩] false [4]) (.ret)) (.skip) [0,1,5])) [0,1,5]) (.reg [⟨some 15,.mv (.t 5),.none,false⟩,⟨some 16,.bin .add (.t 15) (.k (.int .i64 1)),.none,false⟩,⟨some 5,.asg (.t 16),.none,false⟩] false [0,1,5]))
def x29:XF:=⟨2,26,[.tmp 4],.seq (.reg [⟨some 4,.asg (.k (.bool false)),.none,false⟩] false [0,1]) (.seq (.seq (.reg [⟨some 6,.mv (.t 0),.none,false⟩,⟨some 7,.len false (.t 6),.none,false⟩,⟨some 8,.mv (.t 1),.none,false⟩,⟨some 9,.len false (.t 8),.none,false⟩,⟨some 10,.bin .neq (.t 7) (.t 9),.none,false⟩] false [0,1,10]) (.cond (.t 10) (.seq (.reg [⟨some 4,.asg (.k (.bool false)),.none,false⟩] false [4]) (.ret)) (.skip) [0,1])) (.seq (.seq (.reg [⟨some 5,.asg (.k (.int .i64 0)),.none,false⟩] false [0,1,5]) (.block 0 (.loop x29_1 [0,1,5]) [])) (.seq (.reg [⟨some 4,.asg (.k (.bool true)),.none,false⟩] false [4]) (.ret)))),[],false,false,.none⟩
def x35_1:XC:=.cond (.t 23) (.reg [⟨some 24,.mv (.t 6),.none,false⟩,⟨some 25,.mv (.t 7),.none,false⟩,⟨some 26,.bin .sub (.t 25) (.k (.int .i64 1)),.none,false⟩,⟨some 27,.bin .shl (.k (.int .i64 1)) (.t 26),.none,false⟩,⟨some 28,.bin .sub (.t 24) (.t 27),.none,false⟩,⟨some 6,.asg (.t 28),.none,false⟩] false [4,5,6,7]) (.skip) [4,5,6,7]
def x35_2:XC:=.seq (.seq (.reg [⟨some 14,.mv (.t 7),.none,false⟩,⟨some 15,.mv (.t 5),.none,false⟩,⟨some 16,.bin .gtr (.t 14) (.t 15),.none,false⟩] false [4,5,6,7,16]) (.cond (.t 16) (.skip) (.exit 0 [4,5,6]) [4,5,6,7])) (.seq (.block 1 (.seq (.reg [⟨some 19,.mv (.t 6),.none,false⟩,⟨some 20,.mv (.t 7),.none,false⟩,⟨some 21,.bin .sub (.t 20) (.k (.int .i64 1)),.none,false⟩,⟨some 22,.bin .shl (.k (.int .i64 1)) (.t 21),.none,false⟩,⟨some 23,.bin .geq (.t 19) (.t 22),.none,false⟩] false [4,5,6,7,23]) x35_1) [4,5,6,7]) (.reg [⟨some 17,.mv (.t 7),.none,false⟩,⟨some 18,.bin .sub (.t 17) (.k (.int .i64 1)),.none,false⟩,⟨some 7,.asg (.t 18),.none,false⟩] false [4,5,6,7]))
def x35:XF:=⟨2,32,[.cell 4 true 2],.seq (.reg [⟨some 4,.alloc [.int .i64 0,.int .i64 0],.none,false⟩] false [0,1,4]) (.seq (.reg [⟨some 8,.mv (.t 0),.none,false⟩,⟨some 9,.conv .u64 (.t 8),.none,false⟩,⟨some 10,.bin .rem (.t 9) (.k (.int .u64 17)),.none,false⟩,⟨some 11,.conv .i64 (.t 10),.none,false⟩,⟨some 5,.asg (.t 11),.none,false⟩] false [1,4,5]) (.seq (.reg [⟨some 12,.mv (.t 1),.none,false⟩,⟨some 13,.conv .i64 (.t 12),.none,false⟩,⟨some 6,.asg (.t 13),.none,false⟩] false [4,5,6]) (.seq (.seq (.reg [⟨some 7,.asg (.k (.int .i64 16)),.none,false⟩] false [4,5,6,7]) (.block 0 (.loop x35_2 [4,5,6,7]) [4,5,6])) (.seq (.reg [⟨some 29,.mv (.t 5),.none,false⟩,⟨some 30,.mv (.t 6),.none,false⟩,⟨some 31,.build [.int .i64 0,.int .i64 0] [(0,1,.t 29),(1,1,.t 30)],.none,false⟩,⟨.none,.store 2 (.t 4) (.t 31),.none,false⟩] false [4]) (.ret))))),[],false,false,.none⟩
def x97_1:XC:=.reg [⟨some 3,.fadr 0 (.t 1),.none,false⟩,⟨some 4,.load false 1 (.t 3),.none,false⟩,⟨some 5,.bin .lss (.t 4) (.k (.int .i64 0)),.none,false⟩,⟨some 6,.mv (.t 5),.none,false⟩,⟨some 7,.fadr 0 (.t 1),some (6,false),false⟩,⟨some 8,.load false 1 (.t 7),some (6,false),false⟩,⟨some 9,.bin .gtr (.t 8) (.k (.int .i64 16)),some (6,false),false⟩,⟨some 10,.pick (.t 6) (.k (.bool true)) (.t 9),.none,false⟩,⟨some 11,.mv (.t 10),.none,false⟩,⟨some 12,.fadr 1 (.t 1),some (11,false),false⟩,⟨some 13,.load false 1 (.t 12),some (11,false),false⟩,⟨some 14,.bin .lss (.t 13) (.k (.int .i64 0)),some (11,false),false⟩,⟨some 15,.pick (.t 11) (.k (.bool true)) (.t 14),.none,false⟩,⟨some 16,.mv (.t 15),.none,false⟩,⟨some 17,.fadr 1 (.t 1),some (16,false),false⟩,⟨some 18,.load false 1 (.t 17),some (16,false),false⟩,⟨some 19,.fadr 0 (.t 1),some (16,false),false⟩,⟨some 20,.load false 1 (.t 19),some (16,false),false⟩,⟨some 21,.bin .shl (.k (.int .i64 1)) (.t 20),some (16,false),false⟩,⟨some 22,.bin .geq (.t 18) (.t 21),some (16,false),true⟩,⟨some 23,.pick (.t 16) (.k (.bool true)) (.t 22),.none,true⟩] true [23]
def x97:XF:=⟨1,24,[.tmp 2],.seq (.reg [⟨some 1,.box (.t 0),.none,false⟩,⟨some 2,.asg (.k (.int .i64 0)),.none,false⟩] false [1]) (.seq (.seq x97_1 (.cond (.t 23) (.seq (.reg [⟨some 2,.asg (.k (.int .i64 16)),.none,false⟩] false [2]) (.ret)) (.skip) [])) (.seq (.reg [⟨some 2,.asg (.k (.int .i64 0)),.none,false⟩] false [2]) (.ret))),[],false,false,.none⟩
def x74_1:XC:=.reg [⟨some 6,.mv (.t 0),.none,false⟩,⟨some 7,.bin .lss (.t 6) (.k (.int .i64 0)),.none,false⟩,⟨some 8,.mv (.t 7),.none,false⟩,⟨some 9,.mv (.t 0),some (8,false),false⟩,⟨some 10,.bin .geq (.t 9) (.k (.int .i64 2097152)),some (8,false),false⟩,⟨some 11,.pick (.t 8) (.k (.bool true)) (.t 10),.none,false⟩] false [0,2,11]
def x74:XF:=⟨1,25,[.cell 2 true 2,.tmp 3],.seq (.reg [⟨some 2,.alloc [.int .i64 0,.int .i64 0],.none,false⟩,⟨some 3,.asg (.k (.int .i64 0)),.none,false⟩] false [0,2]) (.seq (.seq x74_1 (.cond (.t 11) (.seq (.reg [⟨some 12,.build [.int .i64 0,.int .i64 0] [],.none,false⟩,⟨.none,.store 2 (.t 2) (.t 12),.none,false⟩,⟨some 3,.asg (.k (.int .i64 16)),.none,false⟩] false [2,3]) (.ret)) (.skip) [0,2])) (.seq (.reg [⟨some 13,.mv (.t 0),.none,false⟩,⟨some 14,.bin .and (.t 13) (.k (.int .i64 31)),.none,false⟩,⟨some 15,.mv (.t 0),.none,false⟩,⟨some 16,.bin .shr (.t 15) (.k (.int .u64 5)),.none,false⟩,⟨some 17,.build [.int .i64 0,.int .i64 0] [(0,1,.t 14),(1,1,.t 16)],.none,false⟩,⟨some 4,.alloc [.int .i64 0,.int .i64 0],.none,false⟩,⟨.none,.store 2 (.t 4) (.t 17),.none,false⟩] false [2,4]) (.seq (.seq (.reg [⟨some 18,.load true 2 (.t 4),.none,false⟩,⟨some 19,.call 97 [.t 18] [],.none,false⟩,⟨some 5,.asg (.t 19),.none,false⟩] false [2,4,5]) (.seq (.reg [⟨some 20,.mv (.t 5),.none,false⟩,⟨some 21,.bin .neq (.t 20) (.k (.int .i64 0)),.none,false⟩] false [2,4,5,21]) (.cond (.t 21) (.seq (.reg [⟨some 22,.build [.int .i64 0,.int .i64 0] [],.none,false⟩,⟨some 23,.mv (.t 5),.none,false⟩,⟨.none,.store 2 (.t 2) (.t 22),.none,false⟩,⟨some 3,.asg (.t 23),.none,false⟩] false [2,3]) (.ret)) (.skip) [2,4]))) (.seq (.reg [⟨some 24,.load true 2 (.t 4),.none,false⟩,⟨.none,.store 2 (.t 2) (.t 24),.none,false⟩,⟨some 3,.asg (.k (.int .i64 0)),.none,false⟩] false [2,3]) (.ret))))),[],false,false,.none⟩
def x113:XF:=⟨1,9,[.tmp 2],.seq (.reg [⟨some 1,.box (.t 0),.none,false⟩,⟨some 2,.asg (.k (.int .i64 0)),.none,false⟩] false [1]) (.seq (.reg [⟨some 3,.fadr 1 (.t 1),.none,false⟩,⟨some 4,.load false 1 (.t 3),.none,false⟩,⟨some 5,.bin .shl (.t 4) (.k (.int .u64 5)),.none,false⟩,⟨some 6,.fadr 0 (.t 1),.none,false⟩,⟨some 7,.load false 1 (.t 6),.none,false⟩,⟨some 8,.bin .or (.t 5) (.t 7),.none,false⟩,⟨some 2,.asg (.t 8),.none,false⟩] false [2]) (.ret)),[],false,false,.none⟩
def x120:XF:=⟨0,2,[.cell 0 true 16],.seq (.reg [⟨some 0,.alloc [.int .i64 0,.int .i64 0,.int .i64 0,.int .i64 0,.int .i64 0,.int .i64 0,.int .i64 0,.int .i64 0,.int .i64 0,.int .i64 0,.int .i64 0,.int .i64 0,.int .i64 0,.int .i64 0,.int .i64 0,.int .i64 0],.none,false⟩] false [0]) (.seq (.reg [⟨some 1,.build [.int .i64 0,.int .i64 0,.int .i64 0,.int .i64 0,.int .i64 0,.int .i64 0,.int .i64 0,.int .i64 0,.int .i64 0,.int .i64 0,.int .i64 0,.int .i64 0,.int .i64 0,.int .i64 0,.int .i64 0,.int .i64 0] [(0,1,.k (.int .i64 1)),(1,1,.k (.int .i64 2)),(2,1,.k (.int .i64 4)),(3,1,.k (.int .i64 8)),(4,1,.k (.int .i64 16)),(5,1,.k (.int .i64 32)),(6,1,.k (.int .i64 64)),(7,1,.k (.int .i64 128)),(8,1,.k (.int .i64 256)),(9,1,.k (.int .i64 512)),(10,1,.k (.int .i64 1024)),(11,1,.k (.int .i64 2048)),(12,1,.k (.int .i64 4096)),(13,1,.k (.int .i64 8192)),(14,1,.k (.int .i64 16384)),(15,1,.k (.int .i64 32768))],.none,false⟩,⟨.none,.store 16 (.t 0) (.t 1),.none,false⟩] false [0]) (.ret)),[],false,false,.none⟩
def x98_1:XC:=.reg [⟨some 5,.mv (.t 1),.none,false⟩,⟨some 6,.bin .geq (.t 5) (.k (.int .i64 0)),.none,false⟩,⟨some 7,.mv (.t 6),.none,false⟩,⟨some 8,.mv (.t 1),some (7,true),false⟩,⟨some 9,.fadr 0 (.t 2),some (7,true),false⟩,⟨some 10,.load false 1 (.t 9),some (7,true),false⟩,⟨some 11,.bin .lss (.t 8) (.t 10),some (7,true),false⟩,⟨some 12,.pick (.t 7) (.t 11) (.k (.bool false)),.none,false⟩,⟨some 13,.mv (.t 12),.none,false⟩,⟨some 14,.fadr 1 (.t 2),some (13,true),false⟩,⟨some 15,.load false 1 (.t 14),some (13,true),false⟩,⟨some 16,.call 120 [] [],some (13,true),false⟩,⟨some 17,.mv (.t 1),some (13,true),false⟩,⟨some 18,.idx false 1 16 (.t 16) (.t 17),some (13,true),false⟩,⟨some 19,.bin .and (.t 15) (.t 18),some (13,true),true⟩,⟨some 20,.bin .neq (.t 19) (.k (.int .i64 0)),some (13,true),true⟩,⟨some 21,.pick (.t 13) (.t 20) (.k (.bool false)),.none,true⟩,⟨some 4,.asg (.t 21),.none,true⟩] true [4]
def x98:XF:=⟨2,22,[.tmp 4],.seq (.reg [⟨some 2,.box (.t 0),.none,false⟩,⟨some 4,.asg (.k (.bool false)),.none,false⟩] false [1,2]) (.seq x98_1 (.ret)),[],false,false,.none⟩
def x21_1:XC:=.seq (.seq (.reg [⟨some 9,.mv (.t 5),.none,false⟩,⟨some 10,.bin .geq (.t 9) (.k (.int .i64 0)),.none,false⟩] false [0,1,5,10]) (.cond (.t 10) (.skip) (.exit 0 []) [0,1,5])) (.seq (.block 1 (.seq (.reg [⟨some 13,.mv (.t 0),.none,false⟩,⟨some 14,.mv (.t 5),.none,false⟩,⟨some 15,.iadr 4 .none (.t 13) (.t 14),.none,false⟩,⟨some 16,.fadr 0 (.t 15),.none,false⟩,⟨some 17,.load false 1 (.t 16),.none,false⟩,⟨some 18,.mv (.t 1),.none,false⟩,⟨some 19,.bin .eql (.t 17) (.t 18),.none,false⟩] false [0,1,5,19]) (.cond (.t 19) (.seq (.reg [⟨some 20,.mv (.t 5),.none,false⟩,⟨some 4,.asg (.t 20),.none,false⟩] false [4]) (.ret)) (.skip) [0,1,5])) [0,1,5]) (.reg [⟨some 11,.mv (.t 5),.none,false⟩,⟨some 12,.bin .sub (.t 11) (.k (.int .i64 1)),.none,false⟩,⟨some 5,.asg (.t 12),.none,false⟩] false [0,1,5]))
def x21:XF:=⟨2,21,[.tmp 4],.seq (.reg [⟨some 4,.asg (.k (.int .i64 0)),.none,false⟩] false [0,1]) (.seq (.seq (.reg [⟨some 6,.mv (.t 0),.none,false⟩,⟨some 7,.len false (.t 6),.none,false⟩,⟨some 8,.bin .sub (.t 7) (.k (.int .i64 1)),.none,false⟩,⟨some 5,.asg (.t 8),.none,false⟩] false [0,1,5]) (.block 0 (.loop x21_1 [0,1,5]) [])) (.seq (.reg [⟨some 4,.asg (.k (.int .i64 (-1))),.none,false⟩] false [4]) (.ret))),[],false,false,.none⟩
def x26_1:XC:=.cond (.t 18) (.reg [⟨some 19,.mv (.t 5),.none,false⟩,⟨some 20,.mv (.t 6),.none,false⟩,⟨some 21,.bsl 1 1 [.int .i64 0] [(0,1,.t 20)],.none,false⟩,⟨some 22,.app 1 8 (.t 19) (.t 21),.none,false⟩,⟨some 5,.asg (.t 22),.none,false⟩] false [0,3,5,6]) (.skip) [0,3,5,6]
def x26_2:XC:=.seq (.seq (.reg [⟨some 9,.mv (.t 6),.none,false⟩,⟨some 10,.fadr 2 (.t 3),.none,false⟩,⟨some 11,.load false 1 (.t 10),.none,false⟩,⟨some 12,.bin .lss (.t 9) (.t 11),.none,false⟩] false [0,3,5,6,12]) (.cond (.t 12) (.skip) (.exit 0 [5]) [0,3,5,6])) (.seq (.block 1 (.seq (.reg [⟨some 15,.mv (.t 0),.none,false⟩,⟨some 16,.mv (.t 6),.none,false⟩,⟨some 17,.call 21 [.t 15,.t 16] [],.none,false⟩,⟨some 18,.bin .geq (.t 17) (.k (.int .i64 0)),.none,false⟩] false [0,3,5,6,18]) x26_1) [0,3,5,6]) (.reg [⟨some 13,.mv (.t 6),.none,false⟩,⟨some 14,.bin .add (.t 13) (.k (.int .i64 1)),.none,false⟩,⟨some 6,.asg (.t 14),.none,false⟩] false [0,3,5,6]))
def x26:XF:=⟨2,24,[.tmp 4],.seq (.reg [⟨some 3,.box (.t 1),.none,false⟩,⟨some 4,.asg (.k (.nils)),.none,false⟩] false [0,3]) (.seq (.reg [⟨some 5,.asg (.k (.nils)),.none,false⟩] false [0,3,5]) (.seq (.seq (.reg [⟨some 7,.fadr 0 (.t 3),.none,false⟩,⟨some 8,.load false 1 (.t 7),.none,false⟩,⟨some 6,.asg (.t 8),.none,false⟩] false [0,3,5,6]) (.block 0 (.loop x26_2 [0,3,5,6]) [5])) (.seq (.reg [⟨some 23,.mv (.t 5),.none,false⟩,⟨some 4,.asg (.t 23),.none,false⟩] false [4]) (.ret)))),[],false,false,.none⟩
def x30_1:XC:=.seq (.seq (.reg [⟨some 7,.mv (.t 6),.none,false⟩,⟨some 8,.mv (.t 1),.none,false⟩,⟨some 9,.len false (.t 8),.none,false⟩,⟨some 10,.bin .lss (.t 7) (.t 9),.none,false⟩] false [0,1,5,6,10]) (.cond (.t 10) (.skip) (.exit 0 [5]) [0,1,5,6])) (.seq (.block 1 (.reg [⟨some 13,.mv (.t 5),.none,false⟩,⟨some 14,.bin .add (.t 13) (.k (.int .i64 1)),.none,false⟩,⟨some 15,.mv (.t 0),.none,false⟩,⟨some 16,.mv (.t 0),.none,false⟩,⟨some 17,.mv (.t 1),.none,false⟩,⟨some 18,.mv (.t 6),.none,false⟩,⟨some 19,.iadr 1 .none (.t 17) (.t 18),.none,false⟩,⟨some 20,.load false 1 (.t 19),.none,false⟩,⟨some 21,.call 21 [.t 16,.t 20] [],.none,false⟩,⟨some 22,.iadr 4 .none (.t 15) (.t 21),.none,false⟩,⟨some 23,.fadr 3 (.t 22),.none,false⟩,⟨some 24,.load false 1 (.t 23),.none,false⟩,⟨some 25,.len false (.t 24),.none,false⟩,⟨some 26,.bin .add (.t 14) (.t 25),.none,false⟩,⟨some 5,.asg (.t 26),.none,false⟩] false [0,1,5,6]) [0,1,5,6]) (.reg [⟨some 11,.mv (.t 6),.none,false⟩,⟨some 12,.bin .add (.t 11) (.k (.int .i64 1)),.none,false⟩,⟨some 6,.asg (.t 12),.none,false⟩] false [0,1,5,6]))
def x30:XF:=⟨2,28,[.tmp 4],.seq (.reg [⟨some 4,.asg (.k (.int .i64 0)),.none,false⟩] false [0,1]) (.seq (.reg [⟨some 5,.asg (.k (.int .i64 0)),.none,false⟩] false [0,1,5]) (.seq (.seq (.reg [⟨some 6,.asg (.k (.int .i64 0)),.none,false⟩] false [0,1,5,6]) (.block 0 (.loop x30_1 [0,1,5,6]) [5])) (.seq (.reg [⟨some 27,.mv (.t 5),.none,false⟩,⟨some 4,.asg (.t 27),.none,false⟩] false [4]) (.ret)))),[],false,false,.none⟩
def x117_1:XC:=.reg [⟨some 5,.mv (.t 1),.none,false⟩,⟨some 6,.fadr 0 (.t 2),.none,false⟩,⟨some 7,.load false 1 (.t 6),.none,false⟩,⟨some 8,.bin .geq (.t 5) (.t 7),.none,false⟩,⟨some 9,.mv (.t 8),.none,false⟩,⟨some 10,.mv (.t 1),some (9,true),false⟩,⟨some 11,.fadr 2 (.t 2),some (9,true),false⟩,⟨some 12,.load false 1 (.t 11),some (9,true),false⟩,⟨some 13,.bin .lss (.t 10) (.t 12),some (9,true),false⟩,⟨some 14,.pick (.t 9) (.t 13) (.k (.bool false)),.none,false⟩,⟨some 4,.asg (.t 14),.none,false⟩] false [4]
def x117:XF:=⟨2,15,[.tmp 4],.seq (.reg [⟨some 2,.box (.t 0),.none,false⟩,⟨some 4,.asg (.k (.bool false)),.none,false⟩] false [1,2]) (.seq x117_1 (.ret)),[],false,false,.none⟩
def x82_1:XC:=.seq (.seq (.reg [⟨some 6,.mv (.t 5),.none,false⟩,⟨some 7,.mv (.t 0),.none,false⟩,⟨some 8,.len false (.t 7),.none,false⟩,⟨some 9,.bin .lss (.t 6) (.t 8),.none,false⟩] false [0,1,5,9]) (.cond (.t 9) (.skip) (.exit 0 []) [0,1,5])) (.seq (.block 1 (.seq (.reg [⟨some 12,.mv (.t 0),.none,false⟩,⟨some 13,.mv (.t 5),.none,false⟩,⟨some 14,.iadr 3 .none (.t 12) (.t 13),.none,false⟩,⟨some 15,.load true 3 (.t 14),.none,false⟩,⟨some 16,.mv (.t 1),.none,false⟩,⟨some 17,.call 117 [.t 15,.t 16] [],.none,false⟩] false [0,1,5,17]) (.cond (.t 17) (.seq (.reg [⟨some 4,.asg (.k (.bool true)),.none,false⟩] false [4]) (.ret)) (.skip) [0,1,5])) [0,1,5]) (.reg [⟨some 10,.mv (.t 5),.none,false⟩,⟨some 11,.bin .add (.t 10) (.k (.int .i64 1)),.none,false⟩,⟨some 5,.asg (.t 11),.none,false⟩] false [0,1,5]))
def x82:XF:=⟨2,18,[.tmp 4],.seq (.reg [⟨some 4,.asg (.k (.bool false)),.none,false⟩] false [0,1]) (.seq (.seq (.reg [⟨some 5,.asg (.k (.int .i64 0)),.none,false⟩] false [0,1,5]) (.block 0 (.loop x82_1 [0,1,5]) [])) (.seq (.reg [⟨some 4,.asg (.k (.bool false)),.none,false⟩] false [4]) (.ret))),[],false,false,.none⟩
def x85_1:XC:=.seq (.seq (.reg [⟨some 8,.mv (.t 7),.none,false⟩,⟨some 9,.mv (.t 0),.none,false⟩,⟨some 10,.len false (.t 9),.none,false⟩,⟨some 11,.bin .lss (.t 8) (.t 10),.none,false⟩] false [0,1,2,7,11]) (.cond (.t 11) (.skip) (.exit 0 [2]) [0,1,2,7])) (.seq (.block 1 (.seq (.reg [⟨some 14,.mv (.t 0),.none,false⟩,⟨some 15,.mv (.t 7),.none,false⟩,⟨some 16,.iadr 1 .none (.t 14) (.t 15),.none,false⟩,⟨some 17,.load false 1 (.t 16),.none,false⟩,⟨some 18,.mv (.t 2),.none,false⟩,⟨some 19,.bin .eql (.t 17) (.t 18),.none,false⟩] false [0,1,2,7,19]) (.cond (.t 19) (.seq (.reg [⟨some 20,.mv (.t 1),.none,false⟩,⟨some 21,.mv (.t 7),.none,false⟩,⟨some 22,.iadr 1 .none (.t 20) (.t 21),.none,false⟩,⟨some 23,.load false 1 (.t 22),.none,false⟩,⟨some 6,.asg (.t 23),.none,false⟩] false [6]) (.ret)) (.skip) [0,1,2,7])) [0,1,2,7]) (.reg [⟨some 12,.mv (.t 7),.none,false⟩,⟨some 13,.bin .add (.t 12) (.k (.int .i64 1)),.none,false⟩,⟨some 7,.asg (.t 13),.none,false⟩] false [0,1,2,7]))
def x85:XF:=⟨3,25,[.tmp 6],.seq (.reg [⟨some 6,.asg (.k (.int .i64 0)),.none,false⟩] false [0,1,2]) (.seq (.seq (.reg [⟨some 7,.asg (.k (.int .i64 0)),.none,false⟩] false [0,1,2,7]) (.block 0 (.loop x85_1 [0,1,2,7]) [2])) (.seq (.reg [⟨some 24,.mv (.t 2),.none,false⟩,⟨some 6,.asg (.t 24),.none,false⟩] false [6]) (.ret))),[],false,false,.none⟩
def x19_1:XC:=.seq (.seq (.reg [⟨some 6,.mv (.t 5),.none,false⟩,⟨some 7,.mv (.t 0),.none,false⟩,⟨some 8,.len false (.t 7),.none,false⟩,⟨some 9,.bin .lss (.t 6) (.t 8),.none,false⟩] false [0,1,5,9]) (.cond (.t 9) (.skip) (.exit 0 []) [0,1,5])) (.seq (.block 1 (.seq (.reg [⟨some 12,.mv (.t 0),.none,false⟩,⟨some 13,.mv (.t 5),.none,false⟩,⟨some 14,.iadr 1 .none (.t 12) (.t 13),.none,false⟩,⟨some 15,.load false 1 (.t 14),.none,false⟩,⟨some 16,.mv (.t 1),.none,false⟩,⟨some 17,.bin .eql (.t 15) (.t 16),.none,false⟩] false [0,1,5,17]) (.cond (.t 17) (.seq (.reg [⟨some 4,.asg (.k (.bool true)),.none,false⟩] false [4]) (.ret)) (.skip) [0,1,5])) [0,1,5]) (.reg [⟨some 10,.mv (.t 5),.none,false⟩,⟨some 11,.bin .add (.t 10) (.k (.int .i64 1)),.none,false⟩,⟨some 5,.asg (.t 11),.none,false⟩] false [0,1,5]))
def x19:XF:=⟨2,18,[.tmp 4],.seq (.reg [⟨some 4,.asg (.k (.bool false)),.none,false⟩] false [0,1]) (.seq (.seq (.reg [⟨some 5,.asg (.k (.int .i64 0)),.none,false⟩] false [0,1,5]) (.block 0 (.loop x19_1 [0,1,5]) [])) (.seq (.reg [⟨some 4,.asg (.k (.bool false)),.none,false⟩] false [4]) (.ret))),[],false,false,.none⟩
def x86_1:XC:=.seq (.seq (.reg [⟨some 11,.mv (.t 5),.none,false⟩,⟨some 12,.mv (.t 0),.none,false⟩,⟨some 13,.len false (.t 12),.none,false⟩,⟨some 14,.bin .lss (.t 11) (.t 13),.none,false⟩] false [0,1,5,14]) (.cond (.t 14) (.skip) (.exit 0 []) [0,1,5])) (.seq (.block 1 (.seq (.reg [⟨some 17,.mv (.t 0),.none,false⟩,⟨some 18,.mv (.t 5),.none,false⟩,⟨some 19,.iadr 1 .none (.t 17) (.t 18),.none,false⟩,⟨some 20,.load false 1 (.t 19),.none,false⟩,⟨some 21,.mv (.t 1),.none,false⟩,⟨some 22,.mv (.t 5),.none,false⟩,⟨some 23,.iadr 1 .none (.t 21) (.t 22),.none,false⟩,⟨some 24,.load false 1 (.t 23),.none,false⟩,⟨some 25,.bin .neq (.t 20) (.t 24),.none,true⟩] true [0,1,5,25]) (.cond (.t 25) (.seq (.reg [⟨some 4,.asg (.k (.bool false)),.none,false⟩] false [4]) (.ret)) (.skip) [0,1,5])) [0,1,5]) (.reg [⟨some 15,.mv (.t 5),.none,false⟩,⟨some 16,.bin .add (.t 15) (.k (.int .i64 1)),.none,false⟩,⟨some 5,.asg (.t 16),.none,false⟩] false [0,1,5]))
def x86:XF:=⟨2,26,[.tmp 4],.seq (.reg [⟨some 4,.asg (.k (.bool false)),.none,false⟩] false [0,1]) (.seq (.seq (.reg [⟨some 6,.mv (.t 0),.none,false⟩,⟨some 7,.len false (.t 6),.none,false⟩,⟨some 8,.mv (.t 1),.none,false⟩,⟨some 9,.len false (.t 8),.none,false⟩,⟨some 10,.bin .gtr (.t 7) (.t 9),.none,false⟩] false [0,1,10]) (.cond (.t 10) (.seq (.reg [⟨some 4,.asg (.k (.bool false)),.none,false⟩] false [4]) (.ret)) (.skip) [0,1])) (.seq (.seq (.reg [⟨some 5,.asg (.k (.int .i64 0)),.none,false⟩] false [0,1,5]) (.block 0 (.loop x86_1 [0,1,5]) [])) (.seq (.reg [⟨some 4,.asg (.k (.bool true)),.none,false⟩] false [4]) (.ret)))),[],false,false,.none⟩
def x32_1:XC:=.reg [⟨some 5,.mv (.t 0),.none,false⟩,⟨some 6,.len false (.t 5),.none,false⟩,⟨some 7,.mv (.t 1),.none,false⟩,⟨some 8,.len false (.t 7),.none,false⟩,⟨some 9,.bin .eql (.t 6) (.t 8),.none,false⟩,⟨some 10,.mv (.t 9),.none,false⟩,⟨some 11,.mv (.t 0),some (10,true),false⟩,⟨some 12,.mv (.t 1),some (10,true),false⟩,⟨some 13,.call 86 [.t 11,.t 12] [],some (10,true),false⟩,⟨some 14,.pick (.t 10) (.t 13) (.k (.bool false)),.none,false⟩,⟨some 4,.asg (.t 14),.none,false⟩] false [4]
def x32:XF:=⟨2,15,[.tmp 4],.seq (.reg [⟨some 4,.asg (.k (.bool false)),.none,false⟩] false [0,1]) (.seq x32_1 (.ret)),[],false,false,.none⟩
def x17_1:XC:=.cond (.t 26) (.reg [⟨some 27,.mv (.t 5),.none,false⟩,⟨some 28,.mv (.t 0),.none,false⟩,⟨some 29,.mv (.t 7),.none,false⟩,⟨some 30,.iadr 4 .none (.t 28) (.t 29),.none,false⟩,⟨some 31,.fadr 0 (.t 30),.none,false⟩,⟨some 32,.load false 1 (.t 31),.none,false⟩,⟨some 33,.bsl 1 1 [.int .i64 0] [(0,1,.t 32)],.none,false⟩,⟨some 34,.app 1 8 (.t 27) (.t 33),.none,false⟩,⟨some 5,.asg (.t 34),.none,false⟩] false [0,1,5,6]) (.reg [⟨some 35,.mv (.t 5),.none,false⟩,⟨some 36,.bsl 1 1 [.int .i64 0] [(0,1,.k (.int .i64 0))],.none,false⟩,⟨some 37,.app 1 8 (.t 35) (.t 36),.none,false⟩,⟨some 5,.asg (.t 37),.none,false⟩] false [0,1,5,6]) [0,1,5,6]
def x17_2:XC:=.seq (.seq (.reg [⟨some 8,.mv (.t 6),.none,false⟩,⟨some 9,.mv (.t 1),.none,false⟩,⟨some 10,.len false (.t 9),.none,false⟩,⟨some 11,.bin .lss (.t 8) (.t 10),.none,false⟩] false [0,1,5,6,11]) (.cond (.t 11) (.skip) (.exit 0 [5]) [0,1,5,6])) (.seq (.block 1 (.seq (.reg [⟨some 14,.mv (.t 1),.none,false⟩,⟨some 15,.mv (.t 6),.none,false⟩,⟨some 16,.iadr 1 .none (.t 14) (.t 15),.none,false⟩,⟨some 17,.load false 1 (.t 16),.none,false⟩,⟨some 18,.conv .i64 (.t 17),.none,false⟩,⟨some 19,.mv (.t 0),.none,false⟩,⟨some 20,.len false (.t 19),.none,false⟩,⟨some 21,.bin .add (.t 20) (.k (.int .i64 1)),.none,false⟩,⟨some 22,.bin .rem (.t 18) (.t 21),.none,false⟩,⟨some 7,.asg (.t 22),.none,false⟩] false [0,1,5,6,7]) (.seq (.reg [⟨some 23,.mv (.t 7),.none,false⟩,⟨some 24,.mv (.t 0),.none,false⟩,⟨some 25,.len false (.t 24),.none,false⟩,⟨some 26,.bin .lss (.t 23) (.t 25),.none,false⟩] false [0,1,5,6,7,26]) x17_1)) [0,1,5,6]) (.reg [⟨some 12,.mv (.t 6),.none,false⟩,⟨some 13,.bin .add (.t 12) (.k (.int .i64 1)),.none,false⟩,⟨some 6,.asg (.t 13),.none,false⟩] false [0,1,5,6]))
def x17:XF:=⟨2,39,[.tmp 4],.seq (.reg [⟨some 4,.asg (.k (.nils)),.none,false⟩] false [0,1]) (.seq (.reg [⟨some 5,.asg (.k (.nils)),.none,false⟩] false [0,1,5]) (.seq (.seq (.reg [⟨some 6,.asg (.k (.int .i64 0)),.none,false⟩] false [0,1,5,6]) (.block 0 (.loop x17_2 [0,1,5,6]) [5])) (.seq (.reg [⟨some 38,.mv (.t 5),.none,false⟩,⟨some 4,.asg (.t 38),.none,false⟩] false [4]) (.ret)))),[],false,false,.none⟩
def x20_1:XC:=.seq (.seq (.reg [⟨some 5,.mv (.t 4),.none,false⟩,⟨some 6,.mv (.t 0),.none,false⟩,⟨some 7,.len false (.t 6),.none,false⟩,⟨some 8,.bin .lss (.t 5) (.t 7),.none,false⟩] false [0,3,4,8]) (.cond (.t 8) (.skip) (.exit 0 [3]) [0,3,4])) (.seq (.block 1 (.reg [⟨some 11,.mv (.t 3),.none,false⟩,⟨some 12,.mv (.t 0),.none,false⟩,⟨some 13,.mv (.t 4),.none,false⟩,⟨some 14,.iadr 1 .none (.t 12) (.t 13),.none,false⟩,⟨some 15,.load false 1 (.t 14),.none,false⟩,⟨some 16,.bsl 1 1 [.int .i64 0] [(0,1,.t 15)],.none,false⟩,⟨some 17,.app 1 8 (.t 11) (.t 16),.none,false⟩,⟨some 3,.asg (.t 17),.none,false⟩] false [0,3,4]) [0,3,4]) (.reg [⟨some 9,.mv (.t 4),.none,false⟩,⟨some 10,.bin .add (.t 9) (.k (.int .i64 1)),.none,false⟩,⟨some 4,.asg (.t 10),.none,false⟩] false [0,3,4]))
def x20:XF:=⟨1,19,[.tmp 2],.seq (.reg [⟨some 2,.asg (.k (.nils)),.none,false⟩] false [0]) (.seq (.reg [⟨some 3,.asg (.k (.nils)),.none,false⟩] false [0,3]) (.seq (.seq (.reg [⟨some 4,.asg (.k (.int .i64 0)),.none,false⟩] false [0,3,4]) (.block 0 (.loop x20_1 [0,3,4]) [3])) (.seq (.reg [⟨some 18,.mv (.t 3),.none,false⟩,⟨some 2,.asg (.t 18),.none,false⟩] false [2]) (.ret)))),[],false,false,.none⟩
def x67_1:XC:=.reg [⟨some 5,.mv (.t 1),.none,false⟩,⟨some 6,.fadr 0 (.t 2),.none,false⟩,⟨some 7,.load false 1 (.t 6),.none,false⟩,⟨some 8,.bin .geq (.t 5) (.t 7),.none,false⟩,⟨some 9,.mv (.t 8),.none,false⟩,⟨some 10,.mv (.t 1),some (9,true),false⟩,⟨some 11,.fadr 2 (.t 2),some (9,true),false⟩,⟨some 12,.load false 1 (.t 11),some (9,true),false⟩,⟨some 13,.bin .lss (.t 10) (.t 12),some (9,true),false⟩,⟨some 14,.pick (.t 9) (.t 13) (.k (.bool false)),.none,false⟩,⟨some 4,.asg (.t 14),.none,false⟩] false [4]
def x67:XF:=⟨2,15,[.tmp 4],.seq (.reg [⟨some 2,.box (.t 0),.none,false⟩,⟨some 4,.asg (.k (.bool false)),.none,false⟩] false [1,2]) (.seq x67_1 (.ret)),[],false,false,.none⟩
def tt:TT:=(.node 67 x67 (.node 26 x26 (.node 20 x20 (.node 19 x19 (.node 17 x17 .leaf .leaf) .leaf) (.node 23 x23 (.node 21 x21 .leaf .leaf) .leaf)) (.node 32 x32 (.node 30 x30 (.node 29 x29 .leaf .leaf) .leaf) (.node 35 x35 .leaf .leaf))) (.node 97 x97 (.node 82 x82 (.node 75 x75 (.node 74 x74 .leaf .leaf) .leaf) (.node 86 x86 (.node 85 x85 .leaf .leaf) .leaf)) (.node 117 x117 (.node 113 x113 (.node 98 x98 .leaf .leaf) .leaf) (.node 120 x120 .leaf .leaf))))
def T:Nat->Option XF:=tt.get
def hintsOf:Nat->List Hint
 | 75=>[⟨[0],1,false⟩,⟨[0,3],1,false⟩,⟨[0,3,4],1,false⟩,⟨[0,3,4,7],3,false⟩,⟨[3],0,false⟩,⟨[0,3,4],0,false⟩,⟨[0,3,4],3,false⟩,⟨[0,3,4],0,false⟩,⟨[0,3,4],3,false⟩,⟨[0,3,4],0,false⟩,⟨[3],0,false⟩,⟨[2],2,false⟩]
 | 23=>[⟨[1,2],2,false⟩,⟨[1,2,12],8,false⟩,⟨[4],1,false⟩,⟨[1,2],0,false⟩,⟨[4],4,false⟩]
 | 29=>[⟨[0,1],1,false⟩,⟨[0,1,10],5,false⟩,⟨[4],1,false⟩,⟨[0,1],0,false⟩,⟨[0,1,5],1,false⟩,⟨[0,1,5,14],4,false⟩,⟨[],0,false⟩,⟨[0,1,5],0,false⟩,⟨[0,1,5,25],8,false⟩,⟨[4],1,false⟩,⟨[0,1,5],0,false⟩,⟨[0,1,5],0,false⟩,⟨[0,1,5],3,false⟩,⟨[0,1,5],0,false⟩,⟨[],0,false⟩,⟨[4],1,false⟩]
 | 35=>[⟨[0,1,4],1,false⟩,⟨[1,4,5],5,false⟩,⟨[4,5,6],3,false⟩,⟨[4,5,6,7],1,false⟩,⟨[4,5,6,7,16],3,false⟩,⟨[4,5,6],0,false⟩,⟨[4,5,6,7],0,false⟩,⟨[4,5,6,7,23],5,false⟩,⟨[4,5,6,7],6,false⟩,⟨[4,5,6,7],0,false⟩,⟨[4,5,6,7],0,false⟩,⟨[4,5,6,7],3,false⟩,⟨[4,5,6,7],0,false⟩,⟨[4,5,6],0,false⟩,⟨[4],4,false⟩]
 | 97=>[⟨[1],2,false⟩,⟨[23],19,false⟩,⟨[2],1,false⟩,⟨[],0,false⟩,⟨[2],1,false⟩]
 | 74=>[⟨[0,2],2,false⟩,⟨[0,2,11],6,false⟩,⟨[2,3],3,false⟩,⟨[0,2],0,false⟩,⟨[2,4],7,false⟩,⟨[2,4,5],3,false⟩,⟨[2,4,5,21],2,false⟩,⟨[2,3],4,false⟩,⟨[2,4],0,false⟩,⟨[2,3],3,false⟩]
 | 113=>[⟨[1],2,false⟩,⟨[2],7,false⟩]
 | 120=>[⟨[0],1,false⟩,⟨[0],2,false⟩]
 | 98=>[⟨[1,2],2,false⟩,⟨[4],14,false⟩]
 | 21=>[⟨[0,1],1,false⟩,⟨[0,1,5],4,false⟩,⟨[0,1,5,10],2,false⟩,⟨[],0,false⟩,⟨[0,1,5],0,false⟩,⟨[0,1,5,19],7,false⟩,⟨[4],2,false⟩,⟨[0,1,5],0,false⟩,⟨[0,1,5],0,false⟩,⟨[0,1,5],3,false⟩,⟨[0,1,5],0,false⟩,⟨[],0,false⟩,⟨[4],1,false⟩]
 | 26=>[⟨[0,3],2,false⟩,⟨[0,3,5],1,false⟩,⟨[0,3,5,6],3,false⟩,⟨[0,3,5,6,12],4,false⟩,⟨[5],0,false⟩,⟨[0,3,5,6],0,false⟩,⟨[0,3,5,6,18],4,false⟩,⟨[0,3,5,6],5,false⟩,⟨[0,3,5,6],0,false⟩,⟨[0,3,5,6],0,false⟩,⟨[0,3,5,6],3,false⟩,⟨[0,3,5,6],0,false⟩,⟨[5],0,false⟩,⟨[4],2,false⟩]
 | 30=>[⟨[0,1],1,false⟩,⟨[0,1,5],1,false⟩,⟨[0,1,5,6],1,false⟩,⟨[0,1,5,6,10],4,false⟩,⟨[5],0,false⟩,⟨[0,1,5,6],0,false⟩,⟨[0,1,5,6],15,false⟩,⟨[0,1,5,6],0,false⟩,⟨[0,1,5,6],3,false⟩,⟨[0,1,5,6],0,false⟩,⟨[5],0,false⟩,⟨[4],2,false⟩]
 | 117=>[⟨[1,2],2,false⟩,⟨[4],11,false⟩]
 | 82=>[⟨[0,1],1,false⟩,⟨[0,1,5],1,false⟩,⟨[0,1,5,9],4,false⟩,⟨[],0,false⟩,⟨[0,1,5],0,false⟩,⟨[0,1,5,17],6,false⟩,⟨[4],1,false⟩,⟨[0,1,5],0,false⟩,⟨[0,1,5],0,false⟩,⟨[0,1,5],3,false⟩,⟨[0,1,5],0,false⟩,⟨[],0,false⟩,⟨[4],1,false⟩]
 | 85=>[⟨[0,1,2],1,false⟩,⟨[0,1,2,7],1,false⟩,⟨[0,1,2,7,11],4,false⟩,⟨[2],0,false⟩,⟨[0,1,2,7],0,false⟩,⟨[0,1,2,7,19],6,false⟩,⟨[6],5,false⟩,⟨[0,1,2,7],0,false⟩,⟨[0,1,2,7],0,false⟩,⟨[0,1,2,7],3,false⟩,⟨[0,1,2,7],0,false⟩,⟨[2],0,false⟩,⟨[6],2,false⟩]
 | 19=>[⟨[0,1],1,false⟩,⟨[0,1,5],1,false⟩,⟨[0,1,5,9],4,false⟩,⟨[],0,false⟩,⟨[0,1,5],0,false⟩,⟨[0,1,5,17],6,false⟩,⟨[4],1,false⟩,⟨[0,1,5],0,false⟩,⟨[0,1,5],0,false⟩,⟨[0,1,5],3,false⟩,⟨[0,1,5],0,false⟩,⟨[],0,false⟩,⟨[4],1,false⟩]
 | 86=>[⟨[0,1],1,false⟩,⟨[0,1,10],5,false⟩,⟨[4],1,false⟩,⟨[0,1],0,false⟩,⟨[0,1,5],1,false⟩,⟨[0,1,5,14],4,false⟩,⟨[],0,false⟩,⟨[0,1,5],0,false⟩,⟨[0,1,5,25],8,false⟩,⟨[4],1,false⟩,⟨[0,1,5],0,false⟩,⟨[0,1,5],0,false⟩,⟨[0,1,5],3,false⟩,⟨[0,1,5],0,false⟩,⟨[],0,false⟩,⟨[4],1,false⟩]
 | 32=>[⟨[0,1],1,false⟩,⟨[4],11,false⟩]
 | 17=>[⟨[0,1],1,false⟩,⟨[0,1,5],1,false⟩,⟨[0,1,5,6],1,false⟩,⟨[0,1,5,6,11],4,false⟩,⟨[5],0,false⟩,⟨[0,1,5,6],0,false⟩,⟨[0,1,5,6,7],10,false⟩,⟨[0,1,5,6,7,26],4,false⟩,⟨[0,1,5,6],9,false⟩,⟨[0,1,5,6],4,false⟩,⟨[0,1,5,6],0,false⟩,⟨[0,1,5,6],0,false⟩,⟨[0,1,5,6],3,false⟩,⟨[0,1,5,6],0,false⟩,⟨[5],0,false⟩,⟨[4],2,false⟩]
 | 20=>[⟨[0],1,false⟩,⟨[0,3],1,false⟩,⟨[0,3,4],1,false⟩,⟨[0,3,4,8],4,false⟩,⟨[3],0,false⟩,⟨[0,3,4],0,false⟩,⟨[0,3,4],8,false⟩,⟨[0,3,4],0,false⟩,⟨[0,3,4],3,false⟩,⟨[0,3,4],0,false⟩,⟨[3],0,false⟩,⟨[2],2,false⟩]
 | 67=>[⟨[1,2],2,false⟩,⟨[4],11,false⟩]
 | _=>[]
open Go
set_option maxRecDepth 100000
set_option maxHeartbeats 4000000
def Ok1 (P : Program) (f : Nat) (x : XF) : Prop := x.ext = Option.none ∧ ∃ fn code hints, P.funcs[f]? = some fn ∧ (fn.name == "runtime.NumGoroutine") = false ∧ fn.body = some code ∧ x.np ≤ fn.ntmps ∧ trC P (fun d => decide (d < fn.ntmps) && !x.prot.contains d) code hints = some (x.body, []) ∧ trRs P fn.results.toList = some x.res
theorem yp7:Ok1 Go.Proofs.Try.prog 17 x17:=⟨rfl,Go.Proofs.Try.f17,_,hintsOf 17,Go.Proofs.Try.func17,by kernel_rfl,rfl,by decide,by kernel_rfl,by kernel_rfl⟩
theorem yp8:Ok1 Go.Proofs.Try.prog 19 x19:=⟨rfl,Go.Proofs.Try.f19,_,hintsOf 19,Go.Proofs.Try.func19,by kernel_rfl,rfl,by decide,by kernel_rfl,by kernel_rfl⟩
theorem yp9:Ok1 Go.Proofs.Try.prog 20 x20:=⟨rfl,Go.Proofs.Try.f20,_,hintsOf 20,Go.Proofs.Try.func20,by kernel_rfl,rfl,by decide,by kernel_rfl,by kernel_rfl⟩
theorem yqa:Ok1 Go.Proofs.Try.prog 21 x21:=⟨rfl,Go.Proofs.Try.f21,_,hintsOf 21,Go.Proofs.Try.func21,by kernel_rfl,rfl,by decide,by kernel_rfl,by kernel_rfl⟩
theorem yqb:Ok1 Go.Proofs.Try.prog 23 x23:=⟨rfl,Go.Proofs.Try.f23,_,hintsOf 23,Go.Proofs.Try.func23,by kernel_rfl,rfl,by decide,by kernel_rfl,by kernel_rfl⟩
theorem yqc:Ok1 Go.Proofs.Try.prog 26 x26:=⟨rfl,Go.Proofs.Try.f26,_,hintsOf 26,Go.Proofs.Try.func26,by kernel_rfl,rfl,by decide,by kernel_rfl,by kernel_rfl⟩
theorem yqd:Ok1 Go.Proofs.Try.prog 29 x29:=⟨rfl,Go.Proofs.Try.f29,_,hintsOf 29,Go.Proofs.Try.func29,by kernel_rfl,rfl,by decide,by kernel_rfl,by kernel_rfl⟩
theorem yqe:Ok1 Go.Proofs.Try.prog 30 x30:=⟨rfl,Go.Proofs.Try.f30,_,hintsOf 30,Go.Proofs.Try.func30,by kernel_rfl,rfl,by decide,by kernel_rfl,by kernel_rfl⟩
theorem yqf:Ok1 Go.Proofs.Try.prog 32 x32:=⟨rfl,Go.Proofs.Try.f32,_,hintsOf 32,Go.Proofs.Try.func32,by kernel_rfl,rfl,by decide,by kernel_rfl,by kernel_rfl⟩
theorem yqg:Ok1 Go.Proofs.Try.prog 35 x35:=⟨rfl,Go.Proofs.Try.f35,_,hintsOf 35,Go.Proofs.Try.func35,by kernel_rfl,rfl,by decide,by kernel_rfl,by kernel_rfl⟩
theorem yqh:Ok1 Go.Proofs.Try.prog 67 x67:=⟨rfl,Go.Proofs.Try.f67,_,hintsOf 67,Go.Proofs.Try.func67,by kernel_rfl,rfl,by decide,by kernel_rfl,by kernel_rfl⟩
theorem yqi:Ok1 Go.Proofs.Try.prog 74 x74:=⟨rfl,Go.Proofs.Try.f74,_,hintsOf 74,Go.Proofs.Try.func74,by kernel_rfl,rfl,by decide,by kernel_rfl,by kernel_rfl⟩
theorem yqj:Ok1 Go.Proofs.Try.prog 75 x75:=⟨rfl,Go.Proofs.Try.f75,_,hintsOf 75,Go.Proofs.Try.func75,by kernel_rfl,rfl,by decide,by kernel_rfl,by kernel_rfl⟩
theorem yqk:Ok1 Go.Proofs.Try.prog 82 x82:=⟨rfl,Go.Proofs.Try.f82,_,hintsOf 82,Go.Proofs.Try.func82,by kernel_rfl,rfl,by decide,by kernel_rfl,by kernel_rfl⟩
theorem yql:Ok1 Go.Proofs.Try.prog 85 x85:=⟨rfl,Go.Proofs.Try.f85,_,hintsOf 85,Go.Proofs.Try.func85,by kernel_rfl,rfl,by decide,by kernel_rfl,by kernel_rfl⟩
theorem yqm:Ok1 Go.Proofs.Try.prog 86 x86:=⟨rfl,Go.Proofs.Try.f86,_,hintsOf 86,Go.Proofs.Try.func86,by kernel_rfl,rfl,by decide,by kernel_rfl,by kernel_rfl⟩
theorem yqn:Ok1 Go.Proofs.Try.prog 97 x97:=⟨rfl,Go.Proofs.Try.f97,_,hintsOf 97,Go.Proofs.Try.func97,by kernel_rfl,rfl,by decide,by kernel_rfl,by kernel_rfl⟩
theorem yqo:Ok1 Go.Proofs.Try.prog 98 x98:=⟨rfl,Go.Proofs.Try.f98,_,hintsOf 98,Go.Proofs.Try.func98,by kernel_rfl,rfl,by decide,by kernel_rfl,by kernel_rfl⟩
theorem ypo:Ok1 Go.Proofs.Try.prog 113 x113:=⟨rfl,Go.Proofs.Try.f113,_,hintsOf 113,Go.Proofs.Try.func113,by kernel_rfl,rfl,by decide,by kernel_rfl,by kernel_rfl⟩
theorem ypp:Ok1 Go.Proofs.Try.prog 117 x117:=⟨rfl,Go.Proofs.Try.f117,_,hintsOf 117,Go.Proofs.Try.func117,by kernel_rfl,rfl,by decide,by kernel_rfl,by kernel_rfl⟩
theorem ypq:Ok1 Go.Proofs.Try.prog 120 x120:=⟨rfl,Go.Proofs.Try.f120,_,hintsOf 120,Go.Proofs.Try.func120,by kernel_rfl,rfl,by decide,by kernel_rfl,by kernel_rfl⟩
theorem tok:TOk Go.Proofs.Try.prog T:=fun f x hx=>TT.get_all (t:=tt) (Q:=fun f x=>(∃k,x.ext=some k/\CallOk1 Go.Proofs.Try.prog f (extSem k))\/Ok1 Go.Proofs.Try.prog f x) ⟨.inr yqh,⟨.inr yqc,⟨.inr yp9,⟨.inr yp8,⟨.inr yp7,trivial,trivial⟩,trivial⟩,⟨.inr yqb,⟨.inr yqa,trivial,trivial⟩,trivial⟩⟩,⟨.inr yqf,⟨.inr yqe,⟨.inr yqd,trivial,trivial⟩,trivial⟩,⟨.inr yqg,trivial,trivial⟩⟩⟩,⟨.inr yqn,⟨.inr yqk,⟨.inr yqj,⟨.inr yqi,trivial,trivial⟩,trivial⟩,⟨.inr yqm,⟨.inr yql,trivial,trivial⟩,trivial⟩⟩,⟨.inr ypp,⟨.inr ypo,⟨.inr yqo,trivial,trivial⟩,trivial⟩,⟨.inr ypq,trivial,trivial⟩⟩⟩⟩ f x hx
theorem yqp:Go.Proofs.Try.prog.follows .mixedOrders=true:=by kernel_rfl
open Go
set_option maxRecDepth 100000
set_option maxHeartbeats 4000000
open Go.ChangeShapes Go.WideShapes Go.ChangeAt Go.RowKit
theorem own:ownKnob Go.Proofs.Try.prog.godebug=none:=by kernel_rfl
theorem laidOut:laidOutB Go.Proofs.Try.prog=true:=by kernel_rfl
def Rl26_Op(x:l26_Op):Prop:=Rng .i64 x.Kind/\Rng .u8 x.Area/\Rng .u8 x.Id/\Rng .u8 x.Slot/\Rng .u8 x.N/\Rng .u16 x.Mask
theorem ylv(n:Nat):Opn Go.Proofs.Try.prog (n+2) 132 cl26_Op Rl26_Op:=by
 intro H d pvs h hw
 obtain⟨ds,g0⟩:=yk2 Go.Proofs.Try.underlying132 h hw
 clear h hw
 obtain⟨d1,ds1,a1,b1,rfl,h1,g1,rfl⟩:=ybV g0
 obtain⟨d2,ds2,a2,b2,rfl,h2,g2,rfl⟩:=ybV g1
 obtain⟨d3,ds3,a3,b3,rfl,h3,g3,rfl⟩:=ybV g2
 obtain⟨d4,ds4,a4,b4,rfl,h4,g4,rfl⟩:=ybV g3
 obtain⟨d5,ds5,a5,b5,rfl,h5,g5,rfl⟩:=ybV g4
 obtain⟨d6,ds6,a6,b6,rfl,h6,g6,rfl⟩:=ybV g5
 obtain rfl:=ymz g6
 obtain⟨x1,rfl,r1⟩:=(ycs (n:=n+0) Go.Proofs.Try.underlying3:Opn Go.Proofs.Try.prog (n+1) 3 (cint .i64) (Rng .i64)) H d1 a1 h1.1 h1.2
 obtain⟨x2,rfl,r2⟩:=(ycs (n:=n+0) Go.Proofs.Try.underlying5:Opn Go.Proofs.Try.prog (n+1) 5 (cint .u8) (Rng .u8)) H d2 a2 h2.1 h2.2
 obtain⟨x3,rfl,r3⟩:=(ycs (n:=n+0) Go.Proofs.Try.underlying5:Opn Go.Proofs.Try.prog (n+1) 5 (cint .u8) (Rng .u8)) H d3 a3 h3.1 h3.2
 obtain⟨x4,rfl,r4⟩:=(ycs (n:=n+0) Go.Proofs.Try.underlying5:Opn Go.Proofs.Try.prog (n+1) 5 (cint .u8) (Rng .u8)) H d4 a4 h4.1 h4.2
 obtain⟨x5,rfl,r5⟩:=(ycs (n:=n+0) Go.Proofs.Try.underlying5:Opn Go.Proofs.Try.prog (n+1) 5 (cint .u8) (Rng .u8)) H d5 a5 h5.1 h5.2
 obtain⟨x6,rfl,r6⟩:=(ycs (n:=n+0) Go.Proofs.Try.underlying69:Opn Go.Proofs.Try.prog (n+1) 69 (cint .u16) (Rng .u16)) H d6 a6 h6.1 h6.2
 exact⟨⟨x1,x2,x3,x4,x5,x6⟩,rfl,r1,r2,r3,r4,r5,r6⟩
theorem readSpaceMoves(H:Type)(ds:List (DataW H))(ws:List PV)(h:argsPV Go.Proofs.Try.prog 12 [5,22,23,4] ds=some ws/\∀x∈DataW.weightsEach Go.Proofs.Try.prog [5,22,23,4] ds,x<=reachBytes):∃(x1:Int) (x2:List l26_Op) (x3:List Int) (x4:Bool),(Rng .u8 x1)/\(x2.length<140737488355328/\∀y∈x2,Rl26_Op y)/\(x3.length<140737488355328/\∀y∈x3,Rng .u8 y)/\(True)/\ws=[.int .u8 x1,.sl x2.length (x2.flatMap cl26_Op),.sl x3.length (x3.flatMap (cint .u8)),.bool x4]:=by
 obtain⟨d1,ds1,w1,ws1,rfl,rfl,h1,h⟩:=ydy h
 obtain⟨d2,ds2,w2,ws2,rfl,rfl,h2,h⟩:=ydy h
 obtain⟨d3,ds3,w3,ws3,rfl,rfl,h3,h⟩:=ydy h
 obtain⟨d4,ds4,w4,ws4,rfl,rfl,h4,h⟩:=ydy h
 obtain⟨rfl,rfl⟩:=ymA h
 obtain⟨x1,rfl,r1⟩:=ygV (by kernel_rfl) (ycs (n:=11) Go.Proofs.Try.underlying5) h1
 obtain⟨x2,rfl,r2⟩:=ygV (by kernel_rfl) (ynb (n:=11) Go.Proofs.Try.underlying22 (by decide +kernel) (ylv 9)) h2
 obtain⟨x3,rfl,r3⟩:=ygV (by kernel_rfl) (ynb (n:=11) Go.Proofs.Try.underlying23 (by decide +kernel) (ycs (n:=10) Go.Proofs.Try.underlying5)) h3
 obtain⟨x4,rfl,r4⟩:=ygV (by kernel_rfl) (ymy (n:=11) Go.Proofs.Try.underlying4) h4
 exact⟨x1,x2,x3,x4,r1,r2,r3,r4,rfl⟩
open Go
noncomputable def pureC(T:Nat->Option XF)(l:List Nat):Calls':=fun f ws=>if l.contains f=true then evI T f ws else Option.none
theorem yjK{P:Program}(hm:P.follows .mixedOrders=true){T:Nat->Option XF}(hT:TOk P T)(l:List Nat):CallOk P (pureC T l):=by
 intro f ws r outs h
 unfold pureC at h
 split at h
 ·obtain⟨n,hn⟩:=yaL.1 h
  exact yhJ hm hT n f ws r outs hn
 ·cases h
section
variable {C:Calls'} {K:HCalls} {T:Nat->Option HF}
theorem Run.all{c:HC}{s s':HS}{ex:Ex}(h:Run C K T c s ex s'):∃n,∀a b,n<=a->n<=b->evHC C (evHF C K T a) b c s=some (ex,s'):=by
 obtain⟨n,hn⟩:=h
 exact⟨n,fun a b ha hb=>yag (yz ha) hb hn⟩
theorem Ans.all{f:Nat}{ws:List HV}{st st':HSt}{r:HV}(h:Ans C K T f ws st r st'):∃n,∀a,n<=a->evHF C K T a f ws st=some (r,st'):=by
 obtain⟨n,hn⟩:=h
 exact⟨n,fun a ha=>yz ha _ _ _ _ hn⟩
theorem Run.of{c:HC}{s s':HS}{ex:Ex}(n:Nat)(h:evHC C (evHF C K T n) n c s=some (ex,s')):Run C K T c s ex s':=⟨n,h⟩
end
open Go
def allO{α β:Type}(f:α->Option β):List α->Option (List β)
 | []=>some []
 | c::r=>match f c,allO f r with
   | some x,some xs=>some (x::xs)
   | _,_=>Option.none
def rdV(st:HSt):Nat->HV->Option PV
 | _,.p v=>if v.free then some v else Option.none
 | k+1,.row a off len sz=>match st[a]? with
   | some (.row sz' n cs)=>if sz'=sz/\off+len*sz<=cs.length then (allO (rdV st k) ((cs.drop off).take (len*sz))).map (.sl len) else Option.none
   | _=>Option.none
 | _,_=>Option.none
def rdH(st:HSt):HV->Option PV
 | .p v=>if v.loose then some v else Option.none
 | .agg cs=>(allO (rdV st 3) cs).map .agg
 | .row a off len sz=>rdV st 4 (.row a off len sz)
 | _=>Option.none
def rdL(st:HSt):List HV->Option (List PV)
 | []=>some []
 | v::r=>match rdH st v,rdL st r with
   | some x,some xs=>some (x::xs)
   | _,_=>Option.none
def lentC(C:Calls'):HCalls:=fun f ws st=>match rdL st ws with
 | some vs=>match C f vs with
   | some (v,_)=>if v.flat then some (.p v,st) else Option.none
   | _=>Option.none
 | _=>Option.none
theorem ycT{α β:Type}{f:α->Option β}:∀{cs:List α} {vs:List β},allO f cs=some vs->vs.length=cs.length/\∀i (hi:i<cs.length) (hi':i<vs.length),f cs[i]=some vs[i]
 | [],vs,h=>by simp only[allO,Af] at h;subst h;exact⟨rfl,fun i hi=>by simp at hi⟩
 | c::cs,vs,h=>by
   simp only[allO] at h
   split at h
   ·rename_i x xs hx hxs
    obtain rfl:=Ag h
    obtain⟨h1,h2⟩:=ycT hxs
    refine⟨by simp[h1],fun i hi hi'=>?_⟩
    cases i with
    | zero=>exact hx
    | succ i=>exact h2 i (by simpa using hi) (by simpa using hi')
   ·cases h
theorem ylw{st:HSt}:∀{ws:List HV} {vs:List PV},rdL st ws=some vs->vs.length=ws.length/\∀i (hi:i<ws.length) (hi':i<vs.length),rdH st ws[i]=some vs[i]
 | [],vs,h=>by simp only[rdL,Af] at h;subst h;exact⟨rfl,fun i hi=>by simp at hi⟩
 | w::ws,vs,h=>by
   simp only[rdL] at h
   split at h
   ·rename_i x xs hx hxs
    obtain rfl:=Ag h
    obtain⟨h1,h2⟩:=ylw hxs
    refine⟨by simp[h1],fun i hi hi'=>?_⟩
    cases i with
    | zero=>exact hx
    | succ i=>exact h2 i (by simpa using hi) (by simpa using hi')
   ·cases h
section
variable {P:Program}
theorem yfo{w:World}{L:LM}{v:PV}{u:Value}(h3:v.loose=true)(h4:RepV w L Option.none v u):RepV w (fun b j=>shAll (L b j)) Option.none v u:=
 h4.frame (fun b j hr=>by rw[hr.shared];rfl) (fun q hq=>by rw[yaf h3] at hq;cases hq) fun _ _ _=>rfl
theorem ylx{w:World}{L:LM}{A:AM}{st:HSt}(O:HOk w L A st):∀{k:Nat} {x:HV} {v:PV} {u:Value},rdV st k x=some v->RepH w L A x u ->
 RepV w (fun b j=>shAll (L b j)) Option.none v u/\v.free=true:=by
 have pc:∀{pv v:PV} {u:Value},(if pv.free=true then some pv else Option.none)=some v->RepH w L A (.p pv) u->RepV w (fun b j=>shAll (L b j)) Option.none v u/\v.free=true:=fun {pv v u} h H=>by
  split at h
  ·rename_i hf
   obtain rfl:=Ag h
   obtain⟨h3,h4⟩:=H.pv
   exact⟨yfo h3 h4,hf⟩
  ·cases h
 intro k
 induction k with
 | zero=>
   intro x v u h H
   cases x with
   | p pv=>exact pc (by simpa only[rdV] using h) H
   | _=>simp[rdV] at h
 | succ k ih=>
   intro x v u h H
   cases x with
   | p pv=>exact pc (by simpa only[rdV] using h) H
   | row a off len sz=>
     simp only[rdV] at h
     split at h
     ·rename_i sz' n cs hst
      split at h
      ·rename_i hc
       obtain⟨rfl,hle⟩:=hc
       simp only[Ac] at h
       obtain⟨vs,hvs,rfl⟩:=h
       obtain⟨h1,h2⟩:=ycT hvs
       obtain⟨⟨b',o,m⟩,hA⟩:=O.live a _ hst (by simp)
       obtain⟨hb,ho,hn,hm,hlab,hcm,hcells⟩:=O.blk a b' o m _ hA hst
       subst ho
       have hl1:((cs.drop off).take (len*sz')).length=len*sz':=by simp;omega
       cases H with
       | row _ _ _ _ b j cap ha hl hh=>
         obtain⟨rfl,rfl,hcap⟩:=hh b' 0 m hA
         have hcell:∀i (hi:i<vs.length),RepV w (fun b j=>shAll (L b j)) Option.none vs[i] (cv w b (0+off+i))/\vs[i].free=true:=fun i hi=>by
          have hi1:i<((cs.drop off).take (len*sz')).length:=by omega
          have e1:=h2 i hi1 hi
          have hi2:off+i<cs.length:=by omega
          have h3:=hcells (off+i) hi2
          have e3:((cs.drop off).take (len*sz'))[i]=cs[off+i]:=by simp
          rw[e3] at e1
          rw[←Nat.add_assoc] at h3
          exact ih e1 h3
         refine⟨.sl _ len vs b (0+off) cap hl (fun i hi=>?_) (fun i hi=>ya0 (hcell i hi).2) (fun i hi=>(hcell i hi).1),rfl⟩
         have:=hlab (off+i) (by omega)
         rw[show 0+off+i=0+(off+i) by omega,this];rfl
      ·cases h
     ·cases h
   | _=>simp[rdV] at h
theorem yn4{w:World}{L:LM}{A:AM}{st:HSt}(O:HOk w L A st)(shO:∀b j,L b j = .sh->shAll (L b j) = .sh){x:HV}{v:PV}{u:Value}(h:rdH st x=some v)(H:RepH w L A x u):
 RepH w (fun b j=>shAll (L b j)) [] (.p v) u:=by
 cases x with
 | p pv=>
   simp only[rdH] at h
   split at h
   ·rename_i hl
    obtain rfl:=Ag h
    obtain⟨h3,h4⟩:=H.pv
    exact .p _ _ h3 (yfo h3 h4)
   ·cases h
 | row a off len sz=>
   simp only[rdH] at h
   obtain⟨h1,h2⟩:=ylx O h H
   exact .p _ _ (yaH h2) h1
 | agg cs=>
   simp only[rdH,Ac] at h
   obtain⟨vs,hvs,rfl⟩:=h
   obtain⟨h1,h2⟩:=ycT hvs
   cases H with
   | agg _ us hz hc=>
     have hcell:∀i (hi:i<vs.length),RepV w (fun b j=>shAll (L b j)) Option.none vs[i] (us.getD i undef)/\vs[i].free=true:=fun i hi=>
      ylx O (h2 i (by omega) hi) (hc i (by omega))
     refine .p _ _ ?_ (.agg _ vs us (by omega) fun i hi=>(hcell i hi).1)
     have e1:noOwnL vs=true:=yap fun c hm=>by obtain⟨i,hi,rfl⟩:=A9 hm;exact yax (hcell i hi).2
     have e2:refsL vs=[]:=ydu fun i hi=>yL (hcell i hi).2
     simp[PV.loose,noOwn,refs,e1,e2]
 | _=>simp[rdH] at h
theorem yfp{v:PV}(h:v.flat1=true):noOwn v=true/\refs v=[]:=by cases v<;>simp_all [PV.flat1,noOwn,refs]
theorem ykp{v:PV}(h:v.flat=true):v.loose=true:=by
 have key:∀cs:List PV,cs.all PV.flat1=true->noOwnL cs=true/\refsL cs=[]:=fun cs hc=>by
  refine⟨yap fun c hm=>(yfp (Ax.1 hc c hm)).1,ydu fun i hi=>(yfp (Ax.1 hc _ (Au hi))).2⟩
 cases v with
 | agg cs=>have:=key cs h;simp[PV.loose,noOwn,refs,this.1,this.2]
 | tup cs=>have:=key cs h;simp[PV.loose,noOwn,refs,this.1,this.2]
 | _=>simp_all [PV.flat,PV.flat1,PV.loose,noOwn,refs]
theorem ymN{C:Calls'}(hC:CallOk P C):HCallOk P (lentC C):=by
 intro f ws st r st' h
 unfold lentC at h
 split at h
 case h_2=>cases h
 rename_i vs hrd
 split at h
 case h_2=>cases h
 rename_i v st1 hev
 split at h
 case isFalse=>cases h
 rename_i hflat
 simp only[Af,Am] at h
 obtain⟨rfl,rfl⟩:=h
 obtain⟨hfn,hcalls⟩:=hC f vs _ _ hev
 refine⟨hfn,fun args w L A hsz O bd Hargs=>?_⟩
 have W0:=WF.shAll O.wf
 have shO:∀b j,L b j = .sh->shAll (L b j) = .sh:=fun b j h=>by rw[h];rfl
 obtain⟨hlen,hget⟩:=ylw hrd
 have hsz':args.size=vs.length:=by rw[hlen,hsz]
 refine Calls.mono (hcalls args w _ hsz' W0 (fun b j q p i h=>by cases e:L b j <;> simp[e,shAll] at h) fun i hi=>?_) fun en w' he=>?_
 ·have hi2:i<ws.length:=by omega
  obtain⟨h1,h2⟩:=(yn4 O shO (hget i hi2 hi) (Hargs i hi2)).pv
  have h3:noOwn vs[i]=true:=by simp only[PV.loose,Ay] at h1;exact h1.1
  exact⟨h2.loose h3 _,yaf h1⟩
 ·cases en with
  | panicked=>exact he.elim
  | outgrown=>exact he.elim
  | returned u=>
    obtain⟨L',W',E,_,Hr,_,_⟩:=he
    have hl:v.loose=true:=ykp hflat
    have blk:∀b,b<w.heap.size->SameBlk (fun b j=>shAll (L b j)) b w.heap[b]? w'.heap[b]?:=E.blk
    have blk':∀b,b<w.heap.size->SameBlk L b w.heap[b]? w'.heap[b]?:=fun b hb=>(blk b hb).weaken fun j hj=>by
     rcases hj with hj|hj <;> simp[hj,shAll]
    let L2:LM:=fun b j=>if b<w.heap.size then L b j else .out
    have hin:∀{b j},b<w.heap.size->L2 b j=L b j:=fun {b j} h=>by simp only[L2,h,if_true]
    have cell:∀b j,L b j ≠ .out->w'.cell? ⟨b,j,Option.none⟩=w.cell? ⟨b,j,Option.none⟩/\w'.frozen? ⟨b,j,Option.none⟩=w.frozen? ⟨b,j,Option.none⟩:=fun b j h=>by
     have hb:=O.wf.lt h
     obtain⟨v,hv⟩:=O.wf.ex b j h
     have hs:=blk b hb
     cases e:w.heap[b]? with
     | none=>simp[World.cell?,e] at hv
     | some ob=>
       rw[e] at hs
       cases ob with
       | cells c t fr=>
         cases e':w'.heap[b]? with
         | none=>rw[e'] at hs;cases hs
         | some ob'=>
           rw[e'] at hs
           cases ob' with
           | cells c' t' fr'=>
             obtain⟨rfl,rfl,h3,h4⟩:=hs
             refine⟨?_,by simp[World.frozen?,e,e']⟩
             have:=h4 j (by cases e2:L b j <;> simp[e2,shAll])
             simp only[World.cell?,e,e']
             simpa using this
           | _=>cases hs
       | _=>simp[World.cell?,e] at hv
    have W:WF w' L2:=by
     refine⟨fun b j b' j' r p i h h'=>?_,fun b j h=>?_,fun b j r p i h=>?_⟩
     ·have hb:b<w.heap.size:=by apply Bc;intro hn;simp[L2,hn] at h
      have hb':b'<w.heap.size:=by apply Bc;intro hn;simp[L2,hn] at h'
      rw[hin hb] at h;rw[hin hb'] at h'
      exact O.wf.inj _ _ _ _ _ _ _ h h'
     ·have hb:b<w.heap.size:=by apply Bc;intro hn;simp[L2,hn] at h
      rw[hin hb] at h
      obtain⟨v,hv⟩:=O.wf.ex b j h
      exact⟨v,by rw[(cell b j h).1,hv]⟩
     ·have hb:b<w.heap.size:=by apply Bc;intro hn;simp[L2,hn] at h
      rw[hin hb] at h
      rw[(cell b j (by rw[h];simp)).2];exact O.wf.thaw _ _ _ _ _ h
    have E2:Evo w L A w' L2 A:=⟨E.os,E.tape,E.output,E.size,fun b j hb _=>hin hb,fun b hb=>.inr (blk' b hb),Av _,fun _ _=>.inl rfl,fun a b o m h _=>.inl ⟨a,o,m,h⟩⟩
    have Ex:Ext w L w' L2:=⟨E.os,E.tape,E.output,E.size,fun b j hb _=>hin hb,blk'⟩
    have G:Go1 w L w' L2:=⟨W,Ex,fun b j h=>hin (O.wf.lt (fun e=>by rw[e] at h;exact h)),fun b j h=>(cell b j (fun e=>by rw[e] at h;exact h)).1⟩
    have O2:HOk w' L2 A st:=O.grow G fun b j r p i h _=>by
     have hb:b<w.heap.size:=by apply Bc;intro hn;simp[L2,hn] at h
     rwa [hin hb] at h
    refine⟨L2,A,O2,fun b j q p i h=>?_,.p _ _ hl (ygJ Hr hflat),E2⟩
    have hb:b<w.heap.size:=by apply Bc;intro hn;simp[L2,hn] at h
    rw[hin hb] at h
    exact bd _ _ _ _ _ h
end
open Go
def q1(d:Nat)(o:XOp):HI:=⟨some d,.x o,.none,false,[]⟩
def q2(o:XOp):HI:=⟨.none,.x o,.none,false,[]⟩
def q3(d:Nat)(o:XOp)(g:Nat)(b:Bool):HI:=⟨some d,.x o,some (g,b),false,[]⟩
def q4(d t:Nat):HI:=⟨some d,.x (.mv (.t t)),.none,false,[]⟩
def pureK(C:Calls'):HCalls:=fun f ws st=>match allP ws with
 | some vs0=>match frzL vs0 with
  | some vs=>if vs.all PV.loose then (match C f vs with
   | some (v,_)=>match frz v with
     | some x=>if x.loose then some (.p x,st) else Option.none
     | _=>Option.none
   | _=>Option.none) else Option.none
  | _=>Option.none
 | _=>Option.none
def rowsV(st:HSt):Nat->HV->List Nat
 | k+1,.row a off len sz=>match st[a]? with
   | some (.row _ _ cs)=>a::((cs.drop off).take (len*sz)).flatMap (rowsV st k)
   | _=>[a]
 | _,_=>[]
def rowsH(st:HSt):Nat->HV->List Nat
 | k+1,.agg cs=>cs.flatMap (rowsH st k)
 | k+1,.tup cs=>cs.flatMap (rowsH st k)
 | k,v=>rowsV st k v
def rdD(st:HSt)(D:List Nat):Nat->HV->Option PV
 | _,.p v=>if v.free then some v else Option.none
 | k+1,.row a off len sz=>if D.contains a then (match st[a]? with
   | some (.row sz' n cs)=>if sz'=sz/\off+len*sz<=cs.length then (allO (rdD st D k) ((cs.drop off).take (len*sz))).map (.sl len) else Option.none
   | _=>Option.none) else Option.none
 | _,_=>Option.none
def icyP(v:PV):PV:=match frz v with
 | some x=>if x.loose then x else v
 | _=>v
def iceV(st:HSt)(D:List Nat):Nat->HV->Option HV
 | _,.p v=>some (.p (icyP v))
 | _,.ptr a i=>some (.ptr a i)
 | _,.row a off len sz=>(rdD st D 4 (.row a off len sz)).map .p
 | k+1,.agg cs=>(allO (iceV st D k) cs).map mkAgg
 | k+1,.tup cs=>(allO (iceV st D k) cs).map mkTup
 | _,_=>Option.none
def killD:List Nat->HSt->HSt
 | [],st=>st
 | a::D,st=>killD D (st.set a .dead)
def killA:List Nat->AM->AM
 | [],A=>A
 | a::D,A=>killA D (A.set a Option.none)
def iceC(H:HCalls)(l:List Nat):HCalls:=fun f ws st=>if l.contains f then (match H f ws st with
 | some (r,st')=>match iceV st' (rowsH st' 4 r) 4 r with
   | some r'=>some (r',killD (rowsH st' 4 r) st')
   | _=>Option.none
 | _=>Option.none) else Option.none
theorem yaD:∀(D:List Nat) (st:HSt) (a:Nat),(killD D st)[a]? = if a∈D/\a<st.length then some .dead else st[a]?
 | [],st,a=>by simp[killD]
 | d::D,st,a=>by
   rw[killD,yaD D]
   rw[yG]
   by_cases h1:a=d
   ·subst h1
    by_cases h2:a<st.length
    ·simp[h2]
    ·simp[h2]
   ·by_cases h3:a∈D
    ·simp[h1,h3]
    ·simp[h1,h3]
theorem ycy:∀(D:List Nat) (A:AM) (a:Nat),(killA D A)[a]? = if a∈D/\a<A.length then some Option.none else A[a]?
 | [],st,a=>by simp[killA]
 | d::D,st,a=>by
   rw[killA,ycy D]
   rw[yG]
   by_cases h1:a=d
   ·subst h1
    by_cases h2:a<st.length
    ·simp[h2]
    ·simp[h2]
   ·by_cases h3:a∈D
    ·simp[h1,h3]
    ·simp[h1,h3]
theorem ybW:∀(D:List Nat) (st:HSt),(killD D st).length=st.length
 | [],_=>rfl
 | d::D,st=>by rw[killD,ybW D];simp
theorem yfq:∀(D:List Nat) (A:AM),(killA D A).length=A.length
 | [],_=>rfl
 | d::D,st=>by rw[killA,yfq D];simp
def iceL(D:List Nat):Lab->Lab
 | .own r p j=>if HK<=r/\r-HK∈D then .sh else .own r p j
 | l=>l
theorem ydJ{D:List Nat}{l:Lab}{r:Nat}{p:List Nat}{j:Nat}(h:iceL D l = .own r p j):l = .own r p j/\¬(HK<=r/\r-HK∈D):=by
 cases l with
 | out=>cases h
 | sh=>cases h
 | own r' p' j'=>
   simp only[iceL] at h
   split at h
   ·cases h
   ·rename_i hc
    simp only[Lab.own.injEq] at h
    obtain⟨rfl,rfl,rfl⟩:=h
    exact⟨rfl,hc⟩
section
variable {P:Program}
theorem HOk.ice{w:World}{L:LM}{A:AM}{st:HSt}(O:HOk w L A st)(D:List Nat):HOk w (fun b j=>iceL D (L b j)) (killA D A) (killD D st)/\Evo w L A w (fun b j=>iceL D (L b j)) (killA D A):=by
 have ne:∀{a':Nat} {x:Nat×Nat×Nat},(killA D A)[a']? = some (some x)->a'∉D/\A[a']? = some (some x):=fun {a' x} h=>by
  rw[ycy] at h
  split at h
  ·cases h
  ·rename_i hc
   refine⟨fun e=>?_,h⟩
   have:a'<A.length:=(Ad.1 h).1
   exact hc ⟨e,this⟩
 have E:Evo w L A w (fun b j=>iceL D (L b j)) (killA D A):=⟨rfl,rfl,rfl,Av _,fun b j _ h=>by rcases h with h|h <;> rw[h]<;>rfl,fun b _=>.inr (.refl _ _ _),by rw[yfq];exact Av _,fun a' ha=>by
  rw[ycy]
  split
  ·exact .inr rfl
  ·exact .inl rfl,fun a' b o m h _=>.inl ⟨a',o,m,(ne h).2⟩⟩
 refine⟨?_,E⟩
 refine⟨?_,by rw[yfq,ybW];exact O.len,fun b j r p q h hr=>?_,fun a' k h hk=>?_,fun a' b o m k h hk=>?_,fun a1 a2 b o m o' m' ks vs h1 h2 h3=>?_⟩
 ·refine⟨fun b j b' j' r p i h h'=>?_,fun b j h=>?_,fun b j r p i h=>?_⟩
  ·exact O.wf.inj _ _ _ _ _ _ _ (ydJ h).1 (ydJ h').1
  ·exact O.wf.ex b j fun e=>h (by rw[e];rfl)
  ·exact O.wf.thaw _ _ _ _ _ (ydJ h).1
 ·obtain⟨h1,h2⟩:=ydJ h
  obtain⟨h3,a',o,m,h4,h5,h6⟩:=O.lab _ _ _ _ _ h1 hr
  refine⟨h3,a',o,m,h4,?_,h6⟩
  rw[ycy,if_neg (fun e=>h2 ⟨hr,by rw[h4,Nat.add_sub_cancel];exact e.1⟩)];exact h5
 ·rw[yaD] at h
  split at h
  ·simp only[Af] at h;exact absurd h.symm hk
  ·rename_i hc
   obtain⟨x,hx⟩:=O.live a' k h hk
   refine⟨x,?_⟩
   rw[ycy,if_neg (fun e=>hc ⟨e.1,by rw[←O.len];exact e.2⟩)];exact hx
 ·obtain⟨h1,h2⟩:=ne h
  rw[yaD,if_neg (fun e=>h1 e.1)] at hk
  obtain⟨h3,h4⟩:=O.blk _ _ _ _ _ h2 hk
  exact⟨h3,h4.mono (fun q hq=>by
   have hb:=h4.big hq
   simp only[hb,iceL]
   rw[if_neg (by rw[Nat.add_sub_cancel];exact fun e=>h1 e.2)]) (fun _ _=>rfl) (fun es c h=>h) (fun v _ u H=>H.evo E O.wf) fun v u hf H=>H.evo E O.wf (yL hf)⟩
 ·obtain⟨h4,h5⟩:=ne h1
  obtain⟨h6,h7⟩:=ne h2
  rw[yaD,if_neg (fun e=>h4 e.1)] at h3
  exact O.uniq a1 a2 b o m o' m' ks vs h5 h7 h3
theorem yjL{w:World}{L:LM}{A:AM}{v:PV}{u:Value}(H:RepH w L A (.p v) u):RepH w L A (.p (icyP v)) u:=by
 unfold icyP
 split
 ·rename_i x hx
  split
  ·rename_i hl
   exact .p _ _ hl (H.pv.2.share (σ:=fun l=>l) rfl (fun r p h=>by cases h) hx Option.none)
  ·exact H
 ·exact H
theorem yn5{w:World}{L:LM}{A:AM}{st:HSt}(O:HOk w L A st){D:List Nat}:∀{k:Nat} {x:HV} {v:PV} {u:Value},rdD st D k x=some v->RepH w L A x u ->
 RepV w (fun b j=>iceL D (L b j)) Option.none v u/\v.free=true:=by
 have pc:∀{pv v:PV} {u:Value},(if pv.free=true then some pv else Option.none)=some v->RepH w L A (.p pv) u->RepV w (fun b j=>iceL D (L b j)) Option.none v u/\v.free=true:=fun {pv v u} h H=>by
  split at h
  ·rename_i hf
   obtain rfl:=Ag h
   obtain⟨h3,h4⟩:=H.pv
   exact⟨h4.frame (fun b j hr=>by rw[hr.shared];rfl) (fun q hq=>by rw[yaf h3] at hq;cases hq) fun _ _ _=>rfl,hf⟩
  ·cases h
 intro k
 induction k with
 | zero=>
   intro x v u h H
   cases x with
   | p pv=>exact pc (by simpa only[rdD] using h) H
   | _=>simp[rdD] at h
 | succ k ih=>
   intro x v u h H
   cases x with
   | p pv=>exact pc (by simpa only[rdD] using h) H
   | row a off len sz=>
     simp only[rdD] at h
     split at h
     case isFalse=>cases h
     rename_i hD
     split at h
     ·rename_i sz' n cs hst
      split at h
      ·rename_i hc
       obtain⟨rfl,hle⟩:=hc
       simp only[Ac] at h
       obtain⟨vs,hvs,rfl⟩:=h
       obtain⟨h1,h2⟩:=ycT hvs
       obtain⟨⟨b',o,m⟩,hA⟩:=O.live a _ hst (by simp)
       obtain⟨hb,ho,hn,hm,hlab,hcm,hcells⟩:=O.blk a b' o m _ hA hst
       subst ho
       have hl1:((cs.drop off).take (len*sz')).length=len*sz':=by simp;omega
       cases H with
       | row _ _ _ _ b j cap ha hl hh=>
         obtain⟨rfl,rfl,hcap⟩:=hh b' 0 m hA
         have hcell:∀i (hi:i<vs.length),RepV w (fun b j=>iceL D (L b j)) Option.none vs[i] (cv w b (0+off+i))/\vs[i].free=true:=fun i hi=>by
          have hi1:i<((cs.drop off).take (len*sz')).length:=by omega
          have e1:=h2 i hi1 hi
          have hi2:off+i<cs.length:=by omega
          have h3:=hcells (off+i) hi2
          have e3:((cs.drop off).take (len*sz'))[i]=cs[off+i]:=by simp
          rw[e3] at e1
          rw[←Nat.add_assoc] at h3
          exact ih e1 h3
         refine⟨.sl _ len vs b (0+off) cap hl (fun i hi=>?_) (fun i hi=>ya0 (hcell i hi).2) (fun i hi=>(hcell i hi).1),rfl⟩
         have:=hlab (off+i) (by omega)
         rw[show 0+off+i=0+(off+i) by omega,this]
         simp only[iceL]
         rw[if_pos ⟨by omega,by rw[Nat.add_sub_cancel];simpa using hD⟩]
      ·cases h
     ·cases h
   | _=>simp[rdD] at h
theorem ymO{w:World}{L:LM}{A:AM}{st:HSt}(O:HOk w L A st){D:List Nat}(E:Evo w L A w (fun b j=>iceL D (L b j)) (killA D A)):∀{k:Nat} {x y:HV} {u:Value},iceV st D k x=some y->RepH w L A x u ->
 RepH w (fun b j=>iceL D (L b j)) (killA D A) y u:=by
 have rw1:∀{a off len sz:Nat} {y:HV} {u:Value},(rdD st D 4 (.row a off len sz)).map HV.p=some y->RepH w L A (.row a off len sz) u->RepH w (fun b j=>iceL D (L b j)) (killA D A) y u:=fun h H=>by
  simp only[Ac] at h
  obtain⟨v,hv,rfl⟩:=h
  obtain⟨h1,h2⟩:=yn5 O hv H
  exact .p _ _ (yaH h2) h1
 intro k
 induction k with
 | zero=>
   intro x y u h H
   cases x with
   | p v=>simp only[iceV,Af] at h;subst h;exact yjL (H.evo E O.wf)
   | ptr a i=>simp only[iceV,Af] at h;subst h;exact H.evo E O.wf
   | row a off len sz=>exact rw1 (by simpa only[iceV] using h) H
   | _=>simp[iceV] at h
 | succ k ih=>
   intro x y u h H
   cases x with
   | p v=>simp only[iceV,Af] at h;subst h;exact yjL (H.evo E O.wf)
   | ptr a i=>simp only[iceV,Af] at h;subst h;exact H.evo E O.wf
   | row a off len sz=>exact rw1 (by simpa only[iceV] using h) H
   | agg cs=>
     simp only[iceV,Ac] at h
     obtain⟨ys,hys,rfl⟩:=h
     obtain⟨h1,h2⟩:=ycT hys
     cases H with
     | agg _ us hz hc=>exact RepH.mkAgg (by omega) fun i hi=>ih (h2 i (by omega) hi) (hc i (by omega))
   | tup cs=>
     simp only[iceV,Ac] at h
     obtain⟨ys,hys,rfl⟩:=h
     obtain⟨h1,h2⟩:=ycT hys
     cases H with
     | tup _ us hz hc=>exact RepH.mkTup (by omega) fun i hi=>ih (h2 i (by omega) hi) (hc i (by omega))
   | _=>simp[iceV] at h
theorem yn6{H:HCalls}(hH:HCallOk P H)(l:List Nat):HCallOk P (iceC H l):=by
 intro f ws st r st' h
 unfold iceC at h
 split at h
 case isFalse=>cases h
 split at h
 case h_2=>cases h
 rename_i r0 st0 hev
 split at h
 case h_2=>cases h
 rename_i r1 hr1
 simp only[Af,Am] at h
 obtain⟨rfl,rfl⟩:=h
 obtain⟨hfn,hcalls⟩:=hH f ws _ _ _ hev
 refine⟨hfn,fun args w L A hsz O bd Hargs=>Calls.mono (hcalls args w L A hsz O bd Hargs) fun en w' he=>?_⟩
 cases en with
 | panicked=>exact he.elim
 | outgrown=>exact he.elim
 | returned u=>
   obtain⟨L',A',O',bd',Hr,E⟩:=he
   obtain⟨O2,E2⟩:=O'.ice (rowsH st0 4 r0)
   exact⟨_,_,O2,fun b j q p i h=>bd' b j q p i (ydJ h).1,ymO O' E2 hr1 Hr,E.trans O.wf (fun b j r p i h hr=>by
    obtain⟨_,a,o,m,_,h5,_⟩:=O.lab b j r p i h hr
    exact⟨a,o,m,h5⟩) E2⟩
theorem ymP{C:Calls'}(hC:CallOk P C):HCallOk P (pureK C):=by
 intro f ws st r st' h
 unfold pureK at h
 split at h
 case h_2=>cases h
 rename_i vs0 hrd
 split at h
 case h_2=>cases h
 rename_i vs hfz
 split at h
 case isFalse=>cases h
 rename_i hloose
 split at h
 case h_2=>cases h
 rename_i v outs hev
 split at h
 case h_2=>cases h
 rename_i x hx
 split at h
 case isFalse=>cases h
 rename_i hxl
 simp only[Af,Am] at h
 obtain⟨rfl,rfl⟩:=h
 obtain⟨hfn,hcalls⟩:=hC f vs _ _ hev
 have ews:=yfa hrd
 subst ews
 refine⟨hfn,fun args w L A hsz O bd Hargs=>?_⟩
 have W0:=WF.outAll O.wf
 have shO:∀b j,L b j = .sh->outAll (L b j) = .sh:=fun b j h=>by rw[h];rfl
 have hfl:=yaS hfz
 have hsz':args.size=vs.length:=by rw[hfl];simpa using hsz
 refine Calls.mono (hcalls args w _ hsz' W0 (fun b j q p i h=>by cases e:L b j <;> simp[e,outAll] at h) fun i hi=>?_) fun en w' he=>?_
 ·have hi3:i<vs0.length:=by omega
  have hi2:i<(vs0.map HV.p).length:=by simpa using hi3
  have H:=Hargs i hi2
  rw[List.getElem_map] at H
  obtain⟨_,h20⟩:=H.pv
  have h1:vs[i].loose=true:=Ax.1 hloose _ (Au hi)
  have h2:RepV w L Option.none vs[i] (args.getD i undef):=h20.share (σ:=fun l=>l) rfl (fun r p h=>by cases h) (ybb hfz i hi3 hi) Option.none
  have h3:noOwn vs[i]=true:=yb9 h1
  have h4:RepV w (fun b j=>outAll (L b j)) Option.none vs[i] (args.getD i undef):=h2.frame (fun b j hr=>by rw[hr.shared];rfl) (fun q hq=>by rw[yaf h1] at hq;cases hq) fun _ _ _=>rfl
  exact⟨h4.loose h3 _,yaf h1⟩
 ·cases en with
  | panicked=>exact he.elim
  | outgrown=>exact he.elim
  | returned u=>
    obtain⟨L',W',E,_,Hr,_,_⟩:=he
    have blk:∀b,b<w.heap.size->SameBlk (fun b j=>outAll (L b j)) b w.heap[b]? w'.heap[b]?:=E.blk
    have blk':∀b,b<w.heap.size->SameBlk L b w.heap[b]? w'.heap[b]?:=fun b hb=>(blk b hb).weaken fun j hj=>by
     rcases hj with hj|hj <;> simp[hj,outAll]
    let L2:LM:=fun b j=>if b<w.heap.size then L b j else shAll (L' b j)
    have hin:∀{b j},b<w.heap.size->L2 b j=L b j:=fun {b j} h=>by simp only[L2,h,if_true]
    have hout:∀{b j},¬b<w.heap.size->L2 b j=shAll (L' b j):=fun {b j} h=>by simp only[L2,h,if_false]
    have hown:∀{b j r p i},L2 b j = .own r p i->b<w.heap.size:=fun {b j r p i} h=>by
     apply Bc;intro hn
     rw[hout hn] at h
     cases e:L' b j <;> simp[e,shAll] at h
    have cell:∀b j,L b j ≠ .out->w'.cell? ⟨b,j,Option.none⟩=w.cell? ⟨b,j,Option.none⟩/\w'.frozen? ⟨b,j,Option.none⟩=w.frozen? ⟨b,j,Option.none⟩:=fun b j h=>by
     have hb:=O.wf.lt h
     obtain⟨v,hv⟩:=O.wf.ex b j h
     have hs:=blk b hb
     cases e:w.heap[b]? with
     | none=>simp[World.cell?,e] at hv
     | some ob=>
       rw[e] at hs
       cases ob with
       | cells c t fr=>
         cases e':w'.heap[b]? with
         | none=>rw[e'] at hs;cases hs
         | some ob'=>
           rw[e'] at hs
           cases ob' with
           | cells c' t' fr'=>
             obtain⟨rfl,rfl,h3,h4⟩:=hs
             refine⟨?_,by simp[World.frozen?,e,e']⟩
             have:=h4 j (by cases e2:L b j <;> simp[e2,outAll])
             simp only[World.cell?,e,e']
             simpa using this
           | _=>cases hs
       | _=>simp[World.cell?,e] at hv
    have W:WF w' L2:=by
     refine⟨fun b j b' j' r p i h h'=>?_,fun b j h=>?_,fun b j r p i h=>?_⟩
     ·have hb:=hown h
      have hb':=hown h'
      rw[hin hb] at h;rw[hin hb'] at h'
      exact O.wf.inj _ _ _ _ _ _ _ h h'
     ·by_cases hb:b<w.heap.size
      ·rw[hin hb] at h
       obtain⟨v,hv⟩:=O.wf.ex b j h
       exact⟨v,by rw[(cell b j h).1,hv]⟩
      ·rw[hout hb] at h
       exact W'.ex b j fun e=>h (by rw[e];rfl)
     ·have hb:=hown h
      rw[hin hb] at h
      rw[(cell b j (by rw[h];simp)).2];exact O.wf.thaw _ _ _ _ _ h
    have E2:Evo w L A w' L2 A:=⟨E.os,E.tape,E.output,E.size,fun b j hb _=>hin hb,fun b hb=>.inr (blk' b hb),Av _,fun _ _=>.inl rfl,fun a b o m h _=>.inl ⟨a,o,m,h⟩⟩
    have Ex:Ext w L w' L2:=⟨E.os,E.tape,E.output,E.size,fun b j hb _=>hin hb,blk'⟩
    have G:Go1 w L w' L2:=⟨W,Ex,fun b j h=>hin (O.wf.lt (fun e=>by rw[e] at h;exact h)),fun b j h=>(cell b j (fun e=>by rw[e] at h;exact h)).1⟩
    have O2:HOk w' L2 A st:=O.grow G fun b j r p i h _=>by
     have hb:=hown h
     rwa [hin hb] at h
    have R1:RepV w' (fun b j=>shAll (L' b j)) Option.none x u:=Hr.share rfl (fun r p _ s i=>rfl) hx Option.none
    have R2:RepV w' L2 Option.none x u:=R1.frame (fun b j hr=>by
     have hs:=hr.shared
     by_cases hb:b<w.heap.size
     ·rw[hin hb,hs]
      cases e:L b j with
      | sh=>rfl
      | out=>rw[E.lab b j hb (.inl (by rw[e];rfl)),e] at hs;cases hs
      | own r p i=>rw[E.lab b j hb (.inl (by rw[e];rfl)),e] at hs;cases hs
     ·rw[hout hb]) (fun q hq=>by rw[yaf hxl] at hq;cases hq) fun _ _ _=>rfl
    refine⟨L2,A,O2,fun b j q p i h=>?_,.p _ _ hxl R2,E2⟩
    have hb:=hown h
    rw[hin hb] at h
    exact bd _ _ _ _ _ h
def orK(H H':HCalls):HCalls:=fun f ws st=>match H f ws st with
 | some r=>some r
 | Option.none=>H' f ws st
theorem yjM{H H':HCalls}(h:HCallOk P H)(h':HCallOk P H'):HCallOk P (orK H H'):=by
 intro f ws st r st' e
 unfold orK at e
 split at e
 ·rename_i x hx
  obtain rfl:=Ag e
  exact h f ws st _ _ hx
 ·exact h' f ws st _ _ e
end
open Go
set_option maxRecDepth 100000
def h5:HF:=⟨4,[.tmp 8],.seq (.reg [q1 8 (.asg (.k (.bool false)))] false [0,1,2,3]) (.seq (.seq (.reg [q4 21 1,q1 22 (.len false (.t 21)),q1 23 (.bin .gtr (.t 22) (.k (.int .i64 60))),q4 24 23,q3 25 (.mv (.t 2)) 24 false,q3 26 (.len false (.t 25)) 24 false,q3 27 (.bin .gtr (.t 26) (.k (.int .i64 20))) 24 false,q1 28 (.pick (.t 24) (.k (.bool true)) (.t 27))] false [0,1,2,3,28]) (.cond (.t 28) (.seq (.reg [q1 29 (.call 15 [] []),q1 8 (.asg (.t 29))] false [8]) (.ret)) (.skip) [0,1,2,3])) (.seq (.reg [q4 31 0,q4 32 1,q1 33 (.call 16 [.t 31,.t 32] []),q4 30 33,q1 34 (.ext (.t 30) 0),q1 35 (.ext (.t 30) 1),q1 9 (.alloc [.nilp,.nils,.nils]),q2 (.store 3 (.t 9) (.t 34)),q1 10 (.asg (.t 35))] false [2,3,9,10]) (.seq (.seq (.reg [q4 36 10,q1 37 (.un .not (.t 36))] false [2,3,9,37]) (.cond (.t 37) (.seq (.reg [q1 8 (.asg (.k (.bool false)))] false [8]) (.ret)) (.skip) [2,3,9])) (.seq (.reg [q1 38 (.fadr 1 (.t 9)),q1 39 (.load false 1 (.t 38)),q1 40 (.slc 3 (.t 39) .none (some (.k (.int .i64 1)))),q1 11 (.asg (.t 40))] false [2,3,9,11]) (.seq (.reg [q1 41 (.fadr 2 (.t 9)),q1 42 (.load false 1 (.t 41)),q1 43 (.fadr 1 (.t 9)),q1 44 (.load false 1 (.t 43)),q1 45 (.iadr 3 .none (.t 44) (.k (.int .i64 1))),q1 46 (.load true 3 (.t 45)),⟨some 47,.x (.call 26 [.t 42,.t 46] []),.none,true,[]⟩,q1 12 (.asg (.t 47))] true [2,3,9,11,12]) (.seq (.seq (.reg [q4 48 3] false [2,3,9,11,12,48]) (.cond (.t 48) (.seq (.reg [q1 49 (.fadr 1 (.t 9)),q1 50 (.load false 1 (.t 49)),q1 51 (.slc 3 (.t 50) .none (some (.k (.int .i64 2)))),q1 11 (.asg (.t 51))] false [2,3,9,11]) (.reg [q1 12 (.asg (.k (.nils)))] false [2,3,9,11,12])) (.skip) [2,3,9,11,12])) (.seq (.reg [q1 52 (.fadr 2 (.t 9)),q1 53 (.load false 1 (.t 52)),q4 54 2,q1 55 (.call 17 [.t 53,.t 54] []),q1 13 (.asg (.t 55))] false [3,9,11,12,13]) (.seq (.reg [q1 57 (.fadr 0 (.t 9)),q1 58 (.load false 1 (.t 57)),q4 59 11,q4 60 13,q4 61 12,q1 62 (.call 27 [.t 58,.t 59,.t 60,.t 61] []),q4 56 62,q1 63 (.ext (.t 56) 0),q1 64 (.ext (.t 56) 1),q1 14 (.asg (.t 63)),q1 15 (.asg (.t 64))] false [3,9,11,12,13,14,15]) (.seq (.reg [q1 65 (.fadr 2 (.t 9)),q1 66 (.load false 1 (.t 65)),q4 67 11,q4 68 13,q4 69 12,q1 70 (.call 28 [.t 66,.t 67,.t 68,.t 69] []),q1 16 (.asg (.t 70))] false [3,9,11,12,13,14,15,16]) (.seq (.seq (.reg [q4 71 14,q4 72 16,q1 73 (.call 29 [.t 71,.t 72] []),q1 74 (.un .not (.t 73)),q4 75 74,q3 76 (.mv (.t 15)) 75 false,q3 77 (.fadr 2 (.t 9)) 75 false,q3 78 (.load false 1 (.t 77)) 75 false,q3 79 (.mv (.t 16)) 75 false,q3 80 (.call 30 [.t 78,.t 79] []) 75 false,q3 81 (.bin .neq (.t 76) (.t 80)) 75 false,q1 82 (.pick (.t 75) (.k (.bool true)) (.t 81))] false [3,9,11,12,13,82]) (.cond (.t 82) (.seq (.reg [q1 8 (.asg (.k (.bool false)))] false [8]) (.ret)) (.skip) [3,9,11,12,13])) (.seq (.reg [q1 84 (.fadr 0 (.t 9)),q1 85 (.load false 1 (.t 84)),q4 86 11,q1 87 (.fadr 1 (.t 9)),q1 88 (.load false 1 (.t 87)),q1 89 (.iadr 3 .none (.t 88) (.k (.int .i64 2))),q1 90 (.load true 3 (.t 89)),q4 91 13,q4 92 12,⟨some 93,.x (.call 18 [.t 85,.t 86,.t 90,.t 91,.t 92] []),.none,true,[]⟩,q4 83 93,q1 94 (.ext (.t 83) 0),q1 95 (.ext (.t 83) 1),q1 17 (.alloc [.int .i64 0,.int .i64 0,.int .i64 0]),⟨.none,.x (.store 3 (.t 17) (.t 94)),.none,true,[]⟩,q1 18 (.asg (.t 95))] true [3,9,11,12,13,17,18]) (.seq (.reg [q1 96 (.fadr 2 (.t 9)),q1 97 (.load false 1 (.t 96)),q4 98 11,q1 99 (.fadr 1 (.t 9)),q1 100 (.load false 1 (.t 99)),q1 101 (.iadr 3 .none (.t 100) (.k (.int .i64 2))),q1 102 (.load true 3 (.t 101)),q4 103 13,q4 104 12,⟨some 105,.x (.call 31 [.t 97,.t 98,.t 102,.t 103,.t 104] []),.none,true,[]⟩,q1 19 (.alloc [.nils,.int .i64 0,.int .i64 0,.int .i64 0,.nils]),⟨.none,.x (.store 5 (.t 19) (.t 105)),.none,true,[]⟩] true [3,9,17,18,19]) (.seq (.seq (.reg [q1 106 (.load true 3 (.t 17)),q1 107 (.fadr 1 (.t 19)),q1 108 (.load true 3 (.t 107)),q1 109 (.aeq true [.int .i64 0,.int .i64 0,.int .i64 0] (.t 106) (.t 108)),q4 110 109,q3 111 (.mv (.t 18)) 110 false,q3 112 (.fadr 4 (.t 19)) 110 false,q3 113 (.load false 1 (.t 112)) 110 false,q3 114 (.call 32 [.t 111,.t 113] []) 110 false,q3 115 (.un .not (.t 114)) 110 false,q1 116 (.pick (.t 110) (.k (.bool true)) (.t 115))] false [3,9,17,19,116]) (.cond (.t 116) (.seq (.reg [q1 8 (.asg (.k (.bool false)))] false [8]) (.ret)) (.skip) [3,9,17,19])) (.seq (.reg [q1 117 (.load true 3 (.t 17)),q1 118 (.bsl 3 1 [.int .i64 0,.int .i64 0,.int .i64 0] [(0,3,.t 117)]),q1 20 (.asg (.t 118))] false [3,9,19,20]) (.seq (.seq (.reg [q4 119 3,q1 120 (.un .not (.t 119))] false [9,19,20,120]) (.cond (.t 120) (.reg [q4 121 20,q1 122 (.fadr 1 (.t 9)),q1 123 (.load false 1 (.t 122)),q1 124 (.iadr 3 .none (.t 123) (.k (.int .i64 1))),q1 125 (.load true 3 (.t 124)),q1 126 (.bsl 3 1 [.int .i64 0,.int .i64 0,.int .i64 0] [(0,3,.t 125)]),q1 127 (.app 3 24 (.t 121) (.t 126)),q1 20 (.asg (.t 127))] false [9,19,20]) (.skip) [9,19,20])) (.seq (.reg [q1 128 (.fadr 0 (.t 9)),q1 129 (.load false 1 (.t 128)),q4 130 20,q1 131 (.fadr 0 (.t 19)),q1 132 (.load false 1 (.t 131)),q1 133 (.call 25 [.t 129,.t 130,.t 132] []),q1 134 (.bin .eql (.t 133) (.k (.int .i64 0))),q4 135 134,q3 136 (.call 15 [] []) 135 true,q1 137 (.pick (.t 135) (.t 136) (.k (.bool false))),q1 8 (.asg (.t 137))] false [8]) (.ret)))))))))))))))))⟩
def h15:HF:=⟨0,[.tmp 0],.seq (.reg [q1 0 (.asg (.k (.bool false)))] false []) (.seq (.reg [q1 12 (.bsl 1 3 [.int .i64 0] [(0,1,.k (.int .i64 10)),(1,1,.k (.int .i64 5)),(2,1,.k (.int .i64 12))]),q1 13 (.call 64 [.t 12] []),q4 11 13,q1 14 (.ext (.t 11) 0),q1 15 (.ext (.t 11) 1),q1 1 (.asg (.t 14)),q1 2 (.asg (.t 15))] false [1,2]) (.seq (.seq (.reg [q4 16 1,q1 17 (.peq false (.t 16) (.k (.nilp))),q4 18 17,q3 19 (.mv (.t 2)) 18 false,q3 20 (.len false (.t 19)) 18 false,q3 21 (.bin .neq (.t 20) (.k (.int .i64 3))) 18 false,q1 22 (.pick (.t 18) (.k (.bool true)) (.t 21)),q4 23 22,q3 24 (.mv (.t 2)) 23 false,q3 25 (.iadr 3 .none (.t 24) (.k (.int .i64 1))) 23 false,q3 26 (.load true 3 (.t 25)) 23 false,q3 27 (.build [.int .i64 0,.int .i64 0,.int .i64 0] [(0,1,.k (.int .i64 11)),(1,1,.k (.int .i64 16)),(2,1,.k (.int .i64 11))]) 23 false,q3 28 (.aeq true [.int .i64 0,.int .i64 0,.int .i64 0] (.t 26) (.t 27)) 23 false,q1 29 (.pick (.t 23) (.k (.bool true)) (.t 28))] false [1,2,29]) (.cond (.t 29) (.seq (.reg [q1 0 (.asg (.k (.bool false)))] false [0]) (.ret)) (.skip) [1,2])) (.seq (.reg [q4 31 1,q4 32 2,q1 33 (.iadr 3 .none (.t 32) (.k (.int .i64 0))),q1 34 (.load true 3 (.t 33)),q1 35 (.build [.int .i64 0,.int .i64 0] [(0,1,.k (.int .i64 2)),(1,1,.k (.int .i64 2))]),q1 36 (.call 65 [.t 31,.t 34,.t 35] []),q4 30 36,q1 37 (.ext (.t 30) 0),q1 38 (.ext (.t 30) 1),q1 3 (.alloc [.int .i64 0,.int .i64 0,.int .i64 0]),q2 (.store 3 (.t 3) (.t 37)),q1 4 (.asg (.t 38))] false [1,2,3,4]) (.seq (.reg [q4 40 1,q1 41 (.load true 3 (.t 3)),q1 42 (.build [.int .i64 0,.int .i64 0] [(0,1,.k (.int .i64 1)),(1,1,.k (.int .i64 1))]),q1 43 (.call 65 [.t 40,.t 41,.t 42] []),q4 39 43,q1 44 (.ext (.t 39) 0),q1 45 (.ext (.t 39) 1),q2 (.store 3 (.t 3) (.t 44)),q1 5 (.asg (.t 45))] false [1,2,3,4,5]) (.seq (.reg [q4 47 1,q1 48 (.load true 3 (.t 3)),q1 49 (.build [.int .i64 0,.int .i64 0] [(0,1,.k (.int .i64 9))]),q1 50 (.call 65 [.t 47,.t 48,.t 49] []),q4 46 50,q1 51 (.ext (.t 46) 0),q1 52 (.ext (.t 46) 1),q2 (.store 3 (.t 3) (.t 51)),q1 6 (.asg (.t 52))] false [1,2,3,4,5,6]) (.seq (.seq (.reg [q4 53 4,q1 54 (.bin .neq (.t 53) (.k (.int .i64 1))),q4 55 54,q3 56 (.mv (.t 5)) 55 false,q3 57 (.bin .neq (.t 56) (.k (.int .i64 4))) 55 false,q1 58 (.pick (.t 55) (.k (.bool true)) (.t 57)),q4 59 58,q3 60 (.mv (.t 6)) 59 false,q3 61 (.bin .neq (.t 60) (.k (.int .i64 0))) 59 false,q1 62 (.pick (.t 59) (.k (.bool true)) (.t 61)),q4 63 62,q3 64 (.fadr 2 (.t 3)) 63 false,q3 65 (.load false 1 (.t 64)) 63 false,q3 66 (.bin .neq (.t 65) (.k (.int .i64 6))) 63 false,q1 67 (.pick (.t 63) (.k (.bool true)) (.t 66))] false [1,2,3,4,5,67]) (.cond (.t 67) (.seq (.reg [q1 0 (.asg (.k (.bool false)))] false [0]) (.ret)) (.skip) [1,2,3,4,5])) (.seq (.reg [q4 68 1,q4 69 4,q4 70 5,q1 71 (.call 66 [.t 68,.t 69,.k (.int .i64 1),.t 70] [])] false [1,2,3,4,5]) (.seq (.reg [q4 72 1,q4 73 5,q4 74 4,q1 75 (.call 66 [.t 72,.t 73,.k (.int .i64 0),.t 74] [])] false [1,2,3]) (.seq (.reg [q4 77 1,q1 78 (.load true 3 (.t 3)),q1 79 (.bsl 3 1 [.int .i64 0,.int .i64 0,.int .i64 0] [(0,3,.t 78)]),q1 80 (.bsl 1 2 [.int .i64 0] [(0,1,.k (.int .i64 4)),(1,1,.k (.int .i64 0))]),q1 81 (.call 27 [.t 77,.t 79,.t 80,.k (.nils)] []),q4 76 81,q1 82 (.ext (.t 76) 0),q1 83 (.ext (.t 76) 1),q1 7 (.asg (.t 82)),q1 8 (.asg (.t 83))] false [1,2,3,7,8]) (.seq (.reg [q4 85 1,q1 86 (.load true 3 (.t 3)),q1 87 (.bsl 3 1 [.int .i64 0,.int .i64 0,.int .i64 0] [(0,3,.t 86)]),q4 88 2,q1 89 (.iadr 3 .none (.t 88) (.k (.int .i64 2))),q1 90 (.load true 3 (.t 89)),q1 91 (.bsl 1 3 [.int .i64 0] [(0,1,.k (.int .i64 4)),(1,1,.k (.int .i64 0)),(2,1,.k (.int .i64 1))]),⟨some 92,.x (.call 18 [.t 85,.t 87,.t 90,.t 91,.k (.nils)] []),.none,true,[]⟩,q4 84 92,q1 93 (.ext (.t 84) 0),q1 94 (.ext (.t 84) 1),q1 9 (.alloc [.int .i64 0,.int .i64 0,.int .i64 0]),⟨.none,.x (.store 3 (.t 9) (.t 93)),.none,true,[]⟩,q1 10 (.asg (.t 94))] true [1,7,8,9,10]) (.seq (.reg [q4 95 7,q1 96 (.bsl 1 2 [.int .i64 0] [(0,1,.k (.int .i64 4)),(1,1,.k (.int .i64 1))]),q1 97 (.call 29 [.t 95,.t 96] []),q4 98 97,q3 99 (.mv (.t 8)) 98 true,q3 100 (.bin .eql (.t 99) (.k (.int .i64 5))) 98 true,q1 101 (.pick (.t 98) (.t 100) (.k (.bool false))),q4 102 101,q3 103 (.fadr 2 (.t 9)) 102 true,q3 104 (.load false 1 (.t 103)) 102 true,q3 105 (.bin .eql (.t 104) (.k (.int .i64 21))) 102 true,q1 106 (.pick (.t 102) (.t 105) (.k (.bool false))),q4 107 106,q3 108 (.mv (.t 10)) 107 true,q3 109 (.bsl 1 3 [.int .i64 0] [(0,1,.k (.int .i64 16)),(1,1,.k (.int .i64 0)),(2,1,.k (.int .i64 18))]) 107 true,q3 110 (.call 32 [.t 108,.t 109] []) 107 true,q1 111 (.pick (.t 107) (.t 110) (.k (.bool false))),q4 112 111,q3 113 (.mv (.t 1)) 112 true,q3 114 (.call 24 [.t 113,.k (.int .i64 16),.k (.int .i64 0)] []) 112 true,q3 115 (.bin .eql (.t 114) (.k (.int .i64 18))) 112 true,q1 116 (.pick (.t 112) (.t 115) (.k (.bool false))),q4 117 116,q3 118 (.mv (.t 1)) 117 true,q3 119 (.call 24 [.t 118,.k (.int .i64 18),.k (.int .i64 1)] []) 117 true,q3 120 (.bin .eql (.t 119) (.k (.int .i64 16))) 117 true,q1 121 (.pick (.t 117) (.t 120) (.k (.bool false))),q4 122 121,q3 123 (.load true 3 (.t 9)) 122 true,q3 124 (.call 67 [.t 123,.k (.int .i64 20)] []) 122 true,q1 125 (.pick (.t 122) (.t 124) (.k (.bool false))),q4 126 125,q3 127 (.load true 3 (.t 9)) 126 true,q3 128 (.call 67 [.t 127,.k (.int .i64 21)] []) 126 true,q3 129 (.un .not (.t 128)) 126 true,q1 130 (.pick (.t 126) (.t 129) (.k (.bool false))),q1 0 (.asg (.t 130))] false [0]) (.ret))))))))))))⟩
def h16l0:HC:=.seq (.seq (.reg [q4 21 8,q4 22 1,q1 23 (.len false (.t 22)),q1 24 (.bin .lss (.t 21) (.t 23)),q4 25 24,q3 26 (.mv (.t 7)) 25 true,q1 27 (.pick (.t 25) (.t 26) (.k (.bool false)))] false [1,4,6,7,8,27]) (.cond (.t 27) (.skip) (.exit 0 [4,6,7]) [1,4,6,8])) (.seq (.block 1 (.reg [q1 31 (.load true 3 (.t 6)),q4 32 1,q4 33 8,q1 34 (.iadr 6 .none (.t 32) (.t 33)),q1 35 (.load true 6 (.t 34)),⟨some 36,.x (.call 69 [.t 31,.t 35] []),.none,true,[]⟩,q4 30 36,q1 37 (.ext (.t 30) 0),q1 38 (.ext (.t 30) 1),⟨.none,.x (.store 3 (.t 6) (.t 37)),.none,true,[]⟩,q1 7 (.asg (.t 38))] true [1,4,6,7,8]) [1,4,6,7,8]) (.reg [q4 28 8,q1 29 (.bin .add (.t 28) (.k (.int .i64 1))),q1 8 (.asg (.t 29))] false [1,4,6,7,8]))
def h16:HF:=⟨2,[.cell 4 true 3,.tmp 5],.seq (.reg [q1 4 (.alloc [.nilp,.nils,.nils]),q1 5 (.asg (.k (.bool false)))] false [0,1,4]) (.seq (.reg [q4 9 0,q1 10 (.call 68 [.t 9] []),q1 6 (.alloc [.nilp,.nils,.nils]),q2 (.store 3 (.t 6) (.t 10))] false [1,4,6]) (.seq (.seq (.reg [q1 11 (.fadr 0 (.t 6)),q1 12 (.load false 1 (.t 11)),q1 13 (.peq false (.t 12) (.k (.nilp))),q4 14 13,q3 15 (.fadr 1 (.t 6)) 14 false,q3 16 (.load false 1 (.t 15)) 14 false,q3 17 (.len false (.t 16)) 14 false,q3 18 (.bin .neq (.t 17) (.k (.int .i64 3))) 14 false,q1 19 (.pick (.t 14) (.k (.bool true)) (.t 18))] false [1,4,6,19]) (.cond (.t 19) (.seq (.reg [q1 20 (.load true 3 (.t 6)),q2 (.store 3 (.t 4) (.t 20)),q1 5 (.asg (.k (.bool false)))] false [4,5]) (.ret)) (.skip) [1,4,6])) (.seq (.reg [q1 7 (.asg (.k (.bool true)))] false [1,4,6,7]) (.seq (.seq (.reg [q1 8 (.asg (.k (.int .i64 0)))] false [1,4,6,7,8]) (.block 0 (.loop h16l0 [1,4,6,7,8]) [4,6,7])) (.seq (.reg [q1 39 (.load true 3 (.t 6)),q4 40 7,q2 (.store 3 (.t 4) (.t 39)),q1 5 (.asg (.t 40))] false [4,5]) (.ret))))))⟩
def h17:HF:=⟨2,[.tmp 4],.seq (.reg [q1 4 (.asg (.k (.nils)))] false [0,1]) (.seq (.reg [q1 5 (.asg (.k (.nils)))] false [0,1,5]) (.seq (.seq (.reg [q1 6 (.asg (.k (.int .i64 0)))] false [0,1,5,6]) (.block 0 (.loop (.seq (.seq (.reg [q4 8 6,q4 9 1,q1 10 (.len false (.t 9)),q1 11 (.bin .lss (.t 8) (.t 10))] false [0,1,5,6,11]) (.cond (.t 11) (.skip) (.exit 0 [5]) [0,1,5,6])) (.seq (.block 1 (.seq (.reg [q4 14 1,q4 15 6,q1 16 (.iadr 1 .none (.t 14) (.t 15)),q1 17 (.load false 1 (.t 16)),q1 18 (.conv .i64 (.t 17)),q4 19 0,q1 20 (.len false (.t 19)),q1 21 (.bin .add (.t 20) (.k (.int .i64 1))),q1 22 (.bin .rem (.t 18) (.t 21)),q1 7 (.asg (.t 22))] false [0,1,5,6,7]) (.seq (.reg [q4 23 7,q4 24 0,q1 25 (.len false (.t 24)),q1 26 (.bin .lss (.t 23) (.t 25))] false [0,1,5,6,7,26]) (.cond (.t 26) (.reg [q4 27 5,q4 28 0,q4 29 7,q1 30 (.iadr 4 .none (.t 28) (.t 29)),q1 31 (.fadr 0 (.t 30)),q1 32 (.load false 1 (.t 31)),q1 33 (.bsl 1 1 [.int .i64 0] [(0,1,.t 32)]),q1 34 (.app 1 8 (.t 27) (.t 33)),q1 5 (.asg (.t 34))] false [0,1,5,6]) (.reg [q4 35 5,q1 36 (.bsl 1 1 [.int .i64 0] [(0,1,.k (.int .i64 0))]),q1 37 (.app 1 8 (.t 35) (.t 36)),q1 5 (.asg (.t 37))] false [0,1,5,6]) [0,1,5,6]))) [0,1,5,6]) (.reg [q4 12 6,q1 13 (.bin .add (.t 12) (.k (.int .i64 1))),q1 6 (.asg (.t 13))] false [0,1,5,6]))) [0,1,5,6]) [5])) (.seq (.reg [q4 38 5,q1 4 (.asg (.t 38))] false [4]) (.ret))))⟩
def h18l0:HC:=.seq (.reg [q1 32 (.bin .lss (.t 31) (.t 30))] false [0,4,7,10,12,13,29,30,31,32]) (.seq (.cond (.t 32) (.skip) (.exit 0 [0,4,7,10,12,13]) [0,4,7,10,12,13,29,30,31]) (.seq (.block 1 (.seq (.reg [q4 33 31,q1 34 (.iadr 1 .none (.t 29) (.t 31)),q1 35 (.load false 1 (.t 34)),q1 14 (.asg (.t 33)),q1 15 (.asg (.t 35))] false [0,4,7,10,12,13,14,15,29,30,31]) (.reg [q4 36 13,q4 37 14,q1 38 (.load false 1 (.t 12)),q4 39 15,q1 40 (.call 70 [.t 38,.t 39] []),q1 41 (.iadr 1 .none (.t 36) (.t 37)),q2 (.store 1 (.t 41) (.t 40))] false [0,4,7,10,12,13,29,30,31])) [0,4,7,10,12,13,29,30,31]) (.reg [q1 42 (.bin .add (.t 31) (.k (.int .i64 1))),q4 31 42] false [0,4,7,10,12,13,29,30,31])))
def h18l1:HC:=.seq (.reg [q1 46 (.bin .lss (.t 45) (.t 44))] false [0,7,10,12,13,43,44,45,46]) (.seq (.cond (.t 46) (.skip) (.exit 2 [0,7,10,12,13]) [0,7,10,12,13,43,44,45]) (.seq (.block 3 (.seq (.reg [q1 47 (.iadr 1 .none (.t 43) (.t 45)),q1 48 (.load false 1 (.t 47)),q1 17 (.asg (.t 48))] false [0,7,10,12,13,17,43,44,45]) (.reg [q4 49 0,q4 50 17,q1 51 (.mkfn 72 [.t 12]),q1 52 (.call 71 [.t 49,.t 50,.t 51] [])] false [0,7,10,12,13,43,44,45])) [0,7,10,12,13,43,44,45]) (.reg [q1 53 (.bin .add (.t 45) (.k (.int .i64 1))),q4 45 53] false [0,7,10,12,13,43,44,45])))
def h18l2:HC:=.seq (.seq (.reg [q4 56 18,q1 57 (.load false 1 (.t 12)),q1 58 (.nilck (.t 57)),q1 59 (.fadr 2 (.t 58)),q1 60 (.fadr 2 (.t 59)),q1 61 (.load false 1 (.t 60)),q1 62 (.bin .lss (.t 56) (.t 61))] false [0,10,12,13,18,62]) (.cond (.t 62) (.skip) (.exit 4 [10,12,13]) [0,10,12,13,18])) (.block 5 (.seq (.reg [q4 64 0,q4 65 18,q1 66 (.call 22 [.t 64,.t 65] []),q4 63 66,q1 67 (.ext (.t 63) 0),q1 68 (.ext (.t 63) 1),q1 19 (.alloc [.int .i64 0,.int .i64 0]),q2 (.store 2 (.t 19) (.t 67)),q1 20 (.asg (.t 68))] false [0,10,12,13,18,19]) (.seq (.reg [q4 69 0,q4 70 18,q1 71 (.mkfn 73 [.t 12]),q1 72 (.call 71 [.t 69,.t 70,.t 71] [])] false [0,10,12,13,18,19]) (.reg [q4 73 18,q1 74 (.fadr 0 (.t 19)),q1 75 (.load false 1 (.t 74)),q1 76 (.bin .add (.k (.int .i64 1)) (.t 75)),q1 77 (.bin .add (.t 73) (.t 76)),q1 18 (.asg (.t 77))] false [0,10,12,13,18]))) [0,10,12,13,18])
def h18:HF:=⟨5,[.cell 10 true 3,.tmp 11],.seq (.reg [q1 7 (.box (.t 2)),q1 10 (.alloc [.int .i64 0,.int .i64 0,.int .i64 0]),q1 11 (.asg (.k (.nils)))] false [0,1,3,4,7,10]) (.seq (.reg [q4 21 0,q4 22 1,q1 23 (.load true 3 (.t 7)),q1 24 (.build [.nilp,.nils,.int .i64 0,.int .i64 0,.int .i64 0] [(0,1,.t 21),(1,1,.t 22),(2,3,.t 23)]),q1 25 (.box (.t 24)),q1 12 (.alloc [.nilp]),q2 (.store 1 (.t 12) (.t 25))] false [0,3,4,7,10,12]) (.seq (.reg [q4 26 3,q1 27 (.len false (.t 26)),q1 28 (.mksl 1 8 [.int .i64 0] (.t 27) (.t 27)),q1 13 (.asg (.t 28))] false [0,3,4,7,10,12,13]) (.seq (.seq (.reg [q4 29 3,q1 30 (.len false (.t 29)),q1 31 (.mv (.k (.int .i64 0)))] false [0,4,7,10,12,13,29,30,31]) (.block 0 (.loop h18l0 [0,4,7,10,12,13,29,30,31]) [0,4,7,10,12,13])) (.seq (.seq (.reg [q4 43 4,q1 44 (.len false (.t 43)),q1 45 (.mv (.k (.int .i64 0)))] false [0,7,10,12,13,43,44,45]) (.block 2 (.loop h18l1 [0,7,10,12,13,43,44,45]) [0,7,10,12,13])) (.seq (.seq (.reg [q1 54 (.fadr 2 (.t 7)),q1 55 (.load false 1 (.t 54)),q1 18 (.asg (.t 55))] false [0,10,12,13,18]) (.block 4 (.loop h18l2 [0,10,12,13,18]) [10,12,13])) (.seq (.reg [q1 78 (.load false 1 (.t 12)),q1 79 (.nilck (.t 78)),q1 80 (.fadr 2 (.t 79)),q1 81 (.load true 3 (.t 80)),q4 82 13,q2 (.store 3 (.t 10) (.t 81)),q1 11 (.asg (.t 82))] false [10,11]) (.ret)))))))⟩
def h19:HF:=⟨2,[.tmp 4],.seq (.reg [q1 4 (.asg (.k (.bool false)))] false [0,1]) (.seq (.seq (.reg [q1 5 (.asg (.k (.int .i64 0)))] false [0,1,5]) (.block 0 (.loop (.seq (.seq (.reg [q4 6 5,q4 7 0,q1 8 (.len false (.t 7)),q1 9 (.bin .lss (.t 6) (.t 8))] false [0,1,5,9]) (.cond (.t 9) (.skip) (.exit 0 []) [0,1,5])) (.seq (.block 1 (.seq (.reg [q4 12 0,q4 13 5,q1 14 (.iadr 1 .none (.t 12) (.t 13)),q1 15 (.load false 1 (.t 14)),q4 16 1,q1 17 (.bin .eql (.t 15) (.t 16))] false [0,1,5,17]) (.cond (.t 17) (.seq (.reg [q1 4 (.asg (.k (.bool true)))] false [4]) (.ret)) (.skip) [0,1,5])) [0,1,5]) (.reg [q4 10 5,q1 11 (.bin .add (.t 10) (.k (.int .i64 1))),q1 5 (.asg (.t 11))] false [0,1,5]))) [0,1,5]) [])) (.seq (.reg [q1 4 (.asg (.k (.bool false)))] false [4]) (.ret)))⟩
def h21:HF:=⟨2,[.tmp 4],.seq (.reg [q1 4 (.asg (.k (.int .i64 0)))] false [0,1]) (.seq (.seq (.reg [q4 6 0,q1 7 (.len false (.t 6)),q1 8 (.bin .sub (.t 7) (.k (.int .i64 1))),q1 5 (.asg (.t 8))] false [0,1,5]) (.block 0 (.loop (.seq (.seq (.reg [q4 9 5,q1 10 (.bin .geq (.t 9) (.k (.int .i64 0)))] false [0,1,5,10]) (.cond (.t 10) (.skip) (.exit 0 []) [0,1,5])) (.seq (.block 1 (.seq (.reg [q4 13 0,q4 14 5,q1 15 (.iadr 4 .none (.t 13) (.t 14)),q1 16 (.fadr 0 (.t 15)),q1 17 (.load false 1 (.t 16)),q4 18 1,q1 19 (.bin .eql (.t 17) (.t 18))] false [0,1,5,19]) (.cond (.t 19) (.seq (.reg [q4 20 5,q1 4 (.asg (.t 20))] false [4]) (.ret)) (.skip) [0,1,5])) [0,1,5]) (.reg [q4 11 5,q1 12 (.bin .sub (.t 11) (.k (.int .i64 1))),q1 5 (.asg (.t 12))] false [0,1,5]))) [0,1,5]) [])) (.seq (.reg [q1 4 (.asg (.k (.int .i64 (-1))))] false [4]) (.ret)))⟩
def h22:HF:=⟨2,[.cell 4 true 2,.tmp 5],.seq (.reg [q1 4 (.alloc [.int .i64 0,.int .i64 0]),q1 5 (.asg (.k (.int .i64 0)))] false [0,1,4]) (.seq (.seq (.reg [q4 6 1,q1 7 (.bin .lss (.t 6) (.k (.int .i64 1))),q4 8 7,q3 9 (.mv (.t 1)) 8 false,q3 10 (.mv (.t 0)) 8 false,q3 11 (.nilck (.t 10)) 8 false,q3 12 (.fadr 0 (.t 11)) 8 false,q3 13 (.load false 1 (.t 12)) 8 false,q3 14 (.len false (.t 13)) 8 false,q3 15 (.bin .geq (.t 9) (.t 14)) 8 false,q1 16 (.pick (.t 8) (.k (.bool true)) (.t 15))] false [0,1,4,16]) (.cond (.t 16) (.seq (.reg [q1 17 (.build [.int .i64 0,.int .i64 0] []),q2 (.store 2 (.t 4) (.t 17)),q1 5 (.asg (.k (.int .i64 20)))] false [4,5]) (.ret)) (.skip) [0,1,4])) (.seq (.reg [q4 18 0,q1 19 (.nilck (.t 18)),q1 20 (.fadr 0 (.t 19)),q1 21 (.load false 1 (.t 20)),q4 22 1,q1 23 (.iadr 1 .none (.t 21) (.t 22)),q1 24 (.load false 1 (.t 23)),q1 25 (.call 74 [.t 24] []),q1 26 (.ext (.t 25) 0),q1 27 (.ext (.t 25) 1),q2 (.store 2 (.t 4) (.t 26)),q1 5 (.asg (.t 27))] false [4,5]) (.ret)))⟩
def h23:HF:=⟨2,[.tmp 4],.seq (.reg [q1 2 (.box (.t 0)),q1 4 (.asg (.k (.bool false)))] false [1,2]) (.seq (.seq (.reg [q4 5 1,q1 6 (.bin .lss (.t 5) (.k (.int .i64 0))),q4 7 6,q3 8 (.mv (.t 1)) 7 false,q3 9 (.fadr 0 (.t 2)) 7 false,q3 10 (.load false 1 (.t 9)) 7 false,q3 11 (.bin .geq (.t 8) (.t 10)) 7 false,q1 12 (.pick (.t 7) (.k (.bool true)) (.t 11))] false [1,2,12]) (.cond (.t 12) (.seq (.reg [q1 4 (.asg (.k (.bool false)))] false [4]) (.ret)) (.skip) [1,2])) (.seq (.reg [q1 13 (.fadr 1 (.t 2)),⟨some 14,.x (.load false 1 (.t 13)),.none,false,[3]⟩,q4 15 1,⟨some 16,.x (.call 75 [.t 15] []),.none,true,[]⟩,q1 17 (.bin .quo (.t 14) (.t 16)),q1 18 (.bin .rem (.t 17) (.k (.int .i64 2))),q1 19 (.bin .eql (.t 18) (.k (.int .i64 1))),q1 4 (.asg (.t 19))] true [4]) (.ret)))⟩
def h24:HF:=⟨3,[.tmp 6],.seq (.reg [q1 6 (.asg (.k (.int .i64 0)))] false [0,1,2]) (.seq (.reg [q4 7 0,q1 8 (.nilck (.t 7)),q1 9 (.fadr 0 (.t 8)),q1 10 (.load false 1 (.t 9)),q4 11 1,q1 12 (.bin .add (.t 11) (.k (.int .i64 1))),q4 13 2,q1 14 (.bin .add (.t 12) (.t 13)),q1 15 (.iadr 1 .none (.t 10) (.t 14)),q1 16 (.load false 1 (.t 15)),q1 6 (.asg (.t 16))] false [6]) (.ret))⟩
def h25l0:HC:=.seq (.seq (.reg [q4 67 13,q1 68 (.fadr 3 (.t 10)),q1 69 (.load false 1 (.t 68)),q1 70 (.len false (.t 69)),q1 71 (.bin .lss (.t 67) (.t 70))] false [0,1,2,7,8,9,10,13,71]) (.cond (.t 71) (.skip) (.exit 4 [0,1,2,7,8,9]) [0,1,2,7,8,9,10,13])) (.seq (.block 5 (.seq (.reg [q4 74 0,q4 75 8,q4 76 9,q1 77 (.iadr 1 .none (.t 75) (.t 76)),q1 78 (.load false 1 (.t 77)),q4 79 13,⟨some 80,.x (.call 24 [.t 74,.t 78,.t 79] []),.none,true,[]⟩,q1 81 (.fadr 3 (.t 10)),⟨some 82,.x (.load false 1 (.t 81)),.none,false,[6]⟩,q4 83 13,q1 84 (.iadr 1 .none (.t 82) (.t 83)),⟨some 85,.x (.load false 1 (.t 84)),.none,false,[6]⟩,q1 86 (.bin .neq (.t 80) (.t 85))] true [0,1,2,7,8,9,10,13,86]) (.cond (.t 86) (.seq (.reg [q1 6 (.asg (.k (.int .i64 1)))] false [6]) (.ret)) (.skip) [0,1,2,7,8,9,10,13])) [0,1,2,7,8,9,10,13]) (.reg [q4 72 13,q1 73 (.bin .add (.t 72) (.k (.int .i64 1))),q1 13 (.asg (.t 73))] false [0,1,2,7,8,9,10,13]))
def h25l1:HC:=.seq (.seq (.reg [q4 35 9,q4 36 8,q1 37 (.len false (.t 36)),q1 38 (.bin .lss (.t 35) (.t 37))] false [0,1,2,7,8,9,38]) (.cond (.t 38) (.skip) (.exit 2 [0,1,2,7]) [0,1,2,7,8,9])) (.seq (.block 3 (.seq (.reg [q4 41 2,q4 42 2,q4 43 8,q4 44 9,q1 45 (.iadr 1 .none (.t 43) (.t 44)),q1 46 (.load false 1 (.t 45)),q1 47 (.call 21 [.t 42,.t 46] []),q1 48 (.iadr 4 .none (.t 41) (.t 47)),q1 49 (.load true 4 (.t 48)),q1 10 (.alloc [.int .i64 0,.int .i64 0,.int .i64 0,.nils]),q2 (.store 4 (.t 10) (.t 49))] false [0,1,2,7,8,9,10]) (.seq (.reg [q4 51 0,q4 52 8,q4 53 9,q1 54 (.iadr 1 .none (.t 52) (.t 53)),q1 55 (.load false 1 (.t 54)),q1 56 (.call 22 [.t 51,.t 55] []),q4 50 56,q1 57 (.ext (.t 50) 0),q1 58 (.ext (.t 50) 1),q1 11 (.alloc [.int .i64 0,.int .i64 0]),q2 (.store 2 (.t 11) (.t 57)),q1 12 (.asg (.t 58))] false [0,1,2,7,8,9,10,11,12]) (.seq (.seq (.reg [q4 59 12,q1 60 (.bin .neq (.t 59) (.k (.int .i64 0))),q4 61 60,q3 62 (.load true 2 (.t 11)) 61 false,q3 63 (.fadr 1 (.t 10)) 61 false,q3 64 (.load true 2 (.t 63)) 61 false,q3 65 (.aeq true [.int .i64 0,.int .i64 0] (.t 62) (.t 64)) 61 false,q1 66 (.pick (.t 61) (.k (.bool true)) (.t 65))] false [0,1,2,7,8,9,10,66]) (.cond (.t 66) (.seq (.reg [q1 6 (.asg (.k (.int .i64 1)))] false [6]) (.ret)) (.skip) [0,1,2,7,8,9,10])) (.seq (.reg [q1 13 (.asg (.k (.int .i64 0)))] false [0,1,2,7,8,9,10,13]) (.block 4 (.loop h25l0 [0,1,2,7,8,9,10,13]) [0,1,2,7,8,9]))))) [0,1,2,7,8,9]) (.reg [q4 39 9,q1 40 (.bin .add (.t 39) (.k (.int .i64 1))),q1 9 (.asg (.t 40))] false [0,1,2,7,8,9]))
def h25l2:HC:=.seq (.seq (.reg [q4 14 7,q4 15 1,q1 16 (.len false (.t 15)),q1 17 (.bin .lss (.t 14) (.t 16))] false [0,1,2,7,17]) (.cond (.t 17) (.skip) (.exit 0 []) [0,1,2,7])) (.seq (.block 1 (.seq (.reg [q4 20 2,q4 21 1,q4 22 7,q1 23 (.iadr 3 .none (.t 21) (.t 22)),q1 24 (.load true 3 (.t 23)),q1 25 (.call 26 [.t 20,.t 24] []),q1 8 (.asg (.t 25))] false [0,1,2,7,8]) (.seq (.seq (.reg [q4 26 0,q4 27 1,q4 28 7,q1 29 (.iadr 3 .none (.t 27) (.t 28)),q1 30 (.load true 3 (.t 29)),q1 31 (.call 76 [.t 26,.t 30] []),q4 32 8,q1 33 (.call 29 [.t 31,.t 32] []),q1 34 (.un .not (.t 33))] false [0,1,2,7,8,34]) (.cond (.t 34) (.seq (.reg [q1 6 (.asg (.k (.int .i64 1)))] false [6]) (.ret)) (.skip) [0,1,2,7,8])) (.seq (.reg [q1 9 (.asg (.k (.int .i64 0)))] false [0,1,2,7,8,9]) (.block 2 (.loop h25l1 [0,1,2,7,8,9]) [0,1,2,7])))) [0,1,2,7]) (.reg [q4 18 7,q1 19 (.bin .add (.t 18) (.k (.int .i64 1))),q1 7 (.asg (.t 19))] false [0,1,2,7]))
def h25:HF:=⟨3,[.tmp 6],.seq (.reg [q1 6 (.asg (.k (.int .i64 0)))] false [0,1,2]) (.seq (.seq (.reg [q1 7 (.asg (.k (.int .i64 0)))] false [0,1,2,7]) (.block 0 (.loop h25l2 [0,1,2,7]) [])) (.seq (.reg [q1 6 (.asg (.k (.int .i64 0)))] false [6]) (.ret)))⟩
def h26:HF:=⟨2,[.tmp 4],.seq (.reg [q1 3 (.box (.t 1)),q1 4 (.asg (.k (.nils)))] false [0,3]) (.seq (.reg [q1 5 (.asg (.k (.nils)))] false [0,3,5]) (.seq (.seq (.reg [q1 7 (.fadr 0 (.t 3)),q1 8 (.load false 1 (.t 7)),q1 6 (.asg (.t 8))] false [0,3,5,6]) (.block 0 (.loop (.seq (.seq (.reg [q4 9 6,q1 10 (.fadr 2 (.t 3)),q1 11 (.load false 1 (.t 10)),q1 12 (.bin .lss (.t 9) (.t 11))] false [0,3,5,6,12]) (.cond (.t 12) (.skip) (.exit 0 [5]) [0,3,5,6])) (.seq (.block 1 (.seq (.reg [q4 15 0,q4 16 6,q1 17 (.call 21 [.t 15,.t 16] []),q1 18 (.bin .geq (.t 17) (.k (.int .i64 0)))] false [0,3,5,6,18]) (.cond (.t 18) (.reg [q4 19 5,q4 20 6,q1 21 (.bsl 1 1 [.int .i64 0] [(0,1,.t 20)]),q1 22 (.app 1 8 (.t 19) (.t 21)),q1 5 (.asg (.t 22))] false [0,3,5,6]) (.skip) [0,3,5,6])) [0,3,5,6]) (.reg [q4 13 6,q1 14 (.bin .add (.t 13) (.k (.int .i64 1))),q1 6 (.asg (.t 14))] false [0,3,5,6]))) [0,3,5,6]) [5])) (.seq (.reg [q4 23 5,q1 4 (.asg (.t 23))] false [4]) (.ret))))⟩
def h27l0:HC:=.seq (.reg [q1 29 (.bin .lss (.t 28) (.t 27))] false [3,4,10,12,13,26,27,28,29]) (.seq (.cond (.t 29) (.skip) (.exit 0 [3,4,10,12,13]) [3,4,10,12,13,26,27,28]) (.seq (.block 1 (.seq (.reg [q1 30 (.iadr 1 .none (.t 26) (.t 28)),q1 31 (.load false 1 (.t 30)),q1 15 (.asg (.t 31))] false [3,4,10,12,13,15,26,27,28]) (.reg [q1 32 (.load false 1 (.t 13)),q4 33 15,q1 34 (.callv (.t 32) [.t 33])] false [3,4,10,12,13,26,27,28])) [3,4,10,12,13,26,27,28]) (.reg [q1 35 (.bin .add (.t 28) (.k (.int .i64 1))),q4 28 35] false [3,4,10,12,13,26,27,28])))
def h27l1:HC:=.seq (.reg [q1 39 (.bin .lss (.t 38) (.t 37))] false [4,10,12,13,36,37,38,39]) (.seq (.cond (.t 39) (.skip) (.exit 2 [4,10,12,13]) [4,10,12,13,36,37,38]) (.seq (.block 3 (.seq (.reg [q1 40 (.iadr 1 .none (.t 36) (.t 38)),q1 41 (.load false 1 (.t 40)),q1 17 (.asg (.t 41))] false [4,10,12,13,17,36,37,38]) (.reg [q1 42 (.load false 1 (.t 4)),q4 43 17,q1 44 (.mkfn 80 [.t 13]),q1 45 (.call 71 [.t 42,.t 43,.t 44] [])] false [4,10,12,13,36,37,38])) [4,10,12,13,36,37,38]) (.reg [q1 46 (.bin .add (.t 38) (.k (.int .i64 1))),q4 38 46] false [4,10,12,13,36,37,38])))
def h27l2:HC:=.seq (.seq (.reg [q4 47 18,q1 48 (.load false 1 (.t 10)),q1 49 (.len false (.t 48)),q1 50 (.bin .lss (.t 47) (.t 49))] false [4,10,12,13,18,50]) (.cond (.t 50) (.skip) (.exit 4 [10,12]) [4,10,12,13,18])) (.seq (.block 5 (.reg [q1 53 (.load false 1 (.t 4)),q1 54 (.load false 1 (.t 10)),q4 55 18,q1 56 (.iadr 1 .none (.t 54) (.t 55)),q1 57 (.load false 1 (.t 56)),q1 58 (.mkfn 81 [.t 13]),⟨some 59,.x (.call 71 [.t 53,.t 57,.t 58] []),.none,true,[]⟩] true [4,10,12,13,18]) [4,10,12,13,18]) (.reg [q4 51 18,q1 52 (.bin .add (.t 51) (.k (.int .i64 1))),q1 18 (.asg (.t 52))] false [4,10,12,13,18]))
def h27:HF:=⟨4,[.tmp 8,.tmp 9],.seq (.reg [q1 4 (.box (.t 0)),q1 5 (.box (.t 1)),q1 8 (.asg (.k (.nils))),q1 9 (.asg (.k (.int .i64 0)))] false [2,3,4,5]) (.seq (.reg [q1 10 (.alloc [.nils])] false [2,3,4,5,10]) (.seq (.reg [q1 19 (.load false 1 (.t 4)),q1 20 (.nilck (.t 19)),q1 21 (.fadr 0 (.t 20)),q1 22 (.load false 1 (.t 21)),q1 23 (.len false (.t 22)),q1 24 (.mksl 1 8 [.int .i64 0] (.t 23) (.t 23)),q1 11 (.alloc [.nils]),q2 (.store 1 (.t 11) (.t 24))] false [2,3,4,5,10,11]) (.seq (.reg [q1 12 (.alloc [.int .i64 0]),q2 (.store 1 (.t 12) (.k (.int .i64 0)))] false [2,3,4,5,10,11,12]) (.seq (.reg [q1 25 (.mkfn 77 [.t 5,.t 11,.t 10,.t 4,.t 12]),q1 13 (.alloc [.nilf]),q2 (.store 1 (.t 13) (.t 25))] false [2,3,4,10,12,13]) (.seq (.seq (.reg [q4 26 2,q1 27 (.len false (.t 26)),q1 28 (.mv (.k (.int .i64 0)))] false [3,4,10,12,13,26,27,28]) (.block 0 (.loop h27l0 [3,4,10,12,13,26,27,28]) [3,4,10,12,13])) (.seq (.seq (.reg [q4 36 3,q1 37 (.len false (.t 36)),q1 38 (.mv (.k (.int .i64 0)))] false [4,10,12,13,36,37,38]) (.block 2 (.loop h27l1 [4,10,12,13,36,37,38]) [4,10,12,13])) (.seq (.seq (.reg [q1 18 (.asg (.k (.int .i64 0)))] false [4,10,12,13,18]) (.block 4 (.loop h27l2 [4,10,12,13,18]) [10,12])) (.seq (.reg [q1 60 (.load false 1 (.t 10)),q1 61 (.load false 1 (.t 12)),q1 8 (.asg (.t 60)),q1 9 (.asg (.t 61))] true [8,9]) (.ret)))))))))⟩
def h28l0:HC:=.seq (.seq (.reg [q4 13 10,q4 14 2,q1 15 (.len false (.t 14)),q1 16 (.bin .lss (.t 13) (.t 15))] false [0,1,2,3,9,10,16]) (.cond (.t 16) (.skip) (.exit 0 [0,1,3,9]) [0,1,2,3,9,10])) (.seq (.block 1 (.seq (.reg [q4 19 1,q4 20 2,q4 21 10,q1 22 (.iadr 1 .none (.t 20) (.t 21)),q1 23 (.load false 1 (.t 22)),q1 24 (.call 82 [.t 19,.t 23] []),q4 25 24,q3 26 (.mv (.t 9)) 25 true,q3 27 (.mv (.t 2)) 25 true,q3 28 (.mv (.t 10)) 25 true,q3 29 (.iadr 1 .none (.t 27) (.t 28)) 25 true,q3 30 (.load false 1 (.t 29)) 25 true,q3 31 (.call 19 [.t 26,.t 30] []) 25 true,q3 32 (.un .not (.t 31)) 25 true,q1 33 (.pick (.t 25) (.t 32) (.k (.bool false)))] false [0,1,2,3,9,10,33]) (.cond (.t 33) (.reg [q4 34 9,q4 35 2,q4 36 10,q1 37 (.iadr 1 .none (.t 35) (.t 36)),q1 38 (.load false 1 (.t 37)),q1 39 (.bsl 1 1 [.int .i64 0] [(0,1,.t 38)]),q1 40 (.app 1 8 (.t 34) (.t 39)),q1 9 (.asg (.t 40))] false [0,1,2,3,9,10]) (.skip) [0,1,2,3,9,10])) [0,1,2,3,9,10]) (.reg [q4 17 10,q1 18 (.bin .add (.t 17) (.k (.int .i64 1))),q1 10 (.asg (.t 18))] false [0,1,2,3,9,10]))
def h28l1:HC:=.seq (.seq (.reg [q4 41 11,q4 42 3,q1 43 (.len false (.t 42)),q1 44 (.bin .lss (.t 41) (.t 43))] false [0,1,3,9,11,44]) (.cond (.t 44) (.skip) (.exit 2 [0,1,9]) [0,1,3,9,11])) (.seq (.block 3 (.reg [q4 47 0,q4 48 1,q4 49 3,q4 50 11,q1 51 (.iadr 1 .none (.t 49) (.t 50)),q1 52 (.load false 1 (.t 51)),q4 53 9,q1 54 (.call 83 [.t 47,.t 48,.t 52,.t 53] []),q1 9 (.asg (.t 54))] false [0,1,3,9,11]) [0,1,3,9,11]) (.reg [q4 45 11,q1 46 (.bin .add (.t 45) (.k (.int .i64 1))),q1 11 (.asg (.t 46))] false [0,1,3,9,11]))
def h28l2:HC:=.seq (.seq (.reg [q4 55 12,q4 56 9,q1 57 (.len false (.t 56)),q1 58 (.bin .lss (.t 55) (.t 57))] false [0,1,9,12,58]) (.cond (.t 58) (.skip) (.exit 4 [9]) [0,1,9,12])) (.seq (.block 5 (.reg [q4 61 0,q4 62 1,q4 63 9,q4 64 12,q1 65 (.iadr 1 .none (.t 63) (.t 64)),q1 66 (.load false 1 (.t 65)),q4 67 9,q1 68 (.call 83 [.t 61,.t 62,.t 66,.t 67] []),q1 9 (.asg (.t 68))] false [0,1,9,12]) [0,1,9,12]) (.reg [q4 59 12,q1 60 (.bin .add (.t 59) (.k (.int .i64 1))),q1 12 (.asg (.t 60))] false [0,1,9,12]))
def h28:HF:=⟨4,[.tmp 8],.seq (.reg [q1 8 (.asg (.k (.nils)))] false [0,1,2,3]) (.seq (.reg [q1 9 (.asg (.k (.nils)))] false [0,1,2,3,9]) (.seq (.seq (.reg [q1 10 (.asg (.k (.int .i64 0)))] false [0,1,2,3,9,10]) (.block 0 (.loop h28l0 [0,1,2,3,9,10]) [0,1,3,9])) (.seq (.seq (.reg [q1 11 (.asg (.k (.int .i64 0)))] false [0,1,3,9,11]) (.block 2 (.loop h28l1 [0,1,3,9,11]) [0,1,9])) (.seq (.seq (.reg [q1 12 (.asg (.k (.int .i64 0)))] false [0,1,9,12]) (.block 4 (.loop h28l2 [0,1,9,12]) [9])) (.seq (.reg [q4 69 9,q1 8 (.asg (.t 69))] false [8]) (.ret))))))⟩
def h29:HF:=⟨2,[.tmp 4],.seq (.reg [q1 4 (.asg (.k (.bool false)))] false [0,1]) (.seq (.seq (.reg [q4 6 0,q1 7 (.len false (.t 6)),q4 8 1,q1 9 (.len false (.t 8)),q1 10 (.bin .neq (.t 7) (.t 9))] false [0,1,10]) (.cond (.t 10) (.seq (.reg [q1 4 (.asg (.k (.bool false)))] false [4]) (.ret)) (.skip) [0,1])) (.seq (.seq (.reg [q1 5 (.asg (.k (.int .i64 0)))] false [0,1,5]) (.block 0 (.loop (.seq (.seq (.reg [q4 11 5,q4 12 0,q1 13 (.len false (.t 12)),q1 14 (.bin .lss (.t 11) (.t 13))] false [0,1,5,14]) (.cond (.t 14) (.skip) (.exit 0 []) [0,1,5])) (.seq (.block 1 (.seq (.reg [q4 17 0,q4 18 5,q1 19 (.iadr 1 .none (.t 17) (.t 18)),q1 20 (.load false 1 (.t 19)),q4 21 1,q4 22 5,q1 23 (.iadr 1 .none (.t 21) (.t 22)),q1 24 (.load false 1 (.t 23)),q1 25 (.bin .neq (.t 20) (.t 24))] true [0,1,5,25]) (.cond (.t 25) (.seq (.reg [q1 4 (.asg (.k (.bool false)))] false [4]) (.ret)) (.skip) [0,1,5])) [0,1,5]) (.reg [q4 15 5,q1 16 (.bin .add (.t 15) (.k (.int .i64 1))),q1 5 (.asg (.t 16))] false [0,1,5]))) [0,1,5]) [])) (.seq (.reg [q1 4 (.asg (.k (.bool true)))] false [4]) (.ret))))⟩
def h30:HF:=⟨2,[.tmp 4],.seq (.reg [q1 4 (.asg (.k (.int .i64 0)))] false [0,1]) (.seq (.reg [q1 5 (.asg (.k (.int .i64 0)))] false [0,1,5]) (.seq (.seq (.reg [q1 6 (.asg (.k (.int .i64 0)))] false [0,1,5,6]) (.block 0 (.loop (.seq (.seq (.reg [q4 7 6,q4 8 1,q1 9 (.len false (.t 8)),q1 10 (.bin .lss (.t 7) (.t 9))] false [0,1,5,6,10]) (.cond (.t 10) (.skip) (.exit 0 [5]) [0,1,5,6])) (.seq (.block 1 (.reg [q4 13 5,q1 14 (.bin .add (.t 13) (.k (.int .i64 1))),q4 15 0,q4 16 0,q4 17 1,q4 18 6,q1 19 (.iadr 1 .none (.t 17) (.t 18)),q1 20 (.load false 1 (.t 19)),q1 21 (.call 21 [.t 16,.t 20] []),q1 22 (.iadr 4 .none (.t 15) (.t 21)),q1 23 (.fadr 3 (.t 22)),q1 24 (.load false 1 (.t 23)),q1 25 (.len false (.t 24)),q1 26 (.bin .add (.t 14) (.t 25)),q1 5 (.asg (.t 26))] false [0,1,5,6]) [0,1,5,6]) (.reg [q4 11 6,q1 12 (.bin .add (.t 11) (.k (.int .i64 1))),q1 6 (.asg (.t 12))] false [0,1,5,6]))) [0,1,5,6]) [5])) (.seq (.reg [q4 27 5,q1 4 (.asg (.t 27))] false [4]) (.ret))))⟩
def h31l0:HC:=.seq (.seq (.reg [q4 25 14,q4 26 11,q1 27 (.len false (.t 26)),q1 28 (.bin .lss (.t 25) (.t 27))] false [0,1,3,4,10,11,12,13,14,28]) (.cond (.t 28) (.skip) (.exit 0 [0,1,3,4,10,11,12,13]) [0,1,3,4,10,11,12,13,14])) (.seq (.block 1 (.seq (.reg [q4 31 13,q1 32 (.fadr 1 (.t 12)),q1 33 (.fadr 2 (.t 32)),q1 34 (.load false 1 (.t 33)),q1 35 (.bsl 1 1 [.int .i64 0] [(0,1,.t 34)]),q1 36 (.app 1 8 (.t 31) (.t 35)),q1 13 (.asg (.t 36))] false [0,1,3,4,10,11,12,13,14]) (.reg [q1 37 (.fadr 1 (.t 12)),q1 38 (.fadr 2 (.t 37)),⟨some 39,.x (.load false 1 (.t 38)),.none,false,[10]⟩,q1 40 (.bin .add (.t 39) (.k (.int .i64 1))),q4 41 0,q4 42 0,q4 43 11,q4 44 14,q1 45 (.iadr 1 .none (.t 43) (.t 44)),q1 46 (.load false 1 (.t 45)),⟨some 47,.x (.call 21 [.t 42,.t 46] []),.none,true,[]⟩,q1 48 (.iadr 4 .none (.t 41) (.t 47)),q1 49 (.fadr 3 (.t 48)),q1 50 (.load false 1 (.t 49)),q1 51 (.len false (.t 50)),q1 52 (.bin .add (.t 40) (.t 51)),q1 53 (.fadr 1 (.t 12)),q1 54 (.fadr 2 (.t 53)),⟨.none,.x (.store 1 (.t 54) (.t 52)),.none,true,[]⟩] true [0,1,3,4,10,11,12,13,14])) [0,1,3,4,10,11,12,13,14]) (.reg [q4 29 14,q1 30 (.bin .add (.t 29) (.k (.int .i64 1))),q1 14 (.asg (.t 30))] false [0,1,3,4,10,11,12,13,14]))
def h31l1:HC:=.seq (.seq (.reg [q4 55 15,q4 56 0,q1 57 (.len false (.t 56)),q1 58 (.bin .lss (.t 55) (.t 57))] false [0,1,3,4,10,11,12,13,15,58]) (.cond (.t 58) (.skip) (.exit 2 [0,3,10,11,12,13]) [0,1,3,4,10,11,12,13,15])) (.seq (.block 3 (.seq (.seq (.reg [q4 61 1,q4 62 0,q4 63 15,q1 64 (.iadr 4 .none (.t 62) (.t 63)),q1 65 (.fadr 0 (.t 64)),q1 66 (.load false 1 (.t 65)),q1 67 (.call 82 [.t 61,.t 66] [])] false [0,1,3,4,10,11,12,13,15,67]) (.cond (.t 67) (.exit 3 [0,1,3,4,10,11,12,13,15]) (.skip) [0,1,3,4,10,11,12,13,15])) (.seq (.reg [q4 68 4,q4 69 0,q4 70 15,q1 71 (.iadr 4 .none (.t 69) (.t 70)),q1 72 (.fadr 0 (.t 71)),q1 73 (.load false 1 (.t 72)),q1 74 (.call 19 [.t 68,.t 73] [])] false [0,1,3,4,10,11,12,13,15,74]) (.cond (.t 74) (.reg [q1 75 (.fadr 0 (.t 12)),⟨some 76,.x (.load false 1 (.t 75)),.none,false,[13]⟩,q4 77 0,q4 78 15,q1 79 (.iadr 4 .none (.t 77) (.t 78)),q1 80 (.load true 4 (.t 79)),q4 81 0,q4 82 15,q1 83 (.iadr 4 .none (.t 81) (.t 82)),q1 84 (.fadr 0 (.t 83)),q1 85 (.load false 1 (.t 84)),q4 86 11,q4 87 13,⟨some 88,.x (.call 84 [.t 80,.t 85,.t 86,.t 87] []),.none,true,[]⟩,q1 89 (.bsl 4 1 [.int .i64 0,.int .i64 0,.int .i64 0,.nils] [(0,4,.t 88)]),⟨some 90,.x (.app 4 48 (.t 76) (.t 89)),.none,true,[]⟩,q1 91 (.fadr 0 (.t 12)),⟨.none,.x (.store 1 (.t 91) (.t 90)),.none,true,[]⟩] true [0,1,3,4,10,11,12,13,15]) (.reg [q1 92 (.fadr 0 (.t 12)),q1 93 (.load false 1 (.t 92)),q4 94 0,q4 95 15,q1 96 (.iadr 4 .none (.t 94) (.t 95)),q1 97 (.load true 4 (.t 96)),q1 98 (.bsl 4 1 [.int .i64 0,.int .i64 0,.int .i64 0,.nils] [(0,4,.t 97)]),⟨some 99,.x (.app 4 48 (.t 93) (.t 98)),.none,true,[]⟩,q1 100 (.fadr 0 (.t 12)),⟨.none,.x (.store 1 (.t 100) (.t 99)),.none,true,[]⟩] true [0,1,3,4,10,11,12,13,15]) [0,1,3,4,10,11,12,13,15]))) [0,1,3,4,10,11,12,13,15]) (.reg [q4 59 15,q1 60 (.bin .add (.t 59) (.k (.int .i64 1))),q1 15 (.asg (.t 60))] false [0,1,3,4,10,11,12,13,15]))
def h31l2:HC:=.seq (.seq (.reg [q4 101 16,q4 102 11,q1 103 (.len false (.t 102)),q1 104 (.bin .lss (.t 101) (.t 103))] false [0,3,10,11,12,13,16,104]) (.cond (.t 104) (.skip) (.exit 4 [3,10,11,12,13]) [0,3,10,11,12,13,16])) (.seq (.block 5 (.reg [q1 107 (.fadr 0 (.t 12)),⟨some 108,.x (.load false 1 (.t 107)),.none,false,[8,17]⟩,q4 109 0,q4 110 0,q4 111 11,q4 112 16,q1 113 (.iadr 1 .none (.t 111) (.t 112)),q1 114 (.load false 1 (.t 113)),⟨some 115,.x (.call 21 [.t 110,.t 114] []),.none,true,[]⟩,q1 116 (.iadr 4 .none (.t 109) (.t 115)),q1 117 (.load true 4 (.t 116)),q4 118 13,q4 119 16,q1 120 (.iadr 1 .none (.t 118) (.t 119)),⟨some 121,.x (.load false 1 (.t 120)),.none,false,[8]⟩,q4 122 11,q4 123 13,⟨some 124,.x (.call 84 [.t 117,.t 121,.t 122,.t 123] []),.none,true,[]⟩,q1 125 (.bsl 4 1 [.int .i64 0,.int .i64 0,.int .i64 0,.nils] [(0,4,.t 124)]),⟨some 126,.x (.app 4 48 (.t 108) (.t 125)),.none,true,[]⟩,q1 127 (.fadr 0 (.t 12)),⟨.none,.x (.store 1 (.t 127) (.t 126)),.none,true,[]⟩] true [0,3,10,11,12,13,16]) [0,3,10,11,12,13,16]) (.reg [q4 105 16,q1 106 (.bin .add (.t 105) (.k (.int .i64 1))),q1 16 (.asg (.t 106))] false [0,3,10,11,12,13,16]))
def h31l3:HC:=.seq (.seq (.reg [q4 128 17,q4 129 3,q1 130 (.len false (.t 129)),q1 131 (.bin .lss (.t 128) (.t 130))] false [3,10,11,12,13,17,131]) (.cond (.t 131) (.skip) (.exit 6 [10,12]) [3,10,11,12,13,17])) (.seq (.block 7 (.reg [q1 134 (.fadr 4 (.t 12)),⟨some 135,.x (.load false 1 (.t 134)),.none,false,[8]⟩,q4 136 11,q4 137 13,q4 138 3,q4 139 17,q1 140 (.iadr 1 .none (.t 138) (.t 139)),q1 141 (.load false 1 (.t 140)),⟨some 142,.x (.call 85 [.t 136,.t 137,.t 141] []),.none,true,[]⟩,q1 143 (.bsl 1 1 [.int .i64 0] [(0,1,.t 142)]),⟨some 144,.x (.app 1 8 (.t 135) (.t 143)),.none,true,[]⟩,q1 145 (.fadr 4 (.t 12)),⟨.none,.x (.store 1 (.t 145) (.t 144)),.none,true,[]⟩] true [3,10,11,12,13,17]) [3,10,11,12,13,17]) (.reg [q4 132 17,q1 133 (.bin .add (.t 132) (.k (.int .i64 1))),q1 17 (.asg (.t 133))] false [3,10,11,12,13,17]))
def h31:HF:=⟨5,[.cell 10 true 5],.seq (.reg [q1 7 (.box (.t 2)),q1 10 (.alloc [.nils,.int .i64 0,.int .i64 0,.int .i64 0,.nils])] false [0,1,3,4,7,10]) (.seq (.reg [q4 18 0,q4 19 1,q4 20 3,q4 21 4,q1 22 (.call 28 [.t 18,.t 19,.t 20,.t 21] []),q1 11 (.asg (.t 22))] false [0,1,3,4,7,10,11]) (.seq (.reg [q1 23 (.load true 3 (.t 7)),q1 24 (.build [.nils,.int .i64 0,.int .i64 0,.int .i64 0,.nils] [(1,3,.t 23)]),q1 12 (.alloc [.nils,.int .i64 0,.int .i64 0,.int .i64 0,.nils]),q2 (.store 5 (.t 12) (.t 24))] false [0,1,3,4,10,11,12]) (.seq (.reg [q1 13 (.asg (.k (.nils)))] false [0,1,3,4,10,11,12,13]) (.seq (.seq (.reg [q1 14 (.asg (.k (.int .i64 0)))] false [0,1,3,4,10,11,12,13,14]) (.block 0 (.loop h31l0 [0,1,3,4,10,11,12,13,14]) [0,1,3,4,10,11,12,13])) (.seq (.seq (.reg [q1 15 (.asg (.k (.int .i64 0)))] false [0,1,3,4,10,11,12,13,15]) (.block 2 (.loop h31l1 [0,1,3,4,10,11,12,13,15]) [0,3,10,11,12,13])) (.seq (.seq (.reg [q1 16 (.asg (.k (.int .i64 0)))] false [0,3,10,11,12,13,16]) (.block 4 (.loop h31l2 [0,3,10,11,12,13,16]) [3,10,11,12,13])) (.seq (.seq (.reg [q1 17 (.asg (.k (.int .i64 0)))] false [3,10,11,12,13,17]) (.block 6 (.loop h31l3 [3,10,11,12,13,17]) [10,12])) (.seq (.reg [q1 146 (.load true 5 (.t 12)),q2 (.store 5 (.t 10) (.t 146))] false [10]) (.ret)))))))))⟩
def h32:HF:=⟨2,[.tmp 4],.seq (.reg [q1 4 (.asg (.k (.bool false)))] false [0,1]) (.seq (.reg [q4 5 0,q1 6 (.len false (.t 5)),q4 7 1,q1 8 (.len false (.t 7)),q1 9 (.bin .eql (.t 6) (.t 8)),q4 10 9,q3 11 (.mv (.t 0)) 10 true,q3 12 (.mv (.t 1)) 10 true,q3 13 (.call 86 [.t 11,.t 12] []) 10 true,q1 14 (.pick (.t 10) (.t 13) (.k (.bool false))),q1 4 (.asg (.t 14))] false [4]) (.ret))⟩
def h35:HF:=⟨2,[.cell 4 true 2],.seq (.reg [q1 4 (.alloc [.int .i64 0,.int .i64 0])] false [0,1,4]) (.seq (.reg [q4 8 0,q1 9 (.conv .u64 (.t 8)),q1 10 (.bin .rem (.t 9) (.k (.int .u64 17))),q1 11 (.conv .i64 (.t 10)),q1 5 (.asg (.t 11))] false [1,4,5]) (.seq (.reg [q4 12 1,q1 13 (.conv .i64 (.t 12)),q1 6 (.asg (.t 13))] false [4,5,6]) (.seq (.seq (.reg [q1 7 (.asg (.k (.int .i64 16)))] false [4,5,6,7]) (.block 0 (.loop (.seq (.seq (.reg [q4 14 7,q4 15 5,q1 16 (.bin .gtr (.t 14) (.t 15))] false [4,5,6,7,16]) (.cond (.t 16) (.skip) (.exit 0 [4,5,6]) [4,5,6,7])) (.seq (.block 1 (.seq (.reg [q4 19 6,q4 20 7,q1 21 (.bin .sub (.t 20) (.k (.int .i64 1))),q1 22 (.bin .shl (.k (.int .i64 1)) (.t 21)),q1 23 (.bin .geq (.t 19) (.t 22))] false [4,5,6,7,23]) (.cond (.t 23) (.reg [q4 24 6,q4 25 7,q1 26 (.bin .sub (.t 25) (.k (.int .i64 1))),q1 27 (.bin .shl (.k (.int .i64 1)) (.t 26)),q1 28 (.bin .sub (.t 24) (.t 27)),q1 6 (.asg (.t 28))] false [4,5,6,7]) (.skip) [4,5,6,7])) [4,5,6,7]) (.reg [q4 17 7,q1 18 (.bin .sub (.t 17) (.k (.int .i64 1))),q1 7 (.asg (.t 18))] false [4,5,6,7]))) [4,5,6,7]) [4,5,6])) (.seq (.reg [q4 29 5,q4 30 6,q1 31 (.build [.int .i64 0,.int .i64 0] [(0,1,.t 29),(1,1,.t 30)]),q2 (.store 2 (.t 4) (.t 31))] false [4]) (.ret)))))⟩
def h64:HF:=⟨1,[.tmp 2,.tmp 3],.seq (.reg [q1 2 (.asg (.k (.nilp))),q1 3 (.asg (.k (.nils)))] false [0]) (.seq (.reg [q1 4 (.asg (.k (.int .i64 1)))] false [0,4]) (.seq (.reg [q1 5 (.asg (.k (.nils)))] false [0,4,5]) (.seq (.seq (.reg [q4 8 0,q1 9 (.len false (.t 8)),q1 10 (.mv (.k (.int .i64 0)))] false [4,5,8,9,10]) (.block 0 (.loop (.seq (.reg [q1 11 (.bin .lss (.t 10) (.t 9))] false [4,5,8,9,10,11]) (.seq (.cond (.t 11) (.skip) (.exit 0 [4,5]) [4,5,8,9,10]) (.seq (.block 1 (.seq (.reg [q1 12 (.iadr 1 .none (.t 8) (.t 10)),q1 13 (.load false 1 (.t 12)),q1 7 (.asg (.t 13))] false [4,5,7,8,9,10]) (.seq (.reg [q4 14 5,q4 15 4,q4 16 4,q4 17 7,q1 18 (.bin .add (.t 16) (.t 17)),q4 19 4,q1 20 (.build [.int .i64 0,.int .i64 0,.int .i64 0] [(0,1,.t 15),(1,1,.t 18),(2,1,.t 19)]),q1 21 (.bsl 3 1 [.int .i64 0,.int .i64 0,.int .i64 0] [(0,3,.t 20)]),q1 22 (.app 3 24 (.t 14) (.t 21)),q1 5 (.asg (.t 22))] false [4,5,7,8,9,10]) (.reg [q4 23 4,q4 24 7,q1 25 (.bin .add (.t 23) (.t 24)),q1 4 (.asg (.t 25))] false [4,5,8,9,10]))) [4,5,8,9,10]) (.reg [q1 26 (.bin .add (.t 10) (.k (.int .i64 1))),q4 10 26] false [4,5,8,9,10])))) [4,5,8,9,10]) [4,5])) (.seq (.reg [q4 27 4,q1 28 (.mksl 1 8 [.int .i64 0] (.t 27) (.t 27)),q1 29 (.build [.nils] [(0,1,.t 28)]),q1 30 (.box (.t 29)),q4 31 5,q1 2 (.asg (.t 30)),q1 3 (.asg (.t 31))] false [2,3]) (.ret)))))⟩
def h65l0:HC:=.seq (.reg [q1 33 (.bin .lss (.t 32) (.t 31))] false [0,4,5,6,8,31,32,33]) (.seq (.cond (.t 33) (.skip) (.exit 0 [4,5,6,8]) [0,4,5,6,8,31,32]) (.seq (.block 1 (.seq (.reg [q4 34 32,q1 9 (.asg (.t 34))] false [0,4,5,6,8,9,31,32]) (.reg [q4 35 0,q1 36 (.nilck (.t 35)),q1 37 (.fadr 0 (.t 36)),q1 38 (.load false 1 (.t 37)),q4 39 8,q1 40 (.bin .add (.t 39) (.k (.int .i64 1))),q4 41 9,q1 42 (.bin .add (.t 40) (.t 41)),q1 43 (.iadr 1 .none (.t 38) (.t 42)),q2 (.store 1 (.t 43) (.k (.int .i64 0)))] false [0,4,5,6,8,31,32])) [0,4,5,6,8,31,32]) (.reg [q1 44 (.bin .add (.t 32) (.k (.int .i64 1))),q4 32 44] false [0,4,5,6,8,31,32])))
def h65:HF:=⟨3,[.cell 6 true 3,.tmp 7],.seq (.reg [q1 4 (.box (.t 1)),q1 5 (.box (.t 2)),q1 6 (.alloc [.int .i64 0,.int .i64 0,.int .i64 0]),q1 7 (.asg (.k (.int .i64 0)))] false [0,4,5,6]) (.seq (.seq (.reg [q1 10 (.fadr 1 (.t 4)),q1 11 (.load false 1 (.t 10)),q1 12 (.fadr 2 (.t 4)),q1 13 (.load false 1 (.t 12)),q1 14 (.bin .sub (.t 11) (.t 13)),q1 15 (.fadr 0 (.t 5)),q1 16 (.load false 1 (.t 15)),q1 17 (.bin .add (.k (.int .i64 1)) (.t 16)),q1 18 (.bin .lss (.t 14) (.t 17))] false [0,4,5,6,18]) (.cond (.t 18) (.seq (.reg [q1 19 (.load true 3 (.t 4)),q2 (.store 3 (.t 6) (.t 19)),q1 7 (.asg (.k (.int .i64 0)))] false [6,7]) (.ret)) (.skip) [0,4,5,6])) (.seq (.reg [q1 20 (.fadr 2 (.t 4)),q1 21 (.load false 1 (.t 20)),q1 8 (.asg (.t 21))] false [0,4,5,6,8]) (.seq (.reg [q4 22 0,q1 23 (.nilck (.t 22)),q1 24 (.fadr 0 (.t 23)),⟨some 25,.x (.load false 1 (.t 24)),.none,false,[6]⟩,q4 26 8,q1 27 (.load true 2 (.t 5)),⟨some 28,.x (.call 113 [.t 27] []),.none,true,[]⟩,q1 29 (.iadr 1 .none (.t 25) (.t 26)),⟨.none,.x (.store 1 (.t 29) (.t 28)),.none,true,[]⟩] true [0,4,5,6,8]) (.seq (.seq (.reg [q1 30 (.fadr 0 (.t 5)),q1 31 (.load false 1 (.t 30)),q1 32 (.mv (.k (.int .i64 0)))] false [0,4,5,6,8,31,32]) (.block 0 (.loop h65l0 [0,4,5,6,8,31,32]) [4,5,6,8])) (.seq (.reg [q1 45 (.fadr 2 (.t 4)),q1 46 (.load false 1 (.t 45)),q1 47 (.fadr 0 (.t 5)),q1 48 (.load false 1 (.t 47)),q1 49 (.bin .add (.k (.int .i64 1)) (.t 48)),q1 50 (.bin .add (.t 46) (.t 49)),q1 51 (.fadr 2 (.t 4)),q2 (.store 1 (.t 51) (.t 50))] false [4,6,8]) (.seq (.reg [q1 52 (.load true 3 (.t 4)),q4 53 8,q2 (.store 3 (.t 6) (.t 52)),q1 7 (.asg (.t 53))] false [6,7]) (.ret)))))))⟩
def h66:HF:=⟨4,[],.reg [q4 8 0,q1 9 (.nilck (.t 8)),q1 10 (.fadr 0 (.t 9)),q1 11 (.load false 1 (.t 10)),q4 12 1,q1 13 (.bin .add (.t 12) (.k (.int .i64 1))),q4 14 2,q1 15 (.bin .add (.t 13) (.t 14)),q4 16 3,q1 17 (.iadr 1 .none (.t 11) (.t 15)),q2 (.store 1 (.t 17) (.t 16))] false []⟩
def h67:HF:=⟨2,[.tmp 4],.seq (.reg [q1 2 (.box (.t 0)),q1 4 (.asg (.k (.bool false)))] false [1,2]) (.seq (.reg [q4 5 1,q1 6 (.fadr 0 (.t 2)),q1 7 (.load false 1 (.t 6)),q1 8 (.bin .geq (.t 5) (.t 7)),q4 9 8,q3 10 (.mv (.t 1)) 9 true,q3 11 (.fadr 2 (.t 2)) 9 true,q3 12 (.load false 1 (.t 11)) 9 true,q3 13 (.bin .lss (.t 10) (.t 12)) 9 true,q1 14 (.pick (.t 9) (.t 13) (.k (.bool false))),q1 4 (.asg (.t 14))] false [4]) (.ret))⟩
def h68:HF:=⟨1,[.cell 2 true 3],.seq (.reg [q1 2 (.alloc [.nilp,.nils,.nils])] false [0,2]) (.seq (.reg [q4 6 0,q1 7 (.conv .i64 (.t 6)),q1 8 (.bin .rem (.t 7) (.k (.int .i64 60))),q1 9 (.bin .add (.t 8) (.k (.int .i64 20))),q1 3 (.asg (.t 9))] false [2,3]) (.seq (.reg [q4 11 3,q4 12 3,q4 13 3,q1 14 (.bin .mul (.k (.int .i64 2)) (.t 13)),q1 15 (.bsl 1 3 [.int .i64 0] [(0,1,.t 11),(1,1,.t 12),(2,1,.t 14)]),q1 16 (.call 64 [.t 15] []),q4 10 16,q1 17 (.ext (.t 10) 0),q1 18 (.ext (.t 10) 1),q1 4 (.asg (.t 17)),q1 5 (.asg (.t 18))] false [2,4,5]) (.seq (.reg [q4 19 4,q4 20 5,q1 21 (.build [.nilp,.nils,.nils] [(0,1,.t 19),(1,1,.t 20)]),q2 (.store 3 (.t 2) (.t 21))] false [2]) (.ret))))⟩
def h69:HF:=⟨2,[.cell 4 true 3,.tmp 5],.seq (.reg [q1 2 (.box (.t 0)),q1 3 (.box (.t 1)),q1 4 (.alloc [.nilp,.nils,.nils]),q1 5 (.asg (.k (.bool false)))] false [2,3,4]) (.seq (.reg [q1 19 (.load true 3 (.t 2)),q1 6 (.alloc [.nilp,.nils,.nils]),q2 (.store 3 (.t 6) (.t 19))] false [2,3,4,6]) (.seq (.seq (.reg [q1 20 (.fadr 0 (.t 3)),q1 21 (.load false 1 (.t 20)),q1 22 (.bin .eql (.t 21) (.k (.int .i64 0)))] false [2,3,4,6,22]) (.cond (.t 22) (.seq (.reg [q1 23 (.fadr 1 (.t 3)),q1 24 (.load false 1 (.t 23)),q1 25 (.conv .i64 (.t 24)),q1 26 (.bin .rem (.t 25) (.k (.int .i64 2))),q1 7 (.asg (.t 26))] false [2,3,4,6,7]) (.seq (.reg [q1 27 (.fadr 3 (.t 3)),q1 28 (.load false 1 (.t 27)),q1 29 (.conv .i64 (.t 28)),q1 30 (.bin .rem (.t 29) (.k (.int .i64 7))),q1 31 (.fadr 5 (.t 3)),q1 32 (.load false 1 (.t 31)),q1 33 (.call 35 [.t 30,.t 32] []),q1 8 (.alloc [.int .i64 0,.int .i64 0]),q2 (.store 2 (.t 8) (.t 33))] false [2,4,6,7,8]) (.seq (.reg [q1 35 (.fadr 0 (.t 2)),q1 36 (.load false 1 (.t 35)),q1 37 (.fadr 1 (.t 2)),q1 38 (.load false 1 (.t 37)),q4 39 7,q1 40 (.iadr 3 .none (.t 38) (.t 39)),q1 41 (.load true 3 (.t 40)),q1 42 (.load true 2 (.t 8)),⟨some 43,.x (.call 65 [.t 36,.t 41,.t 42] []),.none,true,[]⟩,q4 34 43,q1 44 (.ext (.t 34) 0),q1 45 (.ext (.t 34) 1),q1 9 (.alloc [.int .i64 0,.int .i64 0,.int .i64 0]),⟨.none,.x (.store 3 (.t 9) (.t 44)),.none,true,[]⟩,q1 10 (.asg (.t 45))] true [2,4,6,7,8,9,10]) (.seq (.reg [q1 47 (.fadr 2 (.t 2)),q1 48 (.load false 1 (.t 47)),q1 49 (.fadr 1 (.t 2)),q1 50 (.load false 1 (.t 49)),q4 51 7,q1 52 (.iadr 3 .none (.t 50) (.t 51)),q1 53 (.load true 3 (.t 52)),q1 54 (.load true 2 (.t 8)),⟨some 55,.x (.call 114 [.t 48,.t 53,.t 54] []),.none,true,[]⟩,q4 46 55,q1 56 (.ext (.t 46) 0),q1 57 (.ext (.t 46) 1),q1 58 (.ext (.t 46) 2),q1 12 (.alloc [.int .i64 0,.int .i64 0,.int .i64 0]),q1 11 (.asg (.t 56)),⟨.none,.x (.store 3 (.t 12) (.t 57)),.none,true,[]⟩,q1 13 (.asg (.t 58))] true [2,4,6,7,9,10,11,12,13]) (.seq (.seq (.reg [q1 59 (.load true 3 (.t 9)),q1 60 (.load true 3 (.t 12)),q1 61 (.aeq true [.int .i64 0,.int .i64 0,.int .i64 0] (.t 59) (.t 60)),q4 62 61,q3 63 (.mv (.t 10)) 62 false,q3 64 (.bin .neq (.t 63) (.k (.int .i64 0))) 62 false,q3 65 (.mv (.t 13)) 62 false,q3 66 (.beq true (.t 64) (.t 65)) 62 false,q1 67 (.pick (.t 62) (.k (.bool true)) (.t 66)),q4 68 67,q3 69 (.mv (.t 13)) 68 false,q3 70 (.mv (.t 69)) 68 false,q3 71 (.mv (.t 10)) 70 true,q3 72 (.fadr 1 (.t 2)) 70 true,q3 73 (.load false 1 (.t 72)) 70 true,q3 74 (.mv (.t 7)) 70 true,q3 75 (.iadr 3 .none (.t 73) (.t 74)) 70 true,q3 76 (.fadr 2 (.t 75)) 70 true,q3 77 (.load false 1 (.t 76)) 70 true,q3 78 (.bin .neq (.t 71) (.t 77)) 70 true,q3 79 (.pick (.t 70) (.t 78) (.k (.bool false))) 68 false,q1 80 (.pick (.t 68) (.k (.bool true)) (.t 79))] false [2,4,6,7,9,11,80]) (.cond (.t 80) (.seq (.reg [q1 81 (.load true 3 (.t 2)),q2 (.store 3 (.t 4) (.t 81)),q1 5 (.asg (.k (.bool false)))] false [4,5]) (.ret)) (.skip) [2,4,6,7,9,11])) (.seq (.reg [q1 82 (.bsl 3 0 [.int .i64 0,.int .i64 0,.int .i64 0] []),q1 83 (.fadr 1 (.t 2)),q1 84 (.load false 1 (.t 83)),q1 85 (.app 3 24 (.t 82) (.t 84)),q1 86 (.fadr 1 (.t 6)),q2 (.store 1 (.t 86) (.t 85))] false [4,6,7,9,11]) (.seq (.reg [q1 87 (.fadr 1 (.t 6)),q1 88 (.load false 1 (.t 87)),q4 89 7,q1 90 (.load true 3 (.t 9)),q1 91 (.iadr 3 .none (.t 88) (.t 89)),q2 (.store 3 (.t 91) (.t 90))] false [4,6,11]) (.seq (.reg [q4 92 11,q1 93 (.fadr 2 (.t 6)),q2 (.store 1 (.t 93) (.t 92))] false [4,6]) (.seq (.reg [q1 94 (.load true 3 (.t 6)),q2 (.store 3 (.t 4) (.t 94)),q1 5 (.asg (.k (.bool true)))] false [4,5]) (.ret)))))))))) (.skip) [2,3,4,6])) (.seq (.seq (.reg [q1 95 (.fadr 2 (.t 2)),q1 96 (.load false 1 (.t 95)),q1 97 (.len false (.t 96)),q1 98 (.bin .eql (.t 97) (.k (.int .i64 0)))] false [2,3,4,6,98]) (.cond (.t 98) (.seq (.reg [q1 99 (.load true 3 (.t 2)),q2 (.store 3 (.t 4) (.t 99)),q1 5 (.asg (.k (.bool true)))] false [4,5]) (.ret)) (.skip) [2,3,4,6])) (.seq (.reg [q1 100 (.fadr 2 (.t 3)),q1 101 (.load false 1 (.t 100)),q1 102 (.conv .i64 (.t 101)),q1 103 (.fadr 2 (.t 2)),q1 104 (.load false 1 (.t 103)),q1 105 (.len false (.t 104)),q1 106 (.bin .rem (.t 102) (.t 105)),q1 14 (.asg (.t 106))] false [2,3,4,6,14]) (.seq (.reg [q1 107 (.fadr 2 (.t 2)),q1 108 (.load false 1 (.t 107)),q4 109 14,q1 110 (.iadr 4 .none (.t 108) (.t 109)),q1 111 (.load true 4 (.t 110)),q1 15 (.alloc [.int .i64 0,.int .i64 0,.int .i64 0,.nils]),q2 (.store 4 (.t 15) (.t 111))] false [2,3,4,6,14,15]) (.seq (.seq (.reg [q1 112 (.fadr 3 (.t 15)),q1 113 (.load false 1 (.t 112)),q1 114 (.len false (.t 113)),q1 115 (.bin .eql (.t 114) (.k (.int .i64 0)))] false [2,3,4,6,14,15,115]) (.cond (.t 115) (.seq (.reg [q1 116 (.load true 3 (.t 2)),q2 (.store 3 (.t 4) (.t 116)),q1 5 (.asg (.k (.bool true)))] false [4,5]) (.ret)) (.skip) [2,3,4,6,14,15])) (.seq (.reg [q1 117 (.fadr 3 (.t 3)),q1 118 (.load false 1 (.t 117)),q1 119 (.conv .i64 (.t 118)),q1 120 (.fadr 3 (.t 15)),q1 121 (.load false 1 (.t 120)),q1 122 (.len false (.t 121)),q1 123 (.bin .rem (.t 119) (.t 122)),q1 16 (.asg (.t 123))] false [2,3,4,6,14,15,16]) (.seq (.reg [q1 124 (.fadr 4 (.t 3)),q1 125 (.load false 1 (.t 124)),q1 126 (.conv .i64 (.t 125)),q1 17 (.asg (.t 126))] false [2,3,4,6,14,15,16,17]) (.seq (.seq (.reg [q1 127 (.fadr 1 (.t 15)),q1 128 (.load true 2 (.t 127)),q4 129 16,q1 130 (.call 23 [.t 128,.t 129] [])] false [2,3,4,6,14,15,16,17,130]) (.cond (.t 130) (.seq (.reg [q1 17 (.asg (.k (.int .i64 0)))] false [2,3,4,6,14,15,16,17]) (.seq (.reg [q1 131 (.fadr 4 (.t 3)),q1 132 (.load false 1 (.t 131)),q1 133 (.conv .i64 (.t 132)),q1 134 (.fadr 2 (.t 2)),q1 135 (.load false 1 (.t 134)),q1 136 (.len false (.t 135)),q1 137 (.bin .add (.t 136) (.k (.int .i64 1))),q1 138 (.bin .rem (.t 133) (.t 137)),q1 18 (.asg (.t 138))] false [2,4,6,14,15,16,17,18]) (.seq (.reg [q4 139 18,q1 140 (.fadr 2 (.t 2)),q1 141 (.load false 1 (.t 140)),q1 142 (.len false (.t 141)),q1 143 (.bin .lss (.t 139) (.t 142))] false [2,4,6,14,15,16,17,18,143]) (.cond (.t 143) (.reg [q1 144 (.fadr 2 (.t 2)),q1 145 (.load false 1 (.t 144)),q4 146 18,q1 147 (.iadr 4 .none (.t 145) (.t 146)),q1 148 (.fadr 0 (.t 147)),q1 149 (.load false 1 (.t 148)),q1 17 (.asg (.t 149))] false [2,4,6,14,15,16,17]) (.skip) [2,4,6,14,15,16,17])))) (.skip) [2,4,6,14,15,16,17])) (.seq (.reg [q1 150 (.fadr 0 (.t 2)),q1 151 (.load false 1 (.t 150)),q1 152 (.fadr 0 (.t 15)),q1 153 (.load false 1 (.t 152)),q4 154 16,q4 155 17,q1 156 (.call 66 [.t 151,.t 153,.t 154,.t 155] [])] false [2,4,6,14,15,16,17]) (.seq (.reg [q1 157 (.bsl 4 0 [.int .i64 0,.int .i64 0,.int .i64 0,.nils] []),q1 158 (.fadr 2 (.t 2)),q1 159 (.load false 1 (.t 158)),q1 160 (.app 4 48 (.t 157) (.t 159)),q1 161 (.fadr 2 (.t 6)),q2 (.store 1 (.t 161) (.t 160))] false [4,6,14,15,16,17]) (.seq (.reg [q1 162 (.fadr 2 (.t 6)),⟨some 163,.x (.load false 1 (.t 162)),.none,false,[6]⟩,q4 164 14,q1 165 (.bsl 1 0 [.int .i64 0] []),q1 166 (.fadr 3 (.t 15)),q1 167 (.load false 1 (.t 166)),⟨some 168,.x (.app 1 8 (.t 165) (.t 167)),.none,true,[]⟩,q1 169 (.iadr 4 .none (.t 163) (.t 164)),q1 170 (.fadr 3 (.t 169)),⟨.none,.x (.store 1 (.t 170) (.t 168)),.none,true,[]⟩] true [4,6,14,16,17]) (.seq (.reg [q1 171 (.fadr 2 (.t 6)),q1 172 (.load false 1 (.t 171)),q4 173 14,q1 174 (.iadr 4 .none (.t 172) (.t 173)),q1 175 (.fadr 3 (.t 174)),q1 176 (.load false 1 (.t 175)),q4 177 16,q4 178 17,q1 179 (.iadr 1 .none (.t 176) (.t 177)),q2 (.store 1 (.t 179) (.t 178))] false [4,6]) (.seq (.reg [q1 180 (.load true 3 (.t 6)),q2 (.store 3 (.t 4) (.t 180)),q1 5 (.asg (.k (.bool true)))] false [4,5]) (.ret)))))))))))))))⟩
def h70:HF:=⟨2,[.tmp 4],.seq (.reg [q1 3 (.box (.t 1)),q1 4 (.asg (.k (.int .i64 0)))] false [0,3]) (.seq (.seq (.reg [q4 9 0,q1 10 (.nilck (.t 9)),q1 11 (.fadr 1 (.t 10)),q1 12 (.load false 1 (.t 11)),q1 13 (.mkfn 115 [.t 3]),q1 14 (.call 78 [.t 12,.t 13] []),q1 15 (.un .not (.t 14))] false [0,3,15]) (.cond (.t 15) (.seq (.reg [q1 16 (.load false 1 (.t 3)),q1 4 (.asg (.t 16))] false [4]) (.ret)) (.skip) [0,3])) (.seq (.seq (.reg [q4 17 0,q1 18 (.nilck (.t 17)),q1 19 (.fadr 0 (.t 18)),q1 20 (.load false 1 (.t 19)),q1 21 (.nilck (.t 20)),q1 22 (.fadr 0 (.t 21)),q1 23 (.load false 1 (.t 22)),q1 24 (.load false 1 (.t 3)),q1 25 (.iadr 1 .none (.t 23) (.t 24)),q1 26 (.load false 1 (.t 25)),q1 5 (.asg (.t 26))] true [0,3,5]) (.seq (.reg [q4 27 5,q1 28 (.bin .lss (.t 27) (.k (.int .i64 0)))] false [0,3,5,28]) (.cond (.t 28) (.seq (.reg [q4 29 5,q1 30 (.un .neg (.t 29)),q1 4 (.asg (.t 30))] false [4]) (.ret)) (.skip) [0,3]))) (.seq (.reg [q4 32 0,q1 33 (.nilck (.t 32)),q1 34 (.fadr 0 (.t 33)),q1 35 (.load false 1 (.t 34)),q1 36 (.load false 1 (.t 3)),⟨some 37,.x (.call 22 [.t 35,.t 36] []),.none,true,[]⟩,q4 31 37,q1 38 (.ext (.t 31) 0),q1 39 (.ext (.t 31) 1),q1 6 (.alloc [.int .i64 0,.int .i64 0]),⟨.none,.x (.store 2 (.t 6) (.t 38)),.none,true,[]⟩,q1 7 (.asg (.t 39))] true [0,3,6]) (.seq (.reg [q4 40 0,q1 41 (.nilck (.t 40)),q1 42 (.fadr 2 (.t 41)),q1 43 (.fadr 2 (.t 42)),q1 44 (.load false 1 (.t 43)),q1 8 (.asg (.t 44))] false [0,3,6,8]) (.seq (.reg [q4 45 0,q1 46 (.nilck (.t 45)),q1 47 (.fadr 0 (.t 46)),q1 48 (.load false 1 (.t 47)),q1 49 (.nilck (.t 48)),q1 50 (.fadr 0 (.t 49)),q1 51 (.load false 1 (.t 50)),q4 52 8,q1 53 (.slc 1 (.t 51) (some (.t 52)) .none),q4 54 0,q1 55 (.nilck (.t 54)),q1 56 (.fadr 0 (.t 55)),q1 57 (.load false 1 (.t 56)),q1 58 (.nilck (.t 57)),q1 59 (.fadr 0 (.t 58)),q1 60 (.load false 1 (.t 59)),q1 61 (.load false 1 (.t 3)),q1 62 (.load false 1 (.t 3)),q1 63 (.bin .add (.t 62) (.k (.int .i64 1))),q1 64 (.fadr 0 (.t 6)),q1 65 (.load false 1 (.t 64)),q1 66 (.bin .add (.t 63) (.t 65)),q1 67 (.slc 1 (.t 60) (some (.t 61)) (some (.t 66))),⟨some 68,.copy 1 (.t 53) (.t 67),.none,true,[]⟩] true [0,3,6,8]) (.seq (.reg [q4 69 0,q1 70 (.nilck (.t 69)),q1 71 (.fadr 2 (.t 70)),q1 72 (.fadr 2 (.t 71)),q1 73 (.load false 1 (.t 72)),q1 74 (.fadr 0 (.t 6)),q1 75 (.load false 1 (.t 74)),q1 76 (.bin .add (.k (.int .i64 1)) (.t 75)),q1 77 (.bin .add (.t 73) (.t 76)),q1 78 (.nilck (.t 69)),q1 79 (.fadr 2 (.t 78)),q1 80 (.fadr 2 (.t 79)),⟨.none,.x (.store 1 (.t 80) (.t 77)),.none,true,[]⟩] true [0,3,8]) (.seq (.reg [q4 81 0,q1 82 (.nilck (.t 81)),q1 83 (.fadr 0 (.t 82)),q1 84 (.load false 1 (.t 83)),q1 85 (.nilck (.t 84)),q1 86 (.fadr 0 (.t 85)),q1 87 (.load false 1 (.t 86)),q1 88 (.load false 1 (.t 3)),q4 89 8,q1 90 (.un .neg (.t 89)),q1 91 (.iadr 1 .none (.t 87) (.t 88)),⟨.none,.x (.store 1 (.t 91) (.t 90)),.none,true,[]⟩] true [8]) (.seq (.reg [q4 92 8,q1 4 (.asg (.t 92))] false [4]) (.ret)))))))))⟩
def h71l0:HC:=.seq (.reg [q1 18 (.bin .lss (.t 17) (.t 16))] false [0,1,2,6,16,17,18]) (.seq (.cond (.t 18) (.skip) (.exit 0 []) [0,1,2,6,16,17]) (.seq (.block 1 (.seq (.reg [q4 19 17,q1 8 (.asg (.t 19))] false [0,1,2,6,8,16,17]) (.seq (.reg [q1 20 (.load true 2 (.t 6)),q4 21 8,q1 22 (.call 98 [.t 20,.t 21] [])] false [0,1,2,6,8,16,17,22]) (.cond (.t 22) (.reg [q4 23 2,q4 24 0,q1 25 (.nilck (.t 24)),q1 26 (.fadr 0 (.t 25)),q1 27 (.load false 1 (.t 26)),q4 28 1,q1 29 (.bin .add (.t 28) (.k (.int .i64 1))),q4 30 8,q1 31 (.bin .add (.t 29) (.t 30)),q1 32 (.iadr 1 .none (.t 27) (.t 31)),q1 33 (.callv (.t 23) [.t 32])] false [0,1,2,6,16,17]) (.skip) [0,1,2,6,16,17]))) [0,1,2,6,16,17]) (.reg [q1 34 (.bin .add (.t 17) (.k (.int .i64 1))),q4 17 34] false [0,1,2,6,16,17])))
def h71:HF:=⟨3,[],.seq (.reg [q4 10 0,q4 11 1,q1 12 (.call 22 [.t 10,.t 11] []),q4 9 12,q1 13 (.ext (.t 9) 0),q1 14 (.ext (.t 9) 1),q1 6 (.alloc [.int .i64 0,.int .i64 0]),q2 (.store 2 (.t 6) (.t 13)),q1 7 (.asg (.t 14))] false [0,1,2,6]) (.seq (.reg [q1 15 (.fadr 0 (.t 6)),q1 16 (.load false 1 (.t 15)),q1 17 (.mv (.k (.int .i64 0)))] false [0,1,2,6,16,17]) (.block 0 (.loop h71l0 [0,1,2,6,16,17]) []))⟩
def h72:HF:=⟨2,[],.reg [q4 3 0,q1 4 (.load false 1 (.t 1)),q4 5 0,q1 6 (.nilck (.t 5)),q1 7 (.load false 1 (.t 6)),⟨some 8,.x (.call 70 [.t 4,.t 7] []),.none,true,[]⟩,q1 9 (.nilck (.t 3)),⟨.none,.x (.store 1 (.t 9) (.t 8)),.none,true,[]⟩] true []⟩
def h73:HF:=⟨2,[],.reg [q4 3 0,q1 4 (.load false 1 (.t 1)),q4 5 0,q1 6 (.nilck (.t 5)),q1 7 (.load false 1 (.t 6)),⟨some 8,.x (.call 70 [.t 4,.t 7] []),.none,true,[]⟩,q1 9 (.nilck (.t 3)),⟨.none,.x (.store 1 (.t 9) (.t 8)),.none,true,[]⟩] true []⟩
def h74:HF:=⟨1,[.cell 2 true 2,.tmp 3],.seq (.reg [q1 2 (.alloc [.int .i64 0,.int .i64 0]),q1 3 (.asg (.k (.int .i64 0)))] false [0,2]) (.seq (.seq (.reg [q4 6 0,q1 7 (.bin .lss (.t 6) (.k (.int .i64 0))),q4 8 7,q3 9 (.mv (.t 0)) 8 false,q3 10 (.bin .geq (.t 9) (.k (.int .i64 2097152))) 8 false,q1 11 (.pick (.t 8) (.k (.bool true)) (.t 10))] false [0,2,11]) (.cond (.t 11) (.seq (.reg [q1 12 (.build [.int .i64 0,.int .i64 0] []),q2 (.store 2 (.t 2) (.t 12)),q1 3 (.asg (.k (.int .i64 16)))] false [2,3]) (.ret)) (.skip) [0,2])) (.seq (.reg [q4 13 0,q1 14 (.bin .and (.t 13) (.k (.int .i64 31))),q4 15 0,q1 16 (.bin .shr (.t 15) (.k (.int .u64 5))),q1 17 (.build [.int .i64 0,.int .i64 0] [(0,1,.t 14),(1,1,.t 16)]),q1 4 (.alloc [.int .i64 0,.int .i64 0]),q2 (.store 2 (.t 4) (.t 17))] false [2,4]) (.seq (.seq (.reg [q1 18 (.load true 2 (.t 4)),q1 19 (.call 97 [.t 18] []),q1 5 (.asg (.t 19))] false [2,4,5]) (.seq (.reg [q4 20 5,q1 21 (.bin .neq (.t 20) (.k (.int .i64 0)))] false [2,4,5,21]) (.cond (.t 21) (.seq (.reg [q1 22 (.build [.int .i64 0,.int .i64 0] []),q4 23 5,q2 (.store 2 (.t 2) (.t 22)),q1 3 (.asg (.t 23))] false [2,3]) (.ret)) (.skip) [2,4]))) (.seq (.reg [q1 24 (.load true 2 (.t 4)),q2 (.store 2 (.t 2) (.t 24)),q1 3 (.asg (.k (.int .i64 0)))] false [2,3]) (.ret)))))⟩
def h75:HF:=⟨1,[.tmp 2],.seq (.reg [q1 2 (.asg (.k (.int .i64 0)))] false [0]) (.seq (.reg [q1 3 (.asg (.k (.int .i64 1)))] false [0,3]) (.seq (.seq (.reg [q1 4 (.asg (.k (.int .i64 0)))] false [0,3,4]) (.block 0 (.loop (.seq (.seq (.reg [q4 5 4,q4 6 0,q1 7 (.bin .lss (.t 5) (.t 6))] false [0,3,4,7]) (.cond (.t 7) (.skip) (.exit 0 [3]) [0,3,4])) (.seq (.block 1 (.reg [q4 10 3,q1 11 (.bin .mul (.t 10) (.k (.int .i64 2))),q1 3 (.asg (.t 11))] false [0,3,4]) [0,3,4]) (.reg [q4 8 4,q1 9 (.bin .add (.t 8) (.k (.int .i64 1))),q1 4 (.asg (.t 9))] false [0,3,4]))) [0,3,4]) [3])) (.seq (.reg [q4 12 3,q1 2 (.asg (.t 12))] false [2]) (.ret))))⟩
def h76l0:HC:=.seq (.seq (.reg [q4 11 6,q1 12 (.fadr 2 (.t 3)),q1 13 (.load false 1 (.t 12)),q1 14 (.bin .lss (.t 11) (.t 13))] false [0,3,5,6,14]) (.cond (.t 14) (.skip) (.exit 0 [5]) [0,3,5,6])) (.block 1 (.seq (.reg [q4 16 0,q4 17 6,q1 18 (.call 22 [.t 16,.t 17] []),q4 15 18,q1 19 (.ext (.t 15) 0),q1 20 (.ext (.t 15) 1),q1 7 (.alloc [.int .i64 0,.int .i64 0]),q2 (.store 2 (.t 7) (.t 19)),q1 8 (.asg (.t 20))] false [0,3,5,6,7,8]) (.seq (.seq (.reg [q4 21 8,q1 22 (.bin .neq (.t 21) (.k (.int .i64 0)))] false [0,3,5,6,7,22]) (.cond (.t 22) (.seq (.reg [q4 23 5,q1 4 (.asg (.t 23))] false [4]) (.ret)) (.skip) [0,3,5,6,7])) (.seq (.reg [q4 24 5,q4 25 6,q1 26 (.bsl 1 1 [.int .i64 0] [(0,1,.t 25)]),q1 27 (.app 1 8 (.t 24) (.t 26)),q1 5 (.asg (.t 27))] false [0,3,5,6,7]) (.reg [q4 28 6,q1 29 (.fadr 0 (.t 7)),q1 30 (.load false 1 (.t 29)),q1 31 (.bin .add (.k (.int .i64 1)) (.t 30)),q1 32 (.bin .add (.t 28) (.t 31)),q1 6 (.asg (.t 32))] false [0,3,5,6])))) [0,3,5,6])
def h76:HF:=⟨2,[.tmp 4],.seq (.reg [q1 3 (.box (.t 1)),q1 4 (.asg (.k (.nils)))] false [0,3]) (.seq (.reg [q1 5 (.asg (.k (.nils)))] false [0,3,5]) (.seq (.seq (.reg [q1 9 (.fadr 0 (.t 3)),q1 10 (.load false 1 (.t 9)),q1 6 (.asg (.t 10))] false [0,3,5,6]) (.block 0 (.loop h76l0 [0,3,5,6]) [5])) (.seq (.reg [q4 33 5,q1 4 (.asg (.t 33))] false [4]) (.ret))))⟩
def h77:HF:=⟨6,[],.seq (.reg [q1 6 (.box (.t 0))] false [1,2,3,4,5,6]) (.seq (.seq (.reg [q1 9 (.load false 1 (.t 1)),q1 10 (.mkfn 79 [.t 6]),q1 11 (.call 78 [.t 9,.t 10] []),q1 12 (.un .not (.t 11)),q4 13 12,q3 14 (.load false 1 (.t 2)) 13 false,q3 15 (.load false 1 (.t 6)) 13 false,q3 16 (.iadr 1 .none (.t 14) (.t 15)) 13 false,q3 17 (.load false 1 (.t 16)) 13 false,q3 18 (.bin .gtr (.t 17) (.k (.int .i64 0))) 13 false,q1 19 (.pick (.t 13) (.k (.bool true)) (.t 18))] false [2,3,4,5,6,19]) (.cond (.t 19) (.ret) (.skip) [2,3,4,5,6])) (.seq (.reg [q1 20 (.load false 1 (.t 2)),q1 21 (.load false 1 (.t 6)),q1 22 (.iadr 1 .none (.t 20) (.t 21)),q2 (.store 1 (.t 22) (.k (.int .i64 1)))] false [3,4,5,6]) (.seq (.reg [q1 23 (.load false 1 (.t 3)),q1 24 (.load false 1 (.t 6)),q1 25 (.bsl 1 1 [.int .i64 0] [(0,1,.t 24)]),q1 26 (.app 1 8 (.t 23) (.t 25)),q2 (.store 1 (.t 3) (.t 26))] false [4,5,6]) (.seq (.reg [q1 28 (.load false 1 (.t 4)),q1 29 (.load false 1 (.t 6)),q1 30 (.call 22 [.t 28,.t 29] []),q4 27 30,q1 31 (.ext (.t 27) 0),q1 32 (.ext (.t 27) 1),q1 7 (.alloc [.int .i64 0,.int .i64 0]),q2 (.store 2 (.t 7) (.t 31)),q1 8 (.asg (.t 32))] false [5,7]) (.reg [q1 33 (.load false 1 (.t 5)),q1 34 (.fadr 0 (.t 7)),q1 35 (.load false 1 (.t 34)),q1 36 (.bin .add (.k (.int .i64 1)) (.t 35)),q1 37 (.bin .add (.t 33) (.t 36)),q2 (.store 1 (.t 5) (.t 37))] false [])))))⟩
def h78:HF:=⟨2,[.tmp 4],.seq (.reg [q1 4 (.asg (.k (.bool false)))] false [0,1]) (.seq (.reg [q4 5 0,q4 6 1,q1 7 (.call 116 [.t 5,.t 6] []),q1 8 (.bin .geq (.t 7) (.k (.int .i64 0))),q1 4 (.asg (.t 8))] false [4]) (.ret))⟩
def h79:HF:=⟨2,[.tmp 3],.seq (.reg [q1 2 (.box (.t 0)),q1 3 (.asg (.k (.bool false)))] false [1,2]) (.seq (.reg [q1 4 (.load true 3 (.t 2)),q1 5 (.load false 1 (.t 1)),q1 6 (.call 67 [.t 4,.t 5] []),q1 3 (.asg (.t 6))] false [3]) (.ret))⟩
def h80:HF:=⟨2,[],.reg [q1 3 (.load false 1 (.t 1)),q4 4 0,q1 5 (.nilck (.t 4)),q1 6 (.load false 1 (.t 5)),⟨some 7,.x (.callv (.t 3) [.t 6]),.none,true,[]⟩] true []⟩
def h81:HF:=⟨2,[],.reg [q1 3 (.load false 1 (.t 1)),q4 4 0,q1 5 (.nilck (.t 4)),q1 6 (.load false 1 (.t 5)),⟨some 7,.x (.callv (.t 3) [.t 6]),.none,true,[]⟩] true []⟩
def h82:HF:=⟨2,[.tmp 4],.seq (.reg [q1 4 (.asg (.k (.bool false)))] false [0,1]) (.seq (.seq (.reg [q1 5 (.asg (.k (.int .i64 0)))] false [0,1,5]) (.block 0 (.loop (.seq (.seq (.reg [q4 6 5,q4 7 0,q1 8 (.len false (.t 7)),q1 9 (.bin .lss (.t 6) (.t 8))] false [0,1,5,9]) (.cond (.t 9) (.skip) (.exit 0 []) [0,1,5])) (.seq (.block 1 (.seq (.reg [q4 12 0,q4 13 5,q1 14 (.iadr 3 .none (.t 12) (.t 13)),q1 15 (.load true 3 (.t 14)),q4 16 1,q1 17 (.call 117 [.t 15,.t 16] [])] false [0,1,5,17]) (.cond (.t 17) (.seq (.reg [q1 4 (.asg (.k (.bool true)))] false [4]) (.ret)) (.skip) [0,1,5])) [0,1,5]) (.reg [q4 10 5,q1 11 (.bin .add (.t 10) (.k (.int .i64 1))),q1 5 (.asg (.t 11))] false [0,1,5]))) [0,1,5]) [])) (.seq (.reg [q1 4 (.asg (.k (.bool false)))] false [4]) (.ret)))⟩
def h83l0:HC:=.seq (.seq (.reg [q4 20 11,q4 21 0,q4 22 9,q1 23 (.iadr 4 .none (.t 21) (.t 22)),q1 24 (.fadr 3 (.t 23)),q1 25 (.load false 1 (.t 24)),q1 26 (.len false (.t 25)),q1 27 (.bin .lss (.t 20) (.t 26))] false [0,1,9,10,11,27]) (.cond (.t 27) (.skip) (.exit 0 [10]) [0,1,9,10,11])) (.seq (.block 1 (.seq (.reg [q4 30 0,q4 31 9,q1 32 (.iadr 4 .none (.t 30) (.t 31)),q1 33 (.fadr 3 (.t 32)),q1 34 (.load false 1 (.t 33)),q4 35 11,q1 36 (.iadr 1 .none (.t 34) (.t 35)),q1 37 (.load false 1 (.t 36)),q1 12 (.asg (.t 37))] false [0,1,9,10,11,12]) (.seq (.reg [q4 38 0,q4 39 9,q1 40 (.iadr 4 .none (.t 38) (.t 39)),q1 41 (.fadr 1 (.t 40)),q1 42 (.load true 2 (.t 41)),q4 43 11,q1 44 (.call 23 [.t 42,.t 43] []),q4 45 44,q3 46 (.mv (.t 1)) 45 true,q3 47 (.mv (.t 12)) 45 true,q3 48 (.call 82 [.t 46,.t 47] []) 45 true,q1 49 (.pick (.t 45) (.t 48) (.k (.bool false))),q4 50 49,q3 51 (.mv (.t 10)) 50 true,q3 52 (.mv (.t 12)) 50 true,q3 53 (.call 19 [.t 51,.t 52] []) 50 true,q3 54 (.un .not (.t 53)) 50 true,q1 55 (.pick (.t 50) (.t 54) (.k (.bool false)))] false [0,1,9,10,11,12,55]) (.cond (.t 55) (.reg [q4 56 10,q4 57 12,q1 58 (.bsl 1 1 [.int .i64 0] [(0,1,.t 57)]),q1 59 (.app 1 8 (.t 56) (.t 58)),q1 10 (.asg (.t 59))] false [0,1,9,10,11]) (.skip) [0,1,9,10,11]))) [0,1,9,10,11]) (.reg [q4 28 11,q1 29 (.bin .add (.t 28) (.k (.int .i64 1))),q1 11 (.asg (.t 29))] false [0,1,9,10,11]))
def h83:HF:=⟨4,[.tmp 8],.seq (.reg [q1 8 (.asg (.k (.nils)))] false [0,1,2,3]) (.seq (.reg [q4 13 0,q4 14 2,q1 15 (.call 21 [.t 13,.t 14] []),q1 9 (.asg (.t 15))] false [0,1,3,9]) (.seq (.seq (.reg [q4 16 9,q1 17 (.bin .lss (.t 16) (.k (.int .i64 0)))] false [0,1,3,9,17]) (.cond (.t 17) (.seq (.reg [q4 18 3,q1 8 (.asg (.t 18))] false [8]) (.ret)) (.skip) [0,1,3,9])) (.seq (.reg [q4 19 3,q1 10 (.asg (.t 19))] false [0,1,9,10]) (.seq (.seq (.reg [q1 11 (.asg (.k (.int .i64 0)))] false [0,1,9,10,11]) (.block 0 (.loop h83l0 [0,1,9,10,11]) [10])) (.seq (.reg [q4 60 10,q1 8 (.asg (.t 60))] false [8]) (.ret))))))⟩
def h84l0:HC:=.seq (.seq (.reg [q4 16 10,q1 17 (.fadr 3 (.t 4)),q1 18 (.load false 1 (.t 17)),q1 19 (.len false (.t 18)),q1 20 (.bin .lss (.t 16) (.t 19))] false [2,3,4,8,9,10,20]) (.cond (.t 20) (.skip) (.exit 0 [8,9]) [2,3,4,8,9,10])) (.seq (.block 1 (.seq (.reg [q1 23 (.fadr 3 (.t 4)),q1 24 (.load false 1 (.t 23)),q4 25 10,q1 26 (.iadr 1 .none (.t 24) (.t 25)),q1 27 (.load false 1 (.t 26)),q1 11 (.asg (.t 27))] false [2,3,4,8,9,10,11]) (.seq (.seq (.reg [q1 28 (.fadr 1 (.t 4)),q1 29 (.load true 2 (.t 28)),q4 30 10,q1 31 (.call 23 [.t 29,.t 30] [])] false [2,3,4,8,9,10,11,31]) (.cond (.t 31) (.reg [q4 32 2,q4 33 3,q4 34 11,q1 35 (.call 85 [.t 32,.t 33,.t 34] []),q1 11 (.asg (.t 35))] false [2,3,4,8,9,10,11]) (.skip) [2,3,4,8,9,10,11])) (.reg [q1 36 (.fadr 3 (.t 9)),q1 37 (.load false 1 (.t 36)),q4 38 11,q1 39 (.bsl 1 1 [.int .i64 0] [(0,1,.t 38)]),q1 40 (.app 1 8 (.t 37) (.t 39)),q1 41 (.fadr 3 (.t 9)),q2 (.store 1 (.t 41) (.t 40))] false [2,3,4,8,9,10]))) [2,3,4,8,9,10]) (.reg [q4 21 10,q1 22 (.bin .add (.t 21) (.k (.int .i64 1))),q1 10 (.asg (.t 22))] false [2,3,4,8,9,10]))
def h84:HF:=⟨4,[.cell 8 true 4],.seq (.reg [q1 4 (.box (.t 0)),q1 8 (.alloc [.int .i64 0,.int .i64 0,.int .i64 0,.nils])] false [1,2,3,4,8]) (.seq (.reg [q4 12 1,q1 13 (.fadr 1 (.t 4)),q1 14 (.load true 2 (.t 13)),q1 15 (.build [.int .i64 0,.int .i64 0,.int .i64 0,.nils] [(0,1,.t 12),(1,2,.t 14)]),q1 9 (.alloc [.int .i64 0,.int .i64 0,.int .i64 0,.nils]),q2 (.store 4 (.t 9) (.t 15))] false [2,3,4,8,9]) (.seq (.seq (.reg [q1 10 (.asg (.k (.int .i64 0)))] false [2,3,4,8,9,10]) (.block 0 (.loop h84l0 [2,3,4,8,9,10]) [8,9])) (.seq (.reg [q1 42 (.load true 4 (.t 9)),q2 (.store 4 (.t 8) (.t 42))] false [8]) (.ret))))⟩
def h85:HF:=⟨3,[.tmp 6],.seq (.reg [q1 6 (.asg (.k (.int .i64 0)))] false [0,1,2]) (.seq (.seq (.reg [q1 7 (.asg (.k (.int .i64 0)))] false [0,1,2,7]) (.block 0 (.loop (.seq (.seq (.reg [q4 8 7,q4 9 0,q1 10 (.len false (.t 9)),q1 11 (.bin .lss (.t 8) (.t 10))] false [0,1,2,7,11]) (.cond (.t 11) (.skip) (.exit 0 [2]) [0,1,2,7])) (.seq (.block 1 (.seq (.reg [q4 14 0,q4 15 7,q1 16 (.iadr 1 .none (.t 14) (.t 15)),q1 17 (.load false 1 (.t 16)),q4 18 2,q1 19 (.bin .eql (.t 17) (.t 18))] false [0,1,2,7,19]) (.cond (.t 19) (.seq (.reg [q4 20 1,q4 21 7,q1 22 (.iadr 1 .none (.t 20) (.t 21)),q1 23 (.load false 1 (.t 22)),q1 6 (.asg (.t 23))] false [6]) (.ret)) (.skip) [0,1,2,7])) [0,1,2,7]) (.reg [q4 12 7,q1 13 (.bin .add (.t 12) (.k (.int .i64 1))),q1 7 (.asg (.t 13))] false [0,1,2,7]))) [0,1,2,7]) [2])) (.seq (.reg [q4 24 2,q1 6 (.asg (.t 24))] false [6]) (.ret)))⟩
def h86:HF:=⟨2,[.tmp 4],.seq (.reg [q1 4 (.asg (.k (.bool false)))] false [0,1]) (.seq (.seq (.reg [q4 6 0,q1 7 (.len false (.t 6)),q4 8 1,q1 9 (.len false (.t 8)),q1 10 (.bin .gtr (.t 7) (.t 9))] false [0,1,10]) (.cond (.t 10) (.seq (.reg [q1 4 (.asg (.k (.bool false)))] false [4]) (.ret)) (.skip) [0,1])) (.seq (.seq (.reg [q1 5 (.asg (.k (.int .i64 0)))] false [0,1,5]) (.block 0 (.loop (.seq (.seq (.reg [q4 11 5,q4 12 0,q1 13 (.len false (.t 12)),q1 14 (.bin .lss (.t 11) (.t 13))] false [0,1,5,14]) (.cond (.t 14) (.skip) (.exit 0 []) [0,1,5])) (.seq (.block 1 (.seq (.reg [q4 17 0,q4 18 5,q1 19 (.iadr 1 .none (.t 17) (.t 18)),q1 20 (.load false 1 (.t 19)),q4 21 1,q4 22 5,q1 23 (.iadr 1 .none (.t 21) (.t 22)),q1 24 (.load false 1 (.t 23)),q1 25 (.bin .neq (.t 20) (.t 24))] true [0,1,5,25]) (.cond (.t 25) (.seq (.reg [q1 4 (.asg (.k (.bool false)))] false [4]) (.ret)) (.skip) [0,1,5])) [0,1,5]) (.reg [q4 15 5,q1 16 (.bin .add (.t 15) (.k (.int .i64 1))),q1 5 (.asg (.t 16))] false [0,1,5]))) [0,1,5]) [])) (.seq (.reg [q1 4 (.asg (.k (.bool true)))] false [4]) (.ret))))⟩
def h97:HF:=⟨1,[.tmp 2],.seq (.reg [q1 1 (.box (.t 0)),q1 2 (.asg (.k (.int .i64 0)))] false [1]) (.seq (.seq (.reg [q1 3 (.fadr 0 (.t 1)),q1 4 (.load false 1 (.t 3)),q1 5 (.bin .lss (.t 4) (.k (.int .i64 0))),q4 6 5,q3 7 (.fadr 0 (.t 1)) 6 false,q3 8 (.load false 1 (.t 7)) 6 false,q3 9 (.bin .gtr (.t 8) (.k (.int .i64 16))) 6 false,q1 10 (.pick (.t 6) (.k (.bool true)) (.t 9)),q4 11 10,q3 12 (.fadr 1 (.t 1)) 11 false,q3 13 (.load false 1 (.t 12)) 11 false,q3 14 (.bin .lss (.t 13) (.k (.int .i64 0))) 11 false,q1 15 (.pick (.t 11) (.k (.bool true)) (.t 14)),q4 16 15,q3 17 (.fadr 1 (.t 1)) 16 false,q3 18 (.load false 1 (.t 17)) 16 false,q3 19 (.fadr 0 (.t 1)) 16 false,q3 20 (.load false 1 (.t 19)) 16 false,q3 21 (.bin .shl (.k (.int .i64 1)) (.t 20)) 16 false,q3 22 (.bin .geq (.t 18) (.t 21)) 16 false,q1 23 (.pick (.t 16) (.k (.bool true)) (.t 22))] true [23]) (.cond (.t 23) (.seq (.reg [q1 2 (.asg (.k (.int .i64 16)))] false [2]) (.ret)) (.skip) [])) (.seq (.reg [q1 2 (.asg (.k (.int .i64 0)))] false [2]) (.ret)))⟩
def h98:HF:=⟨2,[.tmp 4],.seq (.reg [q1 2 (.box (.t 0)),q1 4 (.asg (.k (.bool false)))] false [1,2]) (.seq (.reg [q4 5 1,q1 6 (.bin .geq (.t 5) (.k (.int .i64 0))),q4 7 6,q3 8 (.mv (.t 1)) 7 true,q3 9 (.fadr 0 (.t 2)) 7 true,q3 10 (.load false 1 (.t 9)) 7 true,q3 11 (.bin .lss (.t 8) (.t 10)) 7 true,q1 12 (.pick (.t 7) (.t 11) (.k (.bool false))),q4 13 12,q3 14 (.fadr 1 (.t 2)) 13 true,⟨some 15,.x (.load false 1 (.t 14)),some (13,true),false,[11]⟩,⟨some 16,.x (.call 120 [] []),some (13,true),true,[]⟩,q3 17 (.mv (.t 1)) 13 true,q3 18 (.idx false 1 16 (.t 16) (.t 17)) 13 true,q3 19 (.bin .and (.t 15) (.t 18)) 13 true,q3 20 (.bin .neq (.t 19) (.k (.int .i64 0))) 13 true,q1 21 (.pick (.t 13) (.t 20) (.k (.bool false))),q1 4 (.asg (.t 21))] true [4]) (.ret))⟩
def h113:HF:=⟨1,[.tmp 2],.seq (.reg [q1 1 (.box (.t 0)),q1 2 (.asg (.k (.int .i64 0)))] false [1]) (.seq (.reg [q1 3 (.fadr 1 (.t 1)),q1 4 (.load false 1 (.t 3)),q1 5 (.bin .shl (.t 4) (.k (.int .u64 5))),q1 6 (.fadr 0 (.t 1)),q1 7 (.load false 1 (.t 6)),q1 8 (.bin .or (.t 5) (.t 7)),q1 2 (.asg (.t 8))] false [2]) (.ret))⟩
def h114:HF:=⟨3,[.tmp 6,.cell 7 true 3,.tmp 8],.seq (.reg [q1 4 (.box (.t 1)),q1 5 (.box (.t 2)),q1 6 (.asg (.k (.nils))),q1 7 (.alloc [.int .i64 0,.int .i64 0,.int .i64 0]),q1 8 (.asg (.k (.bool false)))] false [0,4,5,7]) (.seq (.seq (.reg [q1 11 (.fadr 2 (.t 4)),q1 12 (.load false 1 (.t 11)),q1 13 (.bin .add (.t 12) (.k (.int .i64 1))),q1 14 (.fadr 0 (.t 5)),q1 15 (.load false 1 (.t 14)),q1 16 (.bin .add (.t 13) (.t 15)),q1 17 (.fadr 1 (.t 4)),q1 18 (.load false 1 (.t 17)),q1 19 (.bin .gtr (.t 16) (.t 18))] false [0,4,5,7,19]) (.cond (.t 19) (.seq (.reg [q4 20 0,q1 21 (.load true 3 (.t 4)),q1 6 (.asg (.t 20)),⟨.none,.x (.store 3 (.t 7) (.t 21)),.none,true,[]⟩,q1 8 (.asg (.k (.bool false)))] true [6,7,8]) (.ret)) (.skip) [0,4,5,7])) (.seq (.reg [q1 9 (.asg (.k (.nils)))] false [0,4,5,7,9]) (.seq (.reg [q4 22 9,q4 23 0,q1 24 (.app 4 48 (.t 22) (.t 23)),q1 9 (.asg (.t 24))] false [4,5,7,9]) (.seq (.reg [q4 25 9,q1 26 (.fadr 2 (.t 4)),q1 27 (.load false 1 (.t 26)),q1 28 (.load true 2 (.t 5)),q1 29 (.fadr 0 (.t 5)),q1 30 (.load false 1 (.t 29)),q1 31 (.mksl 1 8 [.int .i64 0] (.t 30) (.t 30)),⟨some 32,.x (.build [.int .i64 0,.int .i64 0,.int .i64 0,.nils] [(0,1,.t 27),(1,2,.t 28),(3,1,.t 31)]),.none,true,[]⟩,q1 33 (.bsl 4 1 [.int .i64 0,.int .i64 0,.int .i64 0,.nils] [(0,4,.t 32)]),⟨some 34,.x (.app 4 48 (.t 25) (.t 33)),.none,true,[]⟩,q1 9 (.asg (.t 34))] true [4,5,7,9]) (.seq (.reg [q1 35 (.load true 3 (.t 4)),q1 10 (.alloc [.int .i64 0,.int .i64 0,.int .i64 0]),q2 (.store 3 (.t 10) (.t 35))] false [4,5,7,9,10]) (.seq (.reg [q1 36 (.fadr 2 (.t 4)),q1 37 (.load false 1 (.t 36)),q1 38 (.bin .add (.t 37) (.k (.int .i64 1))),q1 39 (.fadr 0 (.t 5)),q1 40 (.load false 1 (.t 39)),q1 41 (.bin .add (.t 38) (.t 40)),q1 42 (.fadr 2 (.t 10)),q2 (.store 1 (.t 42) (.t 41))] false [7,9,10]) (.seq (.reg [q4 43 9,q1 44 (.load true 3 (.t 10)),q1 6 (.asg (.t 43)),⟨.none,.x (.store 3 (.t 7) (.t 44)),.none,true,[]⟩,q1 8 (.asg (.k (.bool true)))] true [6,7,8]) (.ret))))))))⟩
def h115:HF:=⟨2,[.tmp 3],.seq (.reg [q1 2 (.box (.t 0)),q1 3 (.asg (.k (.bool false)))] false [1,2]) (.seq (.reg [q1 4 (.load true 3 (.t 2)),q1 5 (.load false 1 (.t 1)),q1 6 (.call 67 [.t 4,.t 5] []),q1 3 (.asg (.t 6))] false [3]) (.ret))⟩
def h116l0:HC:=.seq (.reg [q1 9 (.bin .lss (.t 8) (.t 7))] false [0,1,7,8,9]) (.seq (.cond (.t 9) (.skip) (.exit 0 []) [0,1,7,8]) (.seq (.block 1 (.seq (.reg [q4 10 8,q1 5 (.asg (.t 10))] false [0,1,5,7,8]) (.seq (.reg [q4 11 1,q4 12 0,q4 13 5,q1 14 (.iadr 3 .none (.t 12) (.t 13)),q1 15 (.load true 3 (.t 14)),q1 16 (.callv (.t 11) [.t 15])] false [0,1,5,7,8,16]) (.cond (.t 16) (.seq (.reg [q4 17 5,q1 4 (.asg (.t 17))] false [4]) (.ret)) (.skip) [0,1,7,8]))) [0,1,7,8]) (.reg [q1 18 (.bin .add (.t 8) (.k (.int .i64 1))),q4 8 18] false [0,1,7,8])))
def h116:HF:=⟨2,[.tmp 4],.seq (.reg [q1 4 (.asg (.k (.int .i64 0)))] false [0,1]) (.seq (.seq (.reg [q4 6 0,q1 7 (.len false (.t 6)),q1 8 (.mv (.k (.int .i64 0)))] false [0,1,7,8]) (.block 0 (.loop h116l0 [0,1,7,8]) [])) (.seq (.reg [q1 4 (.asg (.k (.int .i64 (-1))))] false [4]) (.ret)))⟩
def h117:HF:=⟨2,[.tmp 4],.seq (.reg [q1 2 (.box (.t 0)),q1 4 (.asg (.k (.bool false)))] false [1,2]) (.seq (.reg [q4 5 1,q1 6 (.fadr 0 (.t 2)),q1 7 (.load false 1 (.t 6)),q1 8 (.bin .geq (.t 5) (.t 7)),q4 9 8,q3 10 (.mv (.t 1)) 9 true,q3 11 (.fadr 2 (.t 2)) 9 true,q3 12 (.load false 1 (.t 11)) 9 true,q3 13 (.bin .lss (.t 10) (.t 12)) 9 true,q1 14 (.pick (.t 9) (.t 13) (.k (.bool false))),q1 4 (.asg (.t 14))] false [4]) (.ret))⟩
def h120:HF:=⟨0,[.cell 0 true 16],.seq (.reg [q1 0 (.alloc [.int .i64 0,.int .i64 0,.int .i64 0,.int .i64 0,.int .i64 0,.int .i64 0,.int .i64 0,.int .i64 0,.int .i64 0,.int .i64 0,.int .i64 0,.int .i64 0,.int .i64 0,.int .i64 0,.int .i64 0,.int .i64 0])] false [0]) (.seq (.reg [q1 1 (.build [.int .i64 0,.int .i64 0,.int .i64 0,.int .i64 0,.int .i64 0,.int .i64 0,.int .i64 0,.int .i64 0,.int .i64 0,.int .i64 0,.int .i64 0,.int .i64 0,.int .i64 0,.int .i64 0,.int .i64 0,.int .i64 0] [(0,1,.k (.int .i64 1)),(1,1,.k (.int .i64 2)),(2,1,.k (.int .i64 4)),(3,1,.k (.int .i64 8)),(4,1,.k (.int .i64 16)),(5,1,.k (.int .i64 32)),(6,1,.k (.int .i64 64)),(7,1,.k (.int .i64 128)),(8,1,.k (.int .i64 256)),(9,1,.k (.int .i64 512)),(10,1,.k (.int .i64 1024)),(11,1,.k (.int .i64 2048)),(12,1,.k (.int .i64 4096)),(13,1,.k (.int .i64 8192)),(14,1,.k (.int .i64 16384)),(15,1,.k (.int .i64 32768))]),q2 (.store 16 (.t 0) (.t 1))] false [0]) (.ret))⟩
def TL:List (Nat×HF):=[(5,h5),(15,h15),(16,h16),(17,h17),(18,h18),(19,h19),(21,h21),(22,h22),(23,h23),(24,h24),(25,h25),(26,h26),(27,h27),(28,h28),(29,h29),(30,h30),(31,h31),(32,h32),(35,h35),(64,h64),(65,h65),(66,h66),(67,h67),(68,h68),(69,h69),(70,h70),(71,h71),(72,h72),(73,h73),(74,h74),(75,h75),(76,h76),(77,h77),(78,h78),(79,h79),(80,h80),(81,h81),(82,h82),(83,h83),(84,h84),(85,h85),(86,h86),(97,h97),(98,h98),(113,h113),(114,h114),(115,h115),(116,h116),(117,h117),(120,h120)]
def TH:Nat->Option HF:=fun f=>lookH f TL
end Go.Ab
