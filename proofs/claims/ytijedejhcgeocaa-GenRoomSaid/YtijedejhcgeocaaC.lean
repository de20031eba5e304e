/-
  Texts of this seat: lemmas on the way to the statement.
-/
import Derived.Test.YtijedejhcgeocaaB
set_option linter.unusedVariables false
set_option linter.unusedSimpArgs false
namespace Go.Ab
open Go
inductive HV where
 | p (v:PV)
 | ptr (a i:Nat)
 | row (a off len sz:Nat)
 | mp (a:Nat)
 | nilm
 | agg (cs:List HV)
 | tup (cs:List HV)
 | fn (f:Nat) (caps:List HV)
 | bm (f:Nat) (first:List HV)
 | nbox (cs:List HV)
 | nrow (sz len:Nat) (cs:List HV)
 deriving Inhabited
inductive HB where
 | dead
 | box (cs:List HV)
 | row (sz len:Nat) (cs:List HV)
 | map (ks:List PV) (vs:List HV)
 deriving Inhabited
abbrev HSt:=List HB
abbrev HEnv:=List (Nat×HV)
def HEnv.get:HEnv->Nat->HV
 | [],_=>.p .none
 | (k,v)::r,t=>if t=k then v else HEnv.get r t
def HEnv.set:HEnv->Nat->HV->HEnv
 | [],t,v=>[(t,v)]
 | (k,x)::r,t,v=>if t<k then (t,v)::(k,x)::r else if t=k then (t,v)::r else (k,x)::HEnv.set r t v
def HEnv.keep(l:List Nat):HEnv->HEnv
 | []=>[]
 | (k,x)::r=>if l.contains k then (k,x)::HEnv.keep l r else HEnv.keep l r
def PV.loose(v:PV):Bool:=noOwn v&&(refs v).isEmpty
def toP:HV->PV
 | .p v=>v
 | _=>.none
def allP:List HV->Option (List PV)
 | []=>some []
 | .p v::r=>(allP r).map (v :: ·)
 | _::_=>Option.none
def mkAgg(cs:List HV):HV:=match allP cs with
 | some vs=>.p (.agg vs)
 | Option.none=>.agg cs
def mkTup(cs:List HV):HV:=match allP cs with
 | some vs=>.p (.tup vs)
 | Option.none=>.tup cs
def cellsH:HV->List HV
 | .agg cs=>cs
 | .p v=>(cells v).map .p
 | v=>[v]
def HV.one:HV->Bool
 | .agg _ | .tup _ | .nbox _ | .nrow ..=>false
 | .p (.agg _) | .p (.tup _) | .p .none=>false
 | _=>true
def blkCells(st:HSt)(a:Nat):Option (List HV):=match st[a]? with
 | some (.box cs)=>some cs
 | some (.row _ _ cs)=>some cs
 | _=>Option.none
def slElems(st:HSt):HV->Option (Nat×List HV)
 | .p .nils=>some (0,[])
 | .p (.sl n cs)=>some (n,cs.map .p)
 | .row a off len sz=>match st[a]? with
   | some (.row sz' n cs)=>if sz=sz'/\off+len*sz<=cs.length then some (len,(cs.drop off).take (len*sz)) else Option.none
   | _=>Option.none
 | _=>Option.none
def fillH(L:XO->HV):List HV->List (Nat×Nat×XO)->Option (List HV)
 | cs,[]=>some cs
 | cs,(off,sz,x)::r=>
   let ys:=cellsH (L x)
   if ys.length=sz/\off+sz<=cs.length/\ys.all HV.one then fillH L (cs.take off++ys++cs.drop (off+sz)) r else Option.none
def partH(agg:Bool)(off sz:Nat)(cs:List HV):Option HV:=
 if off+sz<=cs.length then
  (if agg then some (mkAgg ((cs.drop off).take sz)) else cs[off]?)
 else Option.none
def fresh:PV->Bool
 | .box cs=>cs.all PV.free && !cs.isEmpty
 | .own _ _ cs=>cs.all PV.free
 | _=>false
def vis:HV->HV
 | .p v=>if v.loose then .p v else .p .none
 | .nbox _=>.p .none
 | .nrow ..=>.p .none
 | v=>v
def lookHG(g:Nat->HV):XO->HV
 | .t n=>vis (g n)
 | .k v=>.p v
 | .f n=>.p (.fn n [])
def lookPG(g:Nat->HV):XO->PV:=lookG fun t=>toP (g t)
inductive HOp where
 | x (o:XOp)
 | bm (f:Nat) (first:List XO)
 | copy (sz:Nat) (d s:XO)
 | snil (neg:Bool) (x:XO)
 | slc0 (x:XO)
 deriving Inhabited
structure HI where
 dst:Option Nat
 op:HOp
 guard:Option (Nat×Bool):=.none
 bar:Bool:=false
 loose:List Nat:=[]
 deriving Inhabited
inductive HC where
 | skip
 | reg (ops:List HI) (draw:Bool) (keep:List Nat)
 | seq (a b:HC)
 | cond (c:XO) (a b:HC) (keep:List Nat)
 | block (id:Nat) (b:HC) (keep:List Nat)
 | loop (b:HC) (keep:List Nat)
 | exit (id:Nat) (keep:List Nat)
 | ret
 deriving Inhabited
structure HF where
 np:Nat
 res:List XR
 body:HC
 deriving Inhabited
def evHX(L:XO->HV)(st:HSt):XOp->Option HV
 | .mv x=>some (L x)
 | .asg x=>some (L x)
 | .pick c a b=>match L c with
   | .p (.bool true)=>some (L a)
   | .p (.bool false)=>some (L b)
   | _=>Option.none
 | .build z ps=>(fillH L (z.map .p) ps).map mkAgg
 | .load agg sz x=>match L x with
   | .ptr a i=>match blkCells st a with
     | some cs=>partH agg i sz cs
     | Option.none=>Option.none
   | _=>Option.none
 | .peq neg x y=>match L x,L y with
   | .ptr ..,.p .nilp=>some (.p (.bool neg))
   | .p .nilp,.ptr ..=>some (.p (.bool neg))
   | _,_=>Option.none
 | .slc sz x lo hi=>match L x with
   | .row a off n z=>if sz=0 then Option.none else (match bnd (fun y=>toP (L y)) n hi n with
     | some h=>match bnd (fun y=>toP (L y)) h lo 0 with
       | some l=>if z=sz then (if l=0 then some (.row a off h z) else if l<h then some (.row a (off+l*sz) (h-l) z) else some (.p (.sl 0 []))) else Option.none
       | _=>Option.none
     | _=>Option.none)
   | _=>Option.none
 | .fadr off x=>match L x with
   | .ptr a i=>some (.ptr a (i+off))
   | _=>Option.none
 | .fld agg off sz x=>match L x with
   | .agg cs=>partH agg off sz cs
   | _=>Option.none
 | .iadr sz arr x i=>match L i with
   | .p (.int _ j)=>match arr with
     | Option.none=>match L x with
       | .row a off n z=>if idxOk j n&&z==sz then some (.ptr a (off+j.toNat*sz)) else Option.none
       | _=>Option.none
     | some n=>match L x with
       | .ptr a o=>if idxOk j n then some (.ptr a (o+j.toNat*sz)) else Option.none
       | _=>Option.none
   | _=>Option.none
 | .len str x=>match L x with
   | .row _ _ n _=>if str then Option.none else some (.p (.int .i64 n))
   | _=>Option.none
 | .ext x i=>match L x with
   | .tup vs=>vs[i]?
   | _=>Option.none
 | .nilck x=>match L x with
   | .ptr a i=>some (.ptr a i)
   | _=>Option.none
 | .mkfn f caps=>some (.fn f (caps.map L))
 | _=>Option.none
def evHV(L:XO->HV)(st:HSt):HOp->Option HV
 | .x o=>evHX L st o
 | .bm f first=>some (.bm f (first.map L))
 | .snil neg x=>match L x with
   | .row ..=>some (.p (.bool neg))
   | _=>Option.none
 | .slc0 x=>match L x with
   | .row ..=>some (.p .nils)
   | .p .nils=>some (.p .nils)
   | .p (.sl ..)=>some (.p .nils)
   | _=>Option.none
 | _=>Option.none
def evHN(L:XO->HV):XOp->Option HV
 | .box x=>if (cellsH (L x)).all HV.one/\(cellsH (L x))≠[] then some (.nbox (cellsH (L x))) else Option.none
 | .bsl sz len z ps=>if len=0 then Option.none else (fillH L ((rep len z).map .p) ps).map fun cs=>.nrow sz len cs
 | _=>Option.none
def evHP(C:Calls')(L:XO->HV)(LP:XO->PV)(st:HSt):HOp->Option HV
 | .x o=>match evHX L st o with
   | some v=>some v
   | Option.none=>match evP C LP (fun _ _=>.none) o with
     | some v=>if v.loose||fresh v then some (.p v) else Option.none
     | Option.none=>evHN L o
 | o=>evHV L st o
abbrev HCalls:=Nat->List HV->HSt->Option (HV×HSt)
def setCellsH:List HV->Nat->List HV->List HV
 | cs,_,[]=>cs
 | cs,i,y::ys=>setCellsH (cs.set i y) (i+1) ys
def evHS(H:HCalls)(L:XO->HV)(st:HSt):HOp->Option (HV×HSt)
 | .x (.store sz a x)=>match L a with
   | .ptr b i=>if (cellsH (L x)).length=sz/\0<sz/\(cellsH (L x)).all HV.one then
      match st[b]? with
      | some (.box cs)=>if i+sz<=cs.length then some (.p .none,st.set b (.box (setCellsH cs i (cellsH (L x))))) else Option.none
      | some (.row z n cs)=>if i+sz<=cs.length then some (.p .none,st.set b (.row z n (setCellsH cs i (cellsH (L x))))) else Option.none
      | _=>Option.none
     else Option.none
   | _=>Option.none
 | .x (.app sz bytes s x)=>match L s with
   | .p .nils=>match slElems st (L x) with
     | some (n,cs)=>if n*sz=cs.length/\n*bytes<=lim/\n<=lim/\0<sz/\0<n/\cs.all HV.one then some (.row st.length 0 n sz,st++[.row sz n cs]) else Option.none
     | Option.none=>Option.none
   | .row a off len z=>match st[a]? with
     | some (.row sz' n cs)=>match slElems st (L x) with
       | some (m,new)=>if off=0/\sz'=sz/\z=sz/\len*sz<=cs.length/\m*sz=new.length/\(len+m)*bytes<=lim/\len+m<=lim/\0<sz/\new.all HV.one/\0<len+m then
          some (.row st.length 0 (len+m) sz,(st.set a .dead)++[.row sz (len+m) (cs.take (len*sz)++new)])
         else Option.none
       | _=>Option.none
     | _=>Option.none
   | _=>Option.none
 | .x (.call f args _)=>H f (args.map L) st
 | .x (.callv x args)=>match L x with
   | .fn f caps=>H f (args.map L++caps) st
   | .bm f first=>H f (first ++ args.map L) st
   | .p (.fn f caps)=>H f (args.map L++caps.map .p) st
   | _=>Option.none
 | .copy sz d x=>match L d with
   | .row a off len z=>match st[a]? with
     | some (.row sz' n cs)=>match slElems st (L x) with
       | some (m,new)=>if sz'=sz/\z=sz/\off+len*sz<=cs.length/\m*sz=new.length/\0<sz/\new.all HV.one then
          some (.p (.int .i64 ((min len m:Nat):Int)),st.set a (.row sz n (setCellsH cs off (new.take (min len m*sz)))))
         else Option.none
       | _=>Option.none
     | _=>Option.none
   | _=>Option.none
 | _=>Option.none
abbrev HS:=HEnv×HSt
def land1(s:HS)(t:Nat):HS:=
 match s.1.get t with
 | .p (.box cs)=>if fresh (.box cs) then (s.1.set t (.ptr s.2.length 0),s.2++[.box (cs.map .p)]) else s
 | .p (.own sz len cs)=>if fresh (.own sz len cs) then (s.1.set t (.row s.2.length 0 len sz),s.2++[.row sz len (cs.map .p)]) else s
 | .nbox cs=>(s.1.set t (.ptr s.2.length 0),s.2++[.box cs])
 | .nrow sz len cs=>(s.1.set t (.row s.2.length 0 len sz),s.2++[.row sz len cs])
 | _=>s
def hland:HS->List Nat->HS
 | s,[]=>s
 | s,t::r=>hland (land1 s t) r
def HOp.opds:HOp->List XO
 | .x o=>o.opds
 | .bm _ cs=>cs
 | .copy _ d s=>[d,s]
 | .snil _ y=>[y]
 | .slc0 y=>[y]
def HOp.temps(o:HOp):List Nat:=tempsO o.opds
def setH(e:HEnv):Option Nat->HV->HEnv
 | some d,v=>e.set d v
 | Option.none,_=>e
def stepHL(C:Calls')(H:HCalls)(s:HS)(o:HI):Option HS:=
 match evHP C (lookHG s.1.get) (lookPG s.1.get) s.2 o.op with
 | some v=>match o.dst with
   | some d=>some (s.1.set d v,s.2)
   | Option.none=>Option.none
 | Option.none=>match evHS H (lookHG s.1.get) s.2 o.op with
   | some (v,st)=>some (setH s.1 o.dst v,st)
   | Option.none=>Option.none
def stepH(C:Calls')(H:HCalls)(s:HS)(o:HI):Option HS:=
 match wantsG (fun t=>toP (s.1.get t)) o.guard with
 | some true=>stepHL C H (hland s o.op.temps) o
 | some false=>some (setH s.1 o.dst (.p (.tup [])),s.2)
 | Option.none=>Option.none
def stepsH(C:Calls')(H:HCalls):HS->List HI->Option HS
 | s,[]=>some s
 | s,o::r=>match stepH C H s o with
   | some s'=>stepsH C H s' r
   | Option.none=>Option.none
def stepHD(C:Calls')(st:HSt)(e:HEnv)(o:HI):Option (Nat×HV):=
 match o.dst with
 | some d=>match wantsG (fun t=>toP (e.get t)) o.guard with
   | some true=>(evHP C (lookHG e.get) (lookPG e.get) st o.op).map fun v=>(d,v)
   | some false=>some (d,.p (.tup []))
   | Option.none=>Option.none
 | Option.none=>Option.none
def traceHD(C:Calls')(H:HCalls):HS->List HI->Option (List HS)
 | s,[]=>some [s]
 | s,o::r=>if o.bar then (match stepH C H s o with
    | some s'=>(traceHD C H s' r).map (s :: ·)
    | Option.none=>Option.none)
   else match stepHD C s.2 s.1 o with
    | some (d,v)=>(traceHD C H (s.1.set d v,s.2) r).map (s :: ·)
    | Option.none=>Option.none
mutual
def eqPV:PV->PV->Bool
 | .none,.none=>true
 | .bool a,.bool b=>a==b
 | .int k a,.int k' b=>decide (k=k')&&a==b
 | .str a,.str b=>a==b
 | .nilp,.nilp=>true
 | .nils,.nils=>true
 | .nilf,.nilf=>true
 | .sl n cs,.sl m ds=>n==m&&eqPVL cs ds
 | .sp cs,.sp ds=>eqPVL cs ds
 | .agg cs,.agg ds=>eqPVL cs ds
 | .tup cs,.tup ds=>eqPVL cs ds
 | .fn f cs,.fn g ds=>f==g&&eqPVL cs ds
 | _,_=>false
def eqPVL:List PV->List PV->Bool
 | [],[]=>true
 | c::cs,d::ds=>eqPV c d&&eqPVL cs ds
 | _,_=>false
end
mutual
def eqHV:HV->HV->Bool
 | .p a,.p b=>eqPV a b
 | .ptr a i,.ptr b j=>a==b&&i==j
 | .row a o n z,.row b o' n' z'=>a==b&&o==o'&&n==n'&&z==z'
 | .mp a,.mp b=>a==b
 | .nilm,.nilm=>true
 | .agg cs,.agg ds=>eqHVL cs ds
 | .tup cs,.tup ds=>eqHVL cs ds
 | .fn f cs,.fn g ds=>f==g&&eqHVL cs ds
 | .bm f cs,.bm g ds=>f==g&&eqHVL cs ds
 | _,_=>false
def eqHVL:List HV->List HV->Bool
 | [],[]=>true
 | c::cs,d::ds=>eqHV c d&&eqHVL cs ds
 | _,_=>false
end
def eqHO:Option HV->Option HV->Bool
 | some a,some b=>eqHV a b
 | Option.none,Option.none=>true
 | _,_=>false
def readAt(st:HSt)(L:XO->HV):HOp->Option HV
 | .x (.load agg sz x)=>match L x with
   | .ptr a i=>match blkCells st a with
     | some cs=>partH agg i sz cs
     | Option.none=>Option.none
   | _=>Option.none
 | _=>Option.none
def stableOp(tr:List HS)(s:HS)(o:HI):Bool:=o.loose.all fun b=>match tr[b]?,tr[b+1]? with
 | some s1,some s2=>eqHO (readAt s1.2 (lookHG s.1.get) o.op) (readAt s2.2 (lookHG s.1.get) o.op)
 | _,_=>false
def stableAll(tr:List HS):List HS->List HI->Bool
 | s::ss,o::os=>stableOp tr s o&&stableAll tr ss os
 | _,_=>true
def isFresh:HV->Bool
 | .p v=>fresh v
 | .nbox _=>true
 | .nrow ..=>true
 | _=>false
def lastO:List HS->Option HS
 | []=>Option.none
 | [s]=>some s
 | _::r=>lastO r
def regHD(C:Calls')(H:HCalls)(s:HS)(ops:List HI):Option HS:=
 if (hland s (s.1.map (·.1))).1.all (fun x=>!isFresh x.2) then
  match traceHD C H (hland s (s.1.map (·.1))) ops with
  | some tr=>if stableAll tr tr ops then lastO tr else Option.none
  | Option.none=>Option.none
 else Option.none
def fgtH(k:List Nat)(x:Option (Ex×HS)):Option (Ex×HS):=
 match x with
 | some (.norm,s)=>some (.norm,(s.1.keep k,s.2))
 | r=>r
def evHC(C:Calls')(H:HCalls):Nat->HC->HS->Option (Ex×HS)
 | 0,_,_=>Option.none
 | n+1,c,s=>
   match c with
   | .skip=>some (.norm,s)
   | .reg ops draw keep=>((if draw then regHD C H s ops else stepsH C H s ops).map fun s'=>(.norm,(s'.1.keep keep,s'.2)))
   | .seq a b=>match evHC C H n a s with
     | some (.norm,s')=>evHC C H n b s'
     | r=>r
   | .cond x a b k=>fgtH k (match lookHG s.1.get x with
     | .p (.bool true)=>evHC C H n a s
     | .p (.bool false)=>evHC C H n b s
     | _=>Option.none)
   | .block id b k=>fgtH k (match evHC C H n b s with
     | some (.exit id',s')=>if id'=id then some (.norm,s') else some (.exit id',s')
     | r=>r)
   | .loop b k=>match fgtH k (evHC C H n b s) with
     | some (.norm,s')=>evHC C H n (.loop b k) s'
     | r=>r
   | .exit id k=>some (.exit id,(s.1.keep k,s.2))
   | .ret=>some (.ret,s)
def resT:XR->Nat
 | .tmp t=>t
 | .cell t _ _=>t
def resH1(s:HS):XR->Option HV
 | .tmp t=>some (vis (s.1.get t))
 | .cell t agg sz=>match s.1.get t with
   | .ptr a i=>match blkCells s.2 a with
     | some cs=>partH agg i sz cs
     | Option.none=>Option.none
   | _=>Option.none
def resHL(s:HS):List XR->Option (List HV)
 | []=>some []
 | x::r=>match resH1 s x,resHL s r with
   | some v,some vs=>some (v::vs)
   | _,_=>Option.none
def tupHOf:List HV->HV
 | [v]=>v
 | vs=>mkTup vs
def paramsH:Nat->List HV->HEnv
 | _,[]=>[]
 | i,v::r=>(i,v)::paramsH (i+1) r
def evHF(C:Calls')(K:HCalls)(T:Nat->Option HF):Nat->HCalls
 | 0,_,_,_=>Option.none
 | n+1,f,args,st=>
   match K f args st with
   | some r=>some r
   | Option.none=>match T f with
     | some x=>
       if args.length=x.np then
        match evHC C (evHF C K T n) n x.body (paramsH 0 args,st) with
        | some (.exit _,_)=>Option.none
        | some (_,s)=>(resHL (hland s (x.res.map resT)) x.res).map fun vs=>(tupHOf vs,(hland s (x.res.map resT)).2)
        | _=>Option.none
       else Option.none
     | _=>Option.none
open Go
def HK:Nat:=1073741824
abbrev AM:=List (Option (Nat×Nat×Nat))
inductive RepH (w:World) (L:LM) (A:AM):HV->Value->Prop
 | p (v:PV) (u:Value) (hl:v.loose=true) (H:RepV w L Option.none v u):RepH w L A (.p v) u
 | ptr (a i b j:Nat) (ha:a<A.length) (h:∀b' o m,A[a]? = some (some (b',o,m))->b=b'/\j=o+i):RepH w L A (.ptr a i) (.pointer (some ⟨b,j,Option.none⟩))
 | row (a off len sz b j cap:Nat) (ha:a<A.length) (hl:len<=cap) (h:∀b' o m,A[a]? = some (some (b',o,m))->b=b'/\j=o+off/\off+cap*sz<=m):
    RepH w L A (.row a off len sz) (.slice (some ⟨b,j,Option.none⟩) len cap)
 | mp (a b:Nat) (ha:a<A.length) (h:∀b' o m,A[a]? = some (some (b',o,m))->b=b'):RepH w L A (.mp a) (.map (some b))
 | nilm:RepH w L A .nilm (.map Option.none)
 | agg (cs:List HV) (vs:Array Value) (hz:vs.size=cs.length) (hc:∀i (hi:i<cs.length),RepH w L A cs[i] (vs.getD i undef)):RepH w L A (.agg cs) (.agg vs)
 | tup (cs:List HV) (vs:Array Value) (hz:vs.size=cs.length) (hc:∀i (hi:i<cs.length),RepH w L A cs[i] (vs.getD i undef)):RepH w L A (.tup cs) (.tuple vs)
 | fn (f:Nat) (caps:List HV) (vs:Array Value) (hz:vs.size=caps.length) (hc:∀i (hi:i<caps.length),RepH w L A caps[i] (vs.getD i undef)):RepH w L A (.fn f caps) (.func (.func f) #[] vs)
 | bm (f:Nat) (cs:List HV) (vs:Array Value) (hz:vs.size=cs.length) (hc:∀i (hi:i<cs.length),RepH w L A cs[i] (vs.getD i undef)):RepH w L A (.bm f cs) (.func (.func f) vs #[])
theorem RepH.none{w:World}{L:LM}{A:AM}(u:Value):RepH w L A (.p .none) u:=.p _ _ rfl (.none _ _)
structure Evo (w:World) (L:LM) (A:AM) (w':World) (L':LM) (A':AM):Prop where
 os:w'.os=w.os
 tape:w'.tape=w.tape
 output:w'.output=w.output
 size:w.heap.size<=w'.heap.size
 lab:∀b j,b<w.heap.size->(L b j = .out\/L b j = .sh)->L' b j=L b j
 blk:∀b,b<w.heap.size->(∃(a o m:Nat) (es:Array MapEntry) (c:Nat),A[a]? = some (some (b,o,m))/\w.heap[b]? = some (.map es c))\/SameBlk L b w.heap[b]? w'.heap[b]?
 len:A.length<=A'.length
 mono:∀a,a<A.length->A'[a]? = A[a]? \/ A'[a]? = some Option.none
 sub:∀(a b o m:Nat),A'[a]? = some (some (b,o,m))->b<w.heap.size->(∃a0 o0 m0:Nat,A[a0]? = some (some (b,o0,m0)))\/∃j r p i,L b j = .own r p i/\r<HK
theorem Evo.refl(w:World)(L:LM)(A:AM):Evo w L A w L A:=
 ⟨rfl,rfl,rfl,Nat.le_refl _,fun _ _ _ _=>rfl,fun _ _=>.inr (.refl _ _ _),Nat.le_refl _,fun _ _=>.inl rfl,fun a b o m h _=>.inl ⟨a,o,m,h⟩⟩
theorem SameBlk.map_back{L:LM}{b:Nat}{o:Option Obj}{es:Array MapEntry}{c:Nat}(h:SameBlk L b o (some (.map es c))):o=some (.map es c):=by
 cases o with
 | none=>cases h
 | some o=>cases o <;> first | (cases h;done) | exact h.symm
theorem Evo.trans{w w₁ w₂:World}{L L₁ L₂:LM}{A A₁ A₂:AM}(W:WF w L)(hA:∀b j r p i,L b j = .own r p i->HK<=r->∃a o m:Nat,A[a]? = some (some (b,o,m)))(h:Evo w L A w₁ L₁ A₁)(h':Evo w₁ L₁ A₁ w₂ L₂ A₂):Evo w L A w₂ L₂ A₂:=by
 have back:∀b,b<w.heap.size->((∃a0 o0 m0:Nat,A₁[a0]? = some (some (b,o0,m0)))\/∃j r p i,L₁ b j = .own r p i/\r<HK)->(∃a0 o0 m0:Nat,A[a0]? = some (some (b,o0,m0)))\/∃j r p i,L b j = .own r p i/\r<HK:=by
  rintro b hb (⟨a1,o1,m1,e1⟩|⟨j,r,p,i,e1,hr⟩)
  ·exact h.sub a1 b o1 m1 e1 hb
  ·cases e:L b j with
   | out=>rw[h.lab b j hb (.inl e),e] at e1;cases e1
   | sh=>rw[h.lab b j hb (.inr e),e] at e1;cases e1
   | own r' p' i'=>
     rcases Nat.lt_or_ge r' HK with h1|h1
     ·exact .inr ⟨j,r',p',i',e,h1⟩
     ·exact .inl (hA b j r' p' i' e h1)
 refine⟨h'.os.trans h.os,h'.tape.trans h.tape,h'.output.trans h.output,Nat.le_trans h.size h'.size,fun b j hb hl=>?_,fun b hb=>?_,Nat.le_trans h.len h'.len,fun a ha=>?_,fun a b o m e hb=>?_⟩
 ·have e:=h.lab b j hb hl
  rw[h'.lab b j (Nat.lt_of_lt_of_le hb h.size) (by rw[e];exact hl),e]
 ·rcases h.blk b hb with h1|h1
  ·exact .inl h1
  ·rcases h'.blk b (Nat.lt_of_lt_of_le hb h.size) with⟨a,o,m,es,c,e1,e2⟩|h2
   ·rw[e2] at h1
    have h1:=h1.map_back
    rcases h.sub a b o m e1 hb with⟨a0,o0,m0,e3⟩|⟨j,r,p,i,e3,_⟩
    ·exact .inl ⟨a0,o0,m0,es,c,e3,h1⟩
    ·exfalso
     obtain⟨v,hv⟩:=W.ex b j (by rw[e3];simp)
     simp[World.cell?,h1] at hv
   ·exact .inr (h1.trans h2 fun j hj=>h.lab b j hb hj)
 ·rcases h'.mono a (Nat.lt_of_lt_of_le ha h.len) with h2|h2
  ·rcases h.mono a ha with h1|h1
   ·exact .inl (h2.trans h1)
   ·exact .inr (h2.trans h1)
  ·exact .inr h2
 ·exact back b hb (h'.sub a b o m e (Nat.lt_of_lt_of_le hb h.size))
theorem Evo.sh{w w':World}{L L':LM}{A A':AM}(E:Evo w L A w' L' A')(W:WF w L){b j:Nat}(hl:L b j = .sh):w'.cell? ⟨b,j,Option.none⟩=w.cell? ⟨b,j,Option.none⟩:=by
 have hb:=W.lt (b:=b) (j:=j) (by simp[hl])
 obtain⟨v,hv⟩:=W.ex b j (by simp[hl])
 rcases E.blk b hb with⟨a,o,m,es,c,_,h⟩|h
 ·simp[World.cell?,h] at hv
 ·unfold World.cell? at hv ⊢
  cases e:w.heap[b]? with
  | none=>rw[e] at hv;cases hv
  | some o=>
    rw[e] at h
    cases o with
    | cells c t fr=>
      cases e':w'.heap[b]? with
      | none=>rw[e'] at h;cases h
      | some o'=>
        rw[e'] at h
        cases o' with
        | cells c' t' fr'=>simpa using h.2.2.2 j (.inr hl)
        | _=>cases h
    | _=>rw[e] at hv;cases hv
theorem RepV.evo{w w':World}{L L':LM}{A A':AM}(E:Evo w L A w' L' A')(W:WF w L){v:PV}{u:Value}(H:RepV w L Option.none v u)(hl:refs v=[]):RepV w' L' Option.none v u:=
 H.frame (fun b j hr=>E.lab b j (W.lt (j:=j) (by simp[hr.shared])) (.inr hr.shared)) (fun q hq=>by rw[hl] at hq;cases hq) fun b j hr=>E.sh W hr.shared
theorem loose_refs{v:PV}(h:v.loose=true):refs v=[]:=by
 simp only[PV.loose,Bool.and_eq_true,List.isEmpty_iff] at h;exact h.2
theorem loose_noOwn{v:PV}(h:v.loose=true):noOwn v=true:=by
 simp only[PV.loose,Bool.and_eq_true] at h;exact h.1
theorem free_loose{v:PV}(h:v.free=true):v.loose=true:=by
 simp[PV.loose,free_noOwn h,free_refs h]
theorem RepH.evo{w w':World}{L L':LM}{A A':AM}(E:Evo w L A w' L' A')(W:WF w L){v:HV}{u:Value}(H:RepH w L A v u):RepH w' L' A' v u:=by
 have live:∀{a:Nat} {x:Nat×Nat×Nat},a<A.length->A'[a]? = some (some x)->A[a]? = some (some x):=fun {a x} ha e=>by
  rcases E.mono a ha with h1|h1
  ·rw[←h1];exact e
  ·rw[h1] at e;cases e
 induction H with
 | p v u hl H=>exact .p _ _ hl (H.evo E W (loose_refs hl))
 | ptr a i b j ha h=>exact .ptr _ _ _ _ (Nat.lt_of_lt_of_le ha E.len) fun b' o m e=>h b' o m (live ha e)
 | row a off len sz b j cap ha hl h=>exact .row _ _ _ _ _ _ _ (Nat.lt_of_lt_of_le ha E.len) hl fun b' o m e=>h b' o m (live ha e)
 | mp a b ha h=>exact .mp _ _ (Nat.lt_of_lt_of_le ha E.len) fun b' o m e=>h b' o m (live ha e)
 | nilm=>exact .nilm
 | agg cs vs hz hc ih=>exact .agg _ _ hz ih
 | tup cs vs hz hc ih=>exact .tup _ _ hz ih
 | fn f caps vs hz hc ih=>exact .fn _ _ _ hz ih
 | bm f caps vs hz hc ih=>exact .bm _ _ _ hz ih
theorem allP_some{cs:List HV}{vs:List PV}(h:allP cs=some vs):cs=vs.map .p:=by
 induction cs generalizing vs with
 | nil=>simp[allP] at h;subst h;rfl
 | cons c cs ih=>
   cases c <;> simp only[allP,Option.map_eq_some_iff,reduceCtorEq] at h
   obtain⟨ws,hw,rfl⟩:=h
   rw[ih hw];rfl
theorem RepH.pv{w:World}{L:LM}{A:AM}{v:PV}{u:Value}(H:RepH w L A (.p v) u):v.loose=true/\RepV w L Option.none v u:=by
 cases H with | p _ _ hl H=>exact⟨hl,H⟩
theorem refsL_loose{cs:List PV}(h:∀c∈cs,c.loose=true):refsL cs=[]/\noOwnL cs=true:=by
 induction cs with
 | nil=>exact⟨rfl,rfl⟩
 | cons c cs ih=>
   obtain⟨h1,h2⟩:=ih fun c hc=>h c (by simp[hc])
   have h0:=h c (by simp)
   exact⟨by simp[refsL,loose_refs h0,h1],by simp[noOwnL,loose_noOwn h0,h2]⟩
theorem RepH.mkAgg{w:World}{L:LM}{A:AM}{cs:List HV}{vs:Array Value}(hz:vs.size=cs.length)(hc:∀i (hi:i<cs.length),RepH w L A cs[i] (vs.getD i undef)):RepH w L A (mkAgg cs) (.agg vs):=by
 unfold Ab.mkAgg
 split
 ·rename_i ps h
  have e:=allP_some h
  subst e
  have hcs:∀i (hi:i<ps.length),ps[i].loose=true/\RepV w L Option.none ps[i] (vs.getD i undef):=fun i hi=>by
   have:=hc i (by simpa using hi)
   simp only[List.getElem_map] at this
   exact this.pv
  obtain⟨h1,h2⟩:=refsL_loose (cs:=ps) fun c hc=>by
   obtain⟨i,hi,rfl⟩:=List.getElem_of_mem hc
   exact (hcs i hi).1
  exact .p _ _ (by simp[PV.loose,noOwn,refs,h1,h2]) (.agg _ _ _ (by simpa using hz) fun i hi=>(hcs i hi).2)
 ·exact .agg _ _ hz hc
theorem RepH.mkTup{w:World}{L:LM}{A:AM}{cs:List HV}{vs:Array Value}(hz:vs.size=cs.length)(hc:∀i (hi:i<cs.length),RepH w L A cs[i] (vs.getD i undef)):RepH w L A (mkTup cs) (.tuple vs):=by
 unfold Ab.mkTup
 split
 ·rename_i ps h
  have e:=allP_some h
  subst e
  have hcs:∀i (hi:i<ps.length),ps[i].loose=true/\RepV w L Option.none ps[i] (vs.getD i undef):=fun i hi=>by
   have:=hc i (by simpa using hi)
   simp only[List.getElem_map] at this
   exact this.pv
  obtain⟨h1,h2⟩:=refsL_loose (cs:=ps) fun c hc=>by
   obtain⟨i,hi,rfl⟩:=List.getElem_of_mem hc
   exact (hcs i hi).1
  exact .p _ _ (by simp[PV.loose,noOwn,refs,h1,h2]) (.tup _ _ _ (by simpa using hz) fun i hi=>(hcs i hi).2)
 ·exact .tup _ _ hz hc
theorem RepH.cells{w:World}{L:LM}{A:AM}{v:HV}{u:Value}(H:RepH w L A v u)(h1:(cellsH v).all HV.one=true):
 u.cells.size=(cellsH v).length/\∀i (hi:i<(cellsH v).length),RepH w L A (cellsH v)[i] (u.cells.getD i undef):=by
 have one:∀{v:HV} {u:Value},RepH w L A v u->cellsH v=[v]->u.cells=#[u]->u.cells.size=(cellsH v).length/\∀i (hi:i<(cellsH v).length),RepH w L A (cellsH v)[i] (u.cells.getD i undef):=by
  intro v u H e1 e2
  rw[e2]
  refine⟨by simp[e1],fun i hi=>?_⟩
  have:i=0:=by rw[e1] at hi;simpa using hi
  subst this
  simpa[e1] using H
 cases H with
 | p v u hl H=>
   cases H with
   | agg _ cs vs hz hc=>
     have hcs:∀c∈cs,c.loose=true:=fun c hc=>by
      simp only[PV.loose,noOwn,refs,Bool.and_eq_true,List.isEmpty_iff] at hl
      obtain⟨i,hi,rfl⟩:=List.getElem_of_mem hc
      simp only[PV.loose,noOwnL_get hl.1 i hi,Bool.true_and,List.isEmpty_iff]
      exact List.eq_nil_iff_forall_not_mem.2 fun q hq=>by have:=mem_refsL i hi hq;rw[hl.2] at this;cases this
     refine⟨by simp[cellsH,Ab.cells,Value.cells,hz],fun i hi=>?_⟩
     simp only[cellsH,Ab.cells,Value.cells,List.getElem_map]
     exact .p _ _ (hcs _ (List.getElem_mem _)) (hc i (by simpa[cellsH,Ab.cells] using hi))
   | none=>simp[cellsH,Ab.cells,HV.one] at h1
   | tup=>simp[cellsH,Ab.cells,HV.one] at h1
   | bool=>exact one (.p _ _ hl (.bool _ _)) rfl rfl
   | int=>exact one (.p _ _ hl (.int _ _ _)) rfl rfl
   | str _ s l e=>exact one (.p _ _ hl (.str _ _ _ e)) rfl rfl
   | nilp=>exact one (.p _ _ hl (.nilp _)) rfl rfl
   | nils=>exact one (.p _ _ hl (.nils _ _)) rfl rfl
   | nilf=>exact one (.p _ _ hl (.nilf _)) rfl rfl
   | ref _ r p i n b j hp e=>simp[PV.loose,refs] at hl
   | view _ r p off len sz b cap hl' hp e=>simp[PV.loose,refs] at hl
   | sl _ len cs b o cap hl' hs hk hc=>exact one (.p _ _ hl (.sl _ _ _ _ _ _ hl' hs hk hc)) rfl rfl
   | sl0=>exact one (.p _ _ hl (.sl0 _ _ _)) rfl rfl
   | sp _ cs b o hs hk hc=>exact one (.p _ _ hl (.sp _ _ _ _ hs hk hc)) rfl rfl
   | fn _ f caps vs hz hc=>exact one (.p _ _ hl (.fn _ _ _ _ hz hc)) rfl rfl
 | ptr a i b j ha h=>exact one (.ptr _ _ _ _ ha h) rfl rfl
 | row a off len sz b j cap ha hl h=>exact one (.row _ _ _ _ _ _ _ ha hl h) rfl rfl
 | mp a b ha h=>exact one (.mp _ _ ha h) rfl rfl
 | nilm=>exact one .nilm rfl rfl
 | agg cs vs hz hc=>exact⟨by simp[cellsH,Value.cells,hz],fun i hi=>hc i hi⟩
 | tup cs vs hz hc=>simp[cellsH,HV.one] at h1
 | fn f caps vs hz hc=>exact one (.fn _ _ _ hz hc) rfl rfl
 | bm f caps vs hz hc=>exact one (.bm _ _ _ hz hc) rfl rfl
theorem RepH.one{w:World}{L:LM}{A:AM}{v:HV}{u:Value}(H:RepH w L A v u)(h1:v.one=true):u.oneCell'=true:=by
 cases H with
 | p v u hl H=>cases H<;>simp_all [HV.one,Value.oneCell',PV.loose,noOwn,refs]
 | _=>simp_all [HV.one,Value.oneCell']
def CellsOk(w:World)(L:LM)(A:AM)(a b o m:Nat)(cs:List HV):Prop:=
 (∀i,i<m->L b (o+i) = .own (a+HK) [] i)/\cs.length<=m/\∀i (hi:i<cs.length),RepH w L A cs[i] (cv w b (o+i))
def BlkOk(w:World)(L:LM)(A:AM)(a b o m:Nat):HB->Prop
 | .dead=>False
 | .box cs=>m=cs.length/\CellsOk w L A a b o m cs
 | .row sz len cs=>o=0/\cs.length=len*sz/\0<m/\CellsOk w L A a b o m cs
 | .map ks vs=>m=0/\∃es c,w.heap[b]? = some (.map es c)/\es.size=ks.length/\ks.length=vs.length /\
    (∀i (hi:i<ks.length) (e:MapEntry),es[i]? = some e->ks[i].free=true/\RepV w L Option.none ks[i] e.key)/\∀i (hi:i<vs.length) (e:MapEntry),es[i]? = some e->RepH w L A vs[i] e.val
structure HOk (w:World) (L:LM) (A:AM) (st:HSt):Prop where
 wf:WF w L
 len:A.length=st.length
 lab:∀b j r p i,L b j = .own r p i->HK<=r->p=[]/\∃a o m:Nat,r=a+HK/\A[a]? = some (some (b,o,m))/\j=o+i/\i<m
 live:∀(a:Nat) (k:HB),st[a]? = some k->k ≠ .dead->∃x,A[a]? = some (some x)
 blk:∀(a b o m:Nat) (k:HB),A[a]? = some (some (b,o,m))->st[a]? = some k->b<w.heap.size/\BlkOk w L A a b o m k
 uniq:∀(a a' b o m o' m':Nat) (ks:List PV) (vs:List HV),A[a]? = some (some (b,o,m))->A[a']? = some (some (b,o',m'))->st[a]? = some (HB.map ks vs)->a'=a
open Go
mutual
def ids:HV->List Nat
 | .ptr a _=>[a]
 | .row a _ _ _=>[a]
 | .mp a=>[a]
 | .agg cs=>idsL cs
 | .tup cs=>idsL cs
 | .fn _ cs=>idsL cs
 | .bm _ cs=>idsL cs
 | .nbox cs=>idsL cs
 | .nrow _ _ cs=>idsL cs
 | .p _=>[]
 | .nilm=>[]
def idsL:List HV->List Nat
 | []=>[]
 | c::cs=>ids c++idsL cs
end
theorem mem_idsL{cs:List HV}{q:Nat}:q∈idsL cs↔∃c∈cs,q∈ids c:=by
 induction cs with
 | nil=>simp[idsL]
 | cons c cs ih=>simp[idsL,ih]
def vals:HB->List HV
 | .dead=>[]
 | .box cs=>cs
 | .row _ _ cs=>cs
 | .map _ vs=>vs
theorem RepH.lt{w:World}{L:LM}{A:AM}{v:HV}{u:Value}(H:RepH w L A v u):∀q∈ids v,q<A.length:=by
 induction H with
 | p=>simp[ids]
 | ptr a i b j ha h=>simpa[ids] using ha
 | row a off len sz b j cap ha hl h=>simpa[ids] using ha
 | mp a b ha h=>simpa[ids] using ha
 | nilm=>simp[ids]
 | agg cs vs hz hc ih=>intro q hq;simp only[ids] at hq;obtain⟨c,hc',hq⟩:=mem_idsL.1 hq;obtain⟨i,hi,rfl⟩:=List.getElem_of_mem hc';exact ih i hi q hq
 | tup cs vs hz hc ih=>intro q hq;simp only[ids] at hq;obtain⟨c,hc',hq⟩:=mem_idsL.1 hq;obtain⟨i,hi,rfl⟩:=List.getElem_of_mem hc';exact ih i hi q hq
 | fn f cs vs hz hc ih=>intro q hq;simp only[ids] at hq;obtain⟨c,hc',hq⟩:=mem_idsL.1 hq;obtain⟨i,hi,rfl⟩:=List.getElem_of_mem hc';exact ih i hi q hq
 | bm f cs vs hz hc ih=>intro q hq;simp only[ids] at hq;obtain⟨c,hc',hq⟩:=mem_idsL.1 hq;obtain⟨i,hi,rfl⟩:=List.getElem_of_mem hc';exact ih i hi q hq
theorem RepH.place{w:World}{L:LM}{A A':AM}{v:HV}{u:Value}(H:RepH w L A v u)(hl:A.length<=A'.length)(he:∀q∈ids v,A'[q]? = A[q]?):RepH w L A' v u:=by
 induction H with
 | p v u h1 h2=>exact .p _ _ h1 h2
 | ptr a i b j ha h=>exact .ptr _ _ _ _ (by omega) fun b' o m e=>h b' o m (by rw[←he a (by simp[ids])];exact e)
 | row a off len sz b j cap ha hl h=>exact .row _ _ _ _ _ _ _ (by omega) hl fun b' o m e=>h b' o m (by rw[←he a (by simp[ids])];exact e)
 | mp a b ha h=>exact .mp _ _ (by omega) fun b' o m e=>h b' o m (by rw[←he a (by simp[ids])];exact e)
 | nilm=>exact .nilm
 | agg cs vs hz hc ih=>exact .agg _ _ hz fun i hi=>ih i hi fun q hq=>he q (by simp only[ids];exact mem_idsL.2 ⟨_,List.getElem_mem hi,hq⟩)
 | tup cs vs hz hc ih=>exact .tup _ _ hz fun i hi=>ih i hi fun q hq=>he q (by simp only[ids];exact mem_idsL.2 ⟨_,List.getElem_mem hi,hq⟩)
 | fn f cs vs hz hc ih=>exact .fn _ _ _ hz fun i hi=>ih i hi fun q hq=>he q (by simp only[ids];exact mem_idsL.2 ⟨_,List.getElem_mem hi,hq⟩)
 | bm f cs vs hz hc ih=>exact .bm _ _ _ hz fun i hi=>ih i hi fun q hq=>he q (by simp only[ids];exact mem_idsL.2 ⟨_,List.getElem_mem hi,hq⟩)
theorem CellsOk.mono{w w':World}{L L':LM}{A A':AM}{a b o m:Nat}{cs:List HV}(H:CellsOk w L A a b o m cs)(hlab:∀i,i<m->L' b (o+i)=L b (o+i))
 (hcell:∀i,i<m->w'.cell? ⟨b,o+i,Option.none⟩=w.cell? ⟨b,o+i,Option.none⟩)(hR:∀v∈cs,∀u,RepH w L A v u->RepH w' L' A' v u):CellsOk w' L' A' a b o m cs:=
 ⟨fun i hi=>by rw[hlab i hi];exact H.1 i hi,H.2.1,fun i hi=>by
   have:=H.2.1
   rw[cv_eq (hcell i (by omega))];exact hR _ (List.getElem_mem hi) _ (H.2.2 i hi)⟩
theorem BlkOk.mono{w w':World}{L L':LM}{A A':AM}{a b o m:Nat}{k:HB}(H:BlkOk w L A a b o m k)(hlab:∀i,i<m->L' b (o+i)=L b (o+i))
 (hcell:∀i,i<m->w'.cell? ⟨b,o+i,Option.none⟩=w.cell? ⟨b,o+i,Option.none⟩)(hmap:∀es c,w.heap[b]? = some (.map es c)->w'.heap[b]? = some (.map es c))
 (hR:∀v∈vals k,∀u,RepH w L A v u->RepH w' L' A' v u)(hP:∀v u,v.free=true->RepV w L Option.none v u->RepV w' L' Option.none v u):BlkOk w' L' A' a b o m k:=by
 cases k with
 | dead=>exact H
 | box cs=>exact⟨H.1,H.2.mono hlab hcell hR⟩
 | row sz len cs=>exact⟨H.1,H.2.1,H.2.2.1,H.2.2.2.mono hlab hcell hR⟩
 | map ks vs=>
   obtain⟨h1,es,c,h2,h3,h4,h5,h6⟩:=H
   exact⟨h1,es,c,hmap _ _ h2,h3,h4,fun i hi e he=>⟨(h5 i hi e he).1,hP _ _ (h5 i hi e he).1 (h5 i hi e he).2⟩,fun i hi e he=>hR _ (List.getElem_mem hi) _ (h6 i hi e he)⟩
theorem Ext.map{w w':World}{L L':LM}(E:Ext w L w' L'){b:Nat}{es:Array MapEntry}{c:Nat}(h:w.heap[b]? = some (.map es c)):w'.heap[b]? = some (.map es c):=by
 have hb:b<w.heap.size:=by
  rcases Nat.lt_or_ge b w.heap.size with h'|h'
  ·exact h'
  ·rw[Array.getElem?_eq_none h'] at h;cases h
 have:=E.blk b hb
 rw[h] at this
 exact this
def Lab.big:Lab->Prop
 | .own r _ _=>HK<=r
 | .sh=>True
 | .out=>False
structure Go1 (w:World) (L:LM) (w':World) (L':LM):Prop where
 wf:WF w' L'
 ext:Ext w L w' L'
 lab:∀b j,(L b j).big->L' b j=L b j
 cell:∀b j,(L b j).big->w'.cell? ⟨b,j,Option.none⟩=w.cell? ⟨b,j,Option.none⟩
structure Keep (d:Option Nat) (w:World) (L:LM) (w':World) (L':LM):Prop where
 lab:∀b j r p i,L b j = .own r p i->r<HK->d≠some r->L' b j=L b j
 cell:∀b j r p i,L b j = .own r p i->r<HK->d≠some r->w'.cell? ⟨b,j,Option.none⟩=w.cell? ⟨b,j,Option.none⟩
theorem Keep.refl(d:Option Nat)(w:World)(L:LM):Keep d w L w L:=⟨fun _ _ _ _ _ _ _ _=>rfl,fun _ _ _ _ _ _ _ _=>rfl⟩
theorem Keep.trans{d:Option Nat}{w w₁ w₂:World}{L L₁ L₂:LM}(h:Keep d w L w₁ L₁)(h':Keep d w₁ L₁ w₂ L₂):Keep d w L w₂ L₂:=
 ⟨fun b j r p i e hr hd=>by
   have e1:=h.lab b j r p i e hr hd
   rw[h'.lab b j r p i (by rw[e1,e]) hr hd,e1],
  fun b j r p i e hr hd=>by
   have e1:=h.lab b j r p i e hr hd
   rw[h'.cell b j r p i (by rw[e1,e]) hr hd,h.cell b j r p i e hr hd]⟩
def NewOk(w:World)(L:LM)(A:AM)(t:Nat):HV->Value->Prop
 | .nbox cs,u=>cs≠[]/\∃b o,u = .pointer (some ⟨b,o,Option.none⟩)/\∀i (hi:i<cs.length),L b (o+i) = .own t [] i/\RepH w L A cs[i] (cv w b (o+i))
 | .nrow sz len cs,u=>∃b cap,u = .slice (some ⟨b,0,Option.none⟩) len cap/\cs.length=len*sz/\len<=cap/\0<cap*sz/\(∀j,j<cap*sz->L b j = .own t [] j)/\∀i (hi:i<cs.length),RepH w L A cs[i] (cv w b i)
 | _,_=>False
def RepS(w:World)(L:LM)(A:AM)(t:Nat)(v:HV)(u:Value):Prop:=
 RepH w L A v u\/(∃pv,v = .p pv/\fresh pv=true/\RepV w L (some (t,[])) pv u)\/NewOk w L A t v u
theorem fresh_not_loose{v:PV}(h:fresh v=true):v.loose=false:=by
 cases v<;>simp_all [fresh,PV.loose,noOwn]
theorem fresh_refs{v:PV}(h:fresh v=true):refs v=[]:=by
 cases v<;>simp_all [fresh,refs]
section
variable {w w':World} {L L':LM} {A A':AM} {st:HSt}
theorem RepS.vis{t:Nat}{v:HV}{u:Value}(H:RepS w L A t v u):RepH w L A (vis v) u:=by
 rcases H with H|⟨pv,rfl,hf,H⟩|H
 ·cases H with
  | p v u hl H=>simp only[Ab.vis,hl,if_true];exact .p _ _ hl H
  | ptr a i b j ha h=>exact .ptr _ _ _ _ ha h
  | row a off len sz b j cap ha hl h=>exact .row _ _ _ _ _ _ _ ha hl h
  | mp a b ha h=>exact .mp _ _ ha h
  | nilm=>exact .nilm
  | agg cs vs hz hc=>exact .agg _ _ hz hc
  | tup cs vs hz hc=>exact .tup _ _ hz hc
  | fn f caps vs hz hc=>exact .fn _ _ _ hz hc
  | bm f caps vs hz hc=>exact .bm _ _ _ hz hc
 ·simp only[Ab.vis,fresh_not_loose hf]
  exact .none _
 ·cases v <;> first | (exact .none _) | exact H.elim
theorem RepS.keep{d:Option Nat}(E:Evo w L A w' L' A')(K:Keep d w L w' L')(W:WF w L){t:Nat}(ht:t<HK)(hd:d≠some t){v:HV}{u:Value}(H:RepS w L A t v u):RepS w' L' A' t v u:=by
 rcases H with H|⟨pv,rfl,hf,H⟩|H
 ·exact .inl (H.evo E W)
 ·refine .inr (.inl ⟨pv,rfl,hf,H.frame (fun b j hr=>?_) (fun q hq=>by rw[fresh_refs hf] at hq;cases hq) fun b j hr=>?_⟩)
  ·rcases hr with hr|⟨r,p,s,i,he,hl⟩
   ·exact E.lab b j (W.lt (j:=j) (by simp[hr])) (.inr hr)
   ·simp only[Option.some.injEq,Prod.mk.injEq] at he
    obtain⟨rfl,rfl⟩:=he
    exact K.lab _ _ _ _ _ hl ht hd
  ·rcases hr with hr|⟨r,p,s,i,he,hl⟩
   ·exact E.sh W hr
   ·simp only[Option.some.injEq,Prod.mk.injEq] at he
    obtain⟨rfl,rfl⟩:=he
    exact K.cell _ _ _ _ _ hl ht hd
 ·refine .inr (.inr ?_)
  cases v with
  | nbox cs=>
    obtain⟨h0,b,o,h1,h2⟩:=H
    refine⟨h0,b,o,h1,fun i hi=>?_⟩
    obtain⟨h3,h4⟩:=h2 i hi
    refine⟨by rw[K.lab _ _ _ _ _ h3 ht hd,h3],?_⟩
    rw[cv_eq (K.cell _ _ _ _ _ h3 ht hd)]
    exact h4.evo E W
  | nrow sz len cs=>
    obtain⟨b,cap,h1,h2,h3,h4,h5,h6⟩:=H
    refine⟨b,cap,h1,h2,h3,h4,fun j hj=>by rw[K.lab _ _ _ _ _ (h5 j hj) ht hd,h5 j hj],fun i hi=>?_⟩
    have hle:cs.length<=cap*sz:=by rw[h2];exact Nat.mul_le_mul_right _ h3
    rw[cv_eq (K.cell _ _ _ _ _ (h5 i (by omega)) ht hd)]
    exact (h6 i hi).evo E W
  | _=>exact H.elim
theorem HOk.evo_grow(O:HOk w L A st)(G:Go1 w L w' L'):Evo w L A w' L' A:=
 ⟨G.ext.os,G.ext.tape,G.ext.output,G.ext.size,G.ext.lab,fun b hb=>.inr (G.ext.blk b hb),Nat.le_refl _,fun _ _=>.inl rfl,fun a b o m h _=>.inl ⟨a,o,m,h⟩⟩
theorem BlkOk.big{w:World}{L:LM}{A:AM}{a b o m:Nat}{k:HB}(h:BlkOk w L A a b o m k){i:Nat}(hi:i<m):L b (o+i) = .own (a+HK) [] i:=by
 cases k with
 | dead=>exact h.elim
 | box cs=>exact h.2.1 i hi
 | row sz len cs=>exact h.2.2.2.1 i hi
 | map ks vs=>have:=h.1;omega
theorem BlkOk.go{w w':World}{L L':LM}{A A':AM}{st:HSt}(O:HOk w L A st)(G:Go1 w L w' L'){a b o m:Nat}{k:HB}(h:BlkOk w L A a b o m k)(hle:A.length<=A'.length)(he:∀v∈vals k,∀q∈ids v,A'[q]? = A[q]?):BlkOk w' L' A' a b o m k:=by
 have E:=O.evo_grow G
 have big:∀i,i<m->(L b (o+i)).big:=fun i hi=>by rw[h.big hi];exact Nat.le_add_left _ _
 exact h.mono (fun i hi=>G.lab _ _ (big i hi)) (fun i hi=>G.cell _ _ (big i hi)) (fun es c h=>G.ext.map h) (fun v hv u H=>(H.evo E O.wf).place hle (he v hv)) fun v u hf H=>H.evo E O.wf (free_refs hf)
theorem HOk.grow(O:HOk w L A st)(G:Go1 w L w' L')(hl:∀b j r p i,L' b j = .own r p i->HK<=r->L b j = .own r p i):HOk w' L' A st where
 wf:=G.wf
 len:=O.len
 live:=O.live
 lab b j r p i h hr:=O.lab b j r p i (hl b j r p i h hr) hr
 blk a b o m k hA hk:=by
  obtain⟨h1,h2⟩:=O.blk a b o m k hA hk
  exact⟨Nat.lt_of_lt_of_le h1 G.ext.size,h2.go O G (Nat.le_refl _) fun _ _ _ _=>rfl⟩
 uniq:=O.uniq
theorem HOk.ids_lt(O:HOk w L A st){a:Nat}{k:HB}(h:st[a]? = some k):∀v∈vals k,∀q∈ids v,q<A.length:=by
 intro v hv q hq
 have hk:k ≠ .dead:=by rintro rfl;simp[vals] at hv
 obtain⟨⟨b,o,m⟩,hx⟩:=O.live a k h hk
 obtain⟨_,h2⟩:=O.blk a b o m k hx h
 cases k with
 | dead=>simp[vals] at hv
 | box cs=>
   obtain⟨i,hi,rfl⟩:=List.getElem_of_mem hv
   exact (h2.2.2.2 i hi).lt q hq
 | row sz len cs=>
   obtain⟨i,hi,rfl⟩:=List.getElem_of_mem hv
   exact (h2.2.2.2.2.2 i hi).lt q hq
 | map ks vs=>
   obtain⟨_,es,c,_,h3,h4,_,h6⟩:=h2
   obtain⟨i,hi,rfl⟩:=List.getElem_of_mem hv
   have hi':i<es.size:=by simp only[vals] at hi;omega
   exact (h6 i hi es[i] (by simp[hi'])).lt q hq
theorem getElem?_snoc{α:Type}(l:List α)(x:α)(i:Nat):(l++[x])[i]? = if i=l.length then some x else l[i]?:=by
 by_cases h:i=l.length
 ·subst h;simp
 ·rw[if_neg h]
  rcases Nat.lt_or_ge i l.length with h'|h'
  ·rw[List.getElem?_append_left h']
  ·rw[List.getElem?_eq_none (by simp;omega),List.getElem?_eq_none h']
theorem HOk.push(O:HOk w L A st)(G:Go1 w L w' L'){b o m:Nat}{k:HB}(hb:∀(a o m:Nat) (ks:List PV) (vs:List HV),A[a]? = some (some (b,o,m))->st[a]? ≠ some (HB.map ks vs))(hb2:∀ks vs,k=HB.map ks vs->∀(a o m:Nat),A[a]? ≠ some (some (b,o,m)))(hb':b<w'.heap.size)
 (hl:∀b' j r p i,L' b' j = .own r p i->HK<=r->L b' j = .own r p i\/(b'=b/\r=A.length+HK/\p=[]/\j=o+i/\i<m))
 (hk:BlkOk w' L' (A++[some (b,o,m)]) A.length b o m k):HOk w' L' (A++[some (b,o,m)]) (st++[k]) where
 wf:=G.wf
 len:=by simp[O.len]
 lab b1 j r p i h hr:=by
  rcases hl b1 j r p i h hr with h|⟨rfl,rfl,rfl,h1,h2⟩
  ·obtain⟨h1,a,o1,m1,h2,h3,h4⟩:=O.lab _ _ _ _ _ h hr
   have:a≠A.length:=by rintro rfl;simp at h3
   exact⟨h1,a,o1,m1,h2,by rw[getElem?_snoc,if_neg this];exact h3,h4⟩
  ·exact⟨rfl,A.length,o,m,rfl,by simp,h1,h2⟩
 live a k' h hk':=by
  rw[getElem?_snoc] at h
  rw[getElem?_snoc]
  split at h
  ·rename_i ha
   rw[if_pos (by rw[O.len];exact ha)];exact⟨_,rfl⟩
  ·rename_i ha
   rw[if_neg (by rw[O.len];exact ha)];exact O.live a k' h hk'
 blk a b1 o1 m1 k1 hA hk1:=by
  rw[getElem?_snoc] at hA hk1
  rw[←O.len] at hk1
  by_cases ha:a=A.length
  ·rw[if_pos ha] at hA hk1
   simp only[Option.some.injEq,Prod.mk.injEq] at hA hk1
   obtain⟨rfl,rfl,rfl⟩:=hA
   subst hk1;subst ha
   exact⟨hb',hk⟩
  ·rw[if_neg ha] at hA hk1
   obtain⟨h1,h2⟩:=O.blk a b1 o1 m1 k1 hA hk1
   refine⟨Nat.lt_of_lt_of_le h1 G.ext.size,h2.go O G (by simp) fun v hv q hq=>?_⟩
   rw[getElem?_snoc,if_neg (Nat.ne_of_lt (O.ids_lt hk1 v hv q hq))]
 uniq a a' b1 o1 m1 o2 m2 ks vs h1 h2 h3:=by
  rw[getElem?_snoc] at h1 h2 h3
  rw[←O.len] at h3
  by_cases ha:a=A.length
  ·by_cases ha':a'=A.length
   ·omega
   ·rw[if_pos ha] at h1 h3;rw[if_neg ha'] at h2
    simp only[Option.some.injEq,Prod.mk.injEq] at h1 h3
    obtain⟨rfl,_,_⟩:=h1
    exact absurd h2 (hb2 _ _ h3 _ _ _)
  ·by_cases ha':a'=A.length
   ·rw[if_pos ha'] at h2;rw[if_neg ha] at h1 h3
    simp only[Option.some.injEq,Prod.mk.injEq] at h2
    obtain⟨rfl,_,_⟩:=h2
    exact absurd h3 (hb _ _ _ _ _ h1)
   ·rw[if_neg ha] at h1 h3;rw[if_neg ha'] at h2
    exact O.uniq a a' b1 o1 m1 o2 m2 ks vs h1 h2 h3
theorem Evo.push(E:Evo w L A w' L' A){b o m:Nat}(hb:w.heap.size<=b\/(∃(a o m:Nat),A[a]? = some (some (b,o,m)))\/∃j r p i,L b j = .own r p i/\r<HK):Evo w L A w' L' (A++[some (b,o,m)]):=
 ⟨E.os,E.tape,E.output,E.size,E.lab,E.blk,by simp,fun a ha=>.inl (by rw[getElem?_snoc,if_neg (Nat.ne_of_lt ha)]),fun a b1 o1 m1 h h1=>by
   rw[getElem?_snoc] at h
   split at h
   ·simp only[Option.some.injEq,Prod.mk.injEq] at h
    obtain⟨rfl,_,_⟩:=h
    rcases hb with hb|hb
    ·omega
    ·exact hb
   ·exact .inl ⟨a,o1,m1,h⟩⟩
end
structure HInv (n:Nat) (w:World) (L:LM) (A:AM) (st:HSt) (a:Act) (g:Nat->HV):Prop where
 ok:HOk w L A st
 rep:∀t,RepS w L A t (g t) (a.eval (.tmp t))
 df:a.defers=[]
 sz:a.tmps.size=n
 dom:∀t,n<=t->g t = .p .none
def HStep(P:Program)(n:Nat)(o:Oper)(a:Act)(w:World)(L:LM)(A:AM)(g':Nat->HV)(st':HSt)(Q:Exit->Act->World->Prop):Prop:=
 o.wp P a w (fun a' w'=>∃L' A',HInv n w' L' A' st' a' g'/\Evo w L A w' L' A') Q
def ValH(P:Program)(o:Oper)(a:Act)(w:World)(L:LM)(A:AM)(v:HV):Prop:=
 ∃u,(execOp a.eval o).run P w = .ok (.value u) w/\RepH w L A v u
section
variable {P:Program} {n:Nat} {w:World} {L:LM} {A:AM} {st:HSt} {a:Act} {g:Nat->HV} {o:Oper} {Q:Exit->Act->World->Prop} {C:Calls'}
theorem HInv.keep_slots(I:HInv n w L A st a g)(hn:n<=HK){w':World}{L':LM}{A':AM}{d:Option Nat}(E:Evo w L A w' L' A')(K:Keep d w L w' L'){t:Nat}(hd:d≠some t):RepS w' L' A' t (g t) (a.eval (.tmp t)):=by
 rcases Nat.lt_or_ge t n with ht|ht
 ·exact (I.rep t).keep E K I.ok.wf (by omega) hd
 ·rw[I.dom t ht];exact .inl (.none _)
theorem HInv.put(I:HInv n w L A st a g)(hn:n<=HK){w':World}{L':LM}{A':AM}{st':HSt}{d:Nat}(hd:d<n)(O:HOk w' L' A' st')(E:Evo w L A w' L' A')(K:Keep (some d) w L w' L'){v:HV}{u:Value}(H:RepS w' L' A' d v u):
 HInv n w' L' A' st' (a.put (some d) u) (fun t=>if t=d then v else g t):=by
 have hda:d<a.tmps.size:=by rw[I.sz];exact hd
 refine⟨O,fun t=>?_,by simpa[Act.put] using I.df,by simpa[Act.put] using I.sz,fun t ht=>?_⟩
 ·by_cases h:t=d
  ·subst h
   rw[if_pos rfl]
   have:(a.put (some t) u).eval (.tmp t)=u:=by simp[Act.put,Act.eval,hda]
   rw[this];exact H
  ·rw[if_neg h,eval_put_ne (fun e=>h (Option.some.inj e).symm)]
   exact I.keep_slots hn E K fun e=>h (Option.some.inj e).symm
 ·rw[if_neg (by omega)];exact I.dom t ht
theorem HInv.stay(I:HInv n w L A st a g)(hn:n<=HK){w':World}{L':LM}{A':AM}{st':HSt}(O:HOk w' L' A' st')(E:Evo w L A w' L' A')(K:Keep Option.none w L w' L'):HInv n w' L' A' st' a g:=
 ⟨O,fun t=>I.keep_slots hn E K (by simp),I.df,I.sz,I.dom⟩
theorem ValH.step(I:HInv n w L A st a g)(hn:n<=HK){d:Nat}(hd:d<n)(ho:o.dst=some d){v:HV}(h:ValH P o a w L A v):HStep P n o a w L A (fun t=>if t=d then v else g t) st Q:=by
 obtain⟨u,hr,H⟩:=h
 unfold HStep Oper.wp
 rw[hr]
 simp only[Oper.upon,ho]
 exact⟨L,A,I.put hn hd I.ok (.refl _ _ _) (.refl _ _ _) (.inl H),.refl _ _ _⟩
theorem HInv.inv(I:HInv n w L A st a g):Inv n w L a fun t=>toP (g t):=
 ⟨I.ok.wf,fun t=>by
   rcases I.rep t with H|⟨pv,e,_,H⟩|H
   ·show RepV w L (some (t,[])) (toP (g t)) _
    generalize a.eval (.tmp t)=u at H ⊢
    generalize g t=v at H ⊢
    cases H with
    | p v u hl H=>exact H.loose (loose_noOwn hl) _
    | _=>exact .none _ _
   ·show RepV w L (some (t,[])) (toP (g t)) _
    rw[e];exact H
   ·show RepV w L (some (t,[])) (toP (g t)) _
    generalize a.eval (.tmp t)=u at H ⊢
    generalize g t=v at H ⊢
    cases v <;> first | exact .none _ _|exact H.elim,I.df,I.sz⟩
theorem HInv.slot(I:HInv n w L A st a g)(hn:n<=HK){d:Nat}(hd:d<n){w':World}{L':LM}{u:Value}{v:HV}(G:Grows w (fun b j=>dropL d [] (L b j)) w' L')
 (hlab:∀b j,L' b j=dropL d [] (L b j)\/(∃p i,L' b j = .own d p i)\/L' b j = .sh)(hv:Evo w L A w' L' A->RepS w' L' A d v u):
 HInv n w' L' A st (a.put (some d) u) (fun t=>if t=d then v else g t)/\Evo w L A w' L' A:=by
 have big:∀{b j},(L b j).big->dropL d [] (L b j)=L b j:=fun {b j} h=>dropL_of_not (by
  rintro⟨s,i,e⟩
  rw[e] at h
  simp only[Lab.big] at h
  omega)
 have bigne:∀{b j},(L b j).big->L b j ≠ .out:=fun {b j} h e=>by rw[e] at h;exact h
 have G1:Go1 w L w' L':=⟨G.wf,(Ext.relabel w L (σ:=dropL d []) rfl rfl).trans G.ext,fun b j h=>by
  have:=G.lab b j (by rw[big h];exact bigne h)
  rw[this,big h],fun b j h=>G.cell b j (by rw[big h];exact bigne h)⟩
 have hl:∀b j r p i,L' b j = .own r p i->HK<=r->L b j = .own r p i:=fun b j r p i e hr=>by
  rcases hlab b j with h'|⟨p',i',h'⟩|h'
  ·rw[h'] at e;exact (dropL_own e).1
  ·rw[h'] at e;simp only[Lab.own.injEq] at e;omega
  ·rw[h'] at e;cases e
 have K:Keep (some d) w L w' L':=by
  have key:∀b j r p i,L b j = .own r p i->r<HK->some d≠some r->dropL d [] (L b j) = .own r p i:=fun b j r p i e hr hd'=>by
   rw[e]
   refine dropL_of_not ?_
   rintro⟨s,i',e'⟩
   simp only[Lab.own.injEq] at e'
   exact hd' (by rw[e'.1])
  exact⟨fun b j r p i e hr hd'=>by
   have h1:=key b j r p i e hr hd'
   rw[G.lab b j (by rw[h1];simp),h1,e],fun b j r p i e hr hd'=>by
   have h1:=key b j r p i e hr hd'
   exact G.cell b j (by rw[h1];simp)⟩
 have O:=I.ok.grow G1 hl
 have E:=I.ok.evo_grow G1
 exact⟨I.put hn hd O E K (hv E),E⟩
theorem takeP(hC:CallOk P C)(I:HInv n w L A st a g)(hn:n<=HK){x:XOp}(ht:trOp P o.op=some x){d:Nat}(ho:o.dst=some d)(hd:d<n)
 {v:PV}(h:evP C (lookPG g) (fun _ _=>.none) x=some v)(hv:(v.loose||fresh v)=true):HStep P n o a w L A (fun t=>if t=d then .p v else g t) st Q:=by
 have H:=evP_sound (Q:=Q) hC I.inv (S:=fun _ _=>.none) (fun _ _=>.inl rfl) ht ho h
 have hrv:refs v=[]:=by
  simp only[Bool.or_eq_true] at hv
  exact hv.elim loose_refs fresh_refs
 rw[purge1_id _ _ hrv] at H
 unfold PureOk at H
 unfold HStep
 refine Oper.wp_mono (fun a' w' hh=>?_) H
 obtain⟨u,L',rfl,G,hrep,hlab⟩:=hh
 obtain⟨I',E⟩:=I.slot hn hd (v:=.p v) G hlab fun E=>by
  simp only[Bool.or_eq_true] at hv
  rcases hv with hv|hv
  ·exact .inl (.p _ _ hv (hrep.loose (loose_noOwn hv) _))
  ·exact .inr (.inl ⟨v,rfl,hv,hrep⟩)
 exact⟨L',A,I',E⟩
end
open Go
def reL(L:LM)(N b o m:Nat):LM:=fun b' j=>if b'=b/\o<=j/\j<o+m then .own (N+HK) [] (j-o) else L b' j
section
variable {n:Nat} {w:World} {L:LM} {A:AM} {st:HSt} {a:Act} {g:Nat->HV}
theorem HOk.noN(O:HOk w L A st)(b j:Nat)(p:List Nat)(i:Nat):L b j ≠ .own (A.length+HK) p i:=fun h=>by
 obtain⟨_,a',o',m',h2,h3,_⟩:=O.lab _ _ _ _ _ h (Nat.le_add_left _ _)
 have:a'=A.length:=by omega
 subst this
 simp at h3
theorem HInv.landAt(I:HInv n w L A st a g)(hn:n<=HK){t b o m:Nat}(htn:t<n)(hm:∀i,i<m->L b (o+i) = .own t [] i)(h0:0<m){k:HB}{v:HV}(hkm:∀ks vs,k≠HB.map ks vs)
 (hk:∀(L':LM) (A':AM),(∀i,i<m->L' b (o+i) = .own (A.length+HK) [] i)->(∀v u,RepH w L A v u->RepH w L' A' v u)->BlkOk w L' A' A.length b o m k)
 (hv:∀(L':LM) (A':AM),A.length<A'.length->A'[A.length]? = some (some (b,o,m))->RepH w L' A' v (a.eval (.tmp t))):
 ∃L' A',HInv n w L' A' (st++[k]) a (fun t'=>if t'=t then v else g t')/\Evo w L A w L' A':=by
 have ht:t<HK:=Nat.lt_of_lt_of_le htn hn
 have at_:∀{j},o<=j->j<o+m->L b j = .own t [] (j-o):=fun {j} h1 h2=>by
  have:=hm (j-o) (by omega)
  rwa [show o+(j-o)=j by omega] at this
 have hin:∀i,i<m->reL L A.length b o m b (o+i) = .own (A.length+HK) [] i:=fun i hi=>by
  unfold reL;rw[if_pos ⟨rfl,by omega,by omega⟩,show o+i-o=i by omega]
 have hout:∀b' j,(∀i,L b' j ≠ .own t [] i)->reL L A.length b o m b' j=L b' j:=fun b' j h=>by
  unfold reL
  split
  ·rename_i hc
   obtain⟨rfl,h1,h2⟩:=hc
   exact absurd (at_ h1 h2) (h _)
  ·rfl
 have lab':∀b' j r p i,reL L A.length b o m b' j = .own r p i->L b' j = .own r p i\/(b'=b/\r=A.length+HK/\p=[]/\j=o+i/\i<m):=fun b' j r p i h=>by
  unfold reL at h
  split at h
  ·rename_i hc
   simp only[Lab.own.injEq] at h
   exact .inr ⟨hc.1,h.1.symm,h.2.1.symm,by omega,by omega⟩
  ·exact .inl h
 have hb':b<w.heap.size:=I.ok.wf.lt (j:=o+0) (by rw[hm 0 h0];simp)
 have G:Go1 w L w (reL L A.length b o m):=by
  refine⟨⟨fun b1 j1 b2 j2 r p i h1 h2=>?_,fun b1 j1 h1=>?_,fun b1 j1 r p i h1=>?_⟩,⟨rfl,rfl,rfl,Nat.le_refl _,fun b1 j1 _ h=>hout b1 j1 fun i e=>?_,fun _ _=>.refl _ _ _⟩,fun b1 j1 h=>hout b1 j1 fun i e=>?_,fun _ _ _=>rfl⟩
  ·rcases lab' _ _ _ _ _ h1 with h3|⟨rfl,rfl,rfl,h3,_⟩ <;> rcases lab' _ _ _ _ _ h2 with h4|⟨rfl,h5,_,h4,_⟩
   ·exact I.ok.wf.inj _ _ _ _ _ _ _ h3 h4
   ·rw[h5] at h3;exact absurd h3 (I.ok.noN _ _ _ _)
   ·exact absurd h4 (I.ok.noN _ _ _ _)
   ·exact⟨rfl,by omega⟩
  ·unfold reL at h1
   split at h1
   ·rename_i hc
    obtain⟨rfl,h2,h3⟩:=hc
    exact I.ok.wf.ex _ _ (by rw[at_ h2 h3];simp)
   ·exact I.ok.wf.ex _ _ h1
  ·unfold reL at h1
   split at h1
   ·rename_i hc
    obtain⟨rfl,h2,h3⟩:=hc
    exact I.ok.wf.thaw _ _ _ _ _ (at_ h2 h3)
   ·exact I.ok.wf.thaw _ _ _ _ _ h1
  ·rw[e] at h;rcases h with h|h <;> cases h
  ·rw[e] at h;simp only[Lab.big] at h;omega
 have hcell:∃v,w.cell? ⟨b,o+0,Option.none⟩=some v:=I.ok.wf.ex _ _ (by rw[hm 0 h0];simp)
 have O:=I.ok.push G (b:=b) (o:=o) (m:=m) (k:=k) (fun a' o' m' ks vs h1 h2=>by
  obtain⟨_,_,es,c,h3,_⟩:=I.ok.blk _ _ _ _ _ h1 h2
  obtain⟨v,hv⟩:=hcell
  simp[World.cell?,h3] at hv) (fun ks vs h=>absurd h (hkm ks vs)) hb' (fun b' j r p i h hr=>lab' b' j r p i h)
  (hk _ _ hin fun v u H=>H.evo ((I.ok.evo_grow G).push (b:=b) (o:=o) (m:=m) (.inr (.inr ⟨o+0,t,[],0,hm 0 h0,ht⟩))) I.ok.wf)
 have E:=(I.ok.evo_grow G).push (b:=b) (o:=o) (m:=m) (.inr (.inr ⟨o+0,t,[],0,hm 0 h0,ht⟩))
 have K:Keep (some t) w L w (reL L A.length b o m):=⟨fun b1 j1 r p i e hr hd=>hout b1 j1 fun i' e'=>by
  rw[e] at e'
  simp only[Lab.own.injEq] at e'
  exact hd (by rw[e'.1]),fun _ _ _ _ _ _ _ _=>rfl⟩
 refine⟨_,_,⟨O,fun t'=>?_,I.df,I.sz,fun t' ht'=>?_⟩,E⟩
 ·by_cases h:t'=t
  ·subst h
   rw[if_pos rfl]
   exact .inl (hv _ _ (by simp) (by simp))
  ·rw[if_neg h]
   exact I.keep_slots hn E K fun e=>h (Option.some.inj e).symm
 ·by_cases h:t'=t
  ·omega
  ·rw[if_neg h];exact I.dom t' ht'
theorem hget_set(e:HEnv)(d:Nat)(v:HV)(t:Nat):(e.set d v).get t = if t=d then v else e.get t:=by
 induction e with
 | nil=>by_cases h:t=d <;> simp[HEnv.set,HEnv.get,h]
 | cons x e ih=>
   obtain⟨k,y⟩:=x
   simp only[HEnv.set]
   split
   ·simp[HEnv.get]
   ·split
    ·rename_i h1 h2;subst h2;by_cases h:t=d <;> simp[HEnv.get,h]
    ·rename_i h1 h2
     simp only[HEnv.get,ih]
     by_cases h:t=k
     ·subst h;simp[Ne.symm h2]
     ·simp[h]
theorem hget_keep(l:List Nat)(e:HEnv)(t:Nat):(e.keep l).get t = if l.contains t then e.get t else .p .none:=by
 induction e with
 | nil=>simp[HEnv.keep,HEnv.get]
 | cons x e ih=>
   obtain⟨k,y⟩:=x
   simp only[HEnv.keep]
   split
   ·rename_i h
    simp only[HEnv.get,ih]
    by_cases e:t=k
    ·subst e;simp only[h,if_true]
    ·simp[e]
   ·rename_i h
    rw[ih]
    by_cases e:t=k
    ·subst e;simp only[h];simp
    ·simp[HEnv.get,e]
theorem HInv.congr{g':Nat->HV}(I:HInv n w L A st a g)(h:∀t,g' t=g t):HInv n w L A st a g':=
 ⟨I.ok,fun t=>by rw[h t];exact I.rep t,I.df,I.sz,fun t ht=>by rw[h t];exact I.dom t ht⟩
theorem HInv.forget{g':Nat->HV}(I:HInv n w L A st a g)(h:∀t,g' t=g t\/g' t = .p .none):HInv n w L A st a g':=
 ⟨I.ok,fun t=>by
   rcases h t with h|h
   ·rw[h];exact I.rep t
   ·rw[h];exact .inl (.none _),I.df,I.sz,fun t ht=>by
   rcases h t with h|h
   ·rw[h];exact I.dom t ht
   ·exact h⟩
theorem land1_sound{e:HEnv}(I:HInv n w L A st a e.get)(hn:n<=HK)(t:Nat):∃L' A',HInv n w L' A' (land1 (e,st) t).2 a (land1 (e,st) t).1.get/\Evo w L A w L' A':=by
 have same:∃L' A',HInv n w L' A' st a e.get/\Evo w L A w L' A':=⟨L,A,I,.refl _ _ _⟩
 have htn:e.get t ≠ .p .none->t<n:=fun h=>by
  rcases Nat.lt_or_ge t n with h'|h'
  ·exact h'
  ·exact absurd (I.dom t h') h
 have rep:=I.rep t
 unfold land1
 simp only
 split
 ·rename_i cs heq
  split
  ·rename_i hf
   rw[heq] at rep
   have htn':=htn (by rw[heq];simp)
   rcases rep with H|⟨pv,e1,_,H⟩|H
   ·have:=H.pv.1
    rw[fresh_not_loose hf] at this;cases this
   ·cases e1
    simp only[fresh,Bool.and_eq_true,Bool.not_eq_true',List.isEmpty_eq_false_iff,List.all_eq_true] at hf
    generalize hu:a.eval (.tmp t)=u at H
    cases H with
    | box _ _ _ b o ho hk hc=>
      have:=I.landAt hn (t:=t) (b:=b) (o:=o) (m:=cs.length) (k:=.box (cs.map .p)) (v:=.ptr A.length 0) htn' ho (by
       have:=hf.2
       exact List.length_pos_iff.2 this) (by simp) (fun L' A' h1 h2=>⟨by simp,h1,by simp,fun i hi=>by
       simp only[List.getElem_map]
       have hi':i<cs.length:=by simpa using hi
       have hfr:=hf.1 _ (List.getElem_mem hi')
       exact h2 _ _ (.p _ _ (free_loose hfr) ((hc i hi').any hfr _))⟩) fun L' A' h1 h2=>by
       rw[hu]
       refine .ptr _ _ _ _ h1 fun b' o' m' e=>?_
       rw[h2] at e
       simp only[Option.some.injEq,Prod.mk.injEq] at e
       exact⟨e.1,by omega⟩
      obtain⟨L',A',I',E'⟩:=this
      exact⟨L',A',I'.congr fun t'=>by rw[hget_set,I.ok.len],E'⟩
   ·exact H.elim
  ·exact same
 ·rename_i sz len cs heq
  split
  ·rename_i hf
   rw[heq] at rep
   have htn':=htn (by rw[heq];simp)
   rcases rep with H|⟨pv,e1,_,H⟩|H
   ·have:=H.pv.1
    rw[fresh_not_loose hf] at this;cases this
   ·cases e1
    simp only[fresh,List.all_eq_true] at hf
    generalize hu:a.eval (.tmp t)=u at H
    cases H with
    | own _ _ _ _ _ b cap hn' hl hp ho hk hc=>
      have hle:cs.length<=cap*sz:=by rw[hn'];exact Nat.mul_le_mul_right _ hl
      have:=I.landAt hn (t:=t) (b:=b) (o:=0) (m:=cap*sz) (k:=.row sz len (cs.map .p)) (v:=.row A.length 0 len sz) htn' (fun i hi=>by rw[Nat.zero_add];exact ho i hi) hp (by simp) (fun L' A' h1 h2=>⟨rfl,by simpa using hn',hp,h1,by simpa using hle,fun i hi=>by
       simp only[List.getElem_map,Nat.zero_add]
       have hi':i<cs.length:=by simpa using hi
       have hfr:=hf _ (List.getElem_mem hi')
       exact h2 _ _ (.p _ _ (free_loose hfr) ((hc i hi').any hfr _))⟩) fun L' A' h1 h2=>by
       rw[hu]
       refine .row _ _ _ _ _ _ _ h1 hl fun b' o' m' e=>?_
       rw[h2] at e
       simp only[Option.some.injEq,Prod.mk.injEq] at e
       exact⟨e.1,by omega,by omega⟩
      obtain⟨L',A',I',E'⟩:=this
      exact⟨L',A',I'.congr fun t'=>by rw[hget_set,I.ok.len],E'⟩
   ·exact H.elim
  ·exact same
 ·rename_i cs heq
  rw[heq] at rep
  have htn':=htn (by rw[heq];simp)
  rcases rep with H|⟨pv,e1,_,H⟩|⟨h0,b,o,hu,hc⟩
  ·cases H
  ·cases e1
  ·have:=I.landAt hn (t:=t) (b:=b) (o:=o) (m:=cs.length) (k:=.box cs) (v:=.ptr A.length 0) htn' (fun i hi=>(hc i hi).1) (List.length_pos_iff.2 h0) (by simp) (fun L' A' h1 h2=>⟨rfl,h1,Nat.le_refl _,fun i hi=>h2 _ _ (hc i hi).2⟩) fun L' A' h1 h2=>by
    rw[hu]
    refine .ptr _ _ _ _ h1 fun b' o' m' e=>?_
    rw[h2] at e
    simp only[Option.some.injEq,Prod.mk.injEq] at e
    exact⟨e.1,by omega⟩
   obtain⟨L',A',I',E'⟩:=this
   exact⟨L',A',I'.congr fun t'=>by rw[hget_set,I.ok.len],E'⟩
 ·rename_i sz len cs heq
  rw[heq] at rep
  have htn':=htn (by rw[heq];simp)
  rcases rep with H|⟨pv,e1,_,H⟩|⟨b,cap,hu,hn',hl,hp,ho,hc⟩
  ·cases H
  ·cases e1
  ·have hle:cs.length<=cap*sz:=by rw[hn'];exact Nat.mul_le_mul_right _ hl
   have:=I.landAt hn (t:=t) (b:=b) (o:=0) (m:=cap*sz) (k:=.row sz len cs) (v:=.row A.length 0 len sz) htn' (fun i hi=>by rw[Nat.zero_add];exact ho i hi) hp (by simp) (fun L' A' h1 h2=>⟨rfl,hn',hp,h1,hle,fun i hi=>by
    rw[Nat.zero_add];exact h2 _ _ (hc i hi)⟩) fun L' A' h1 h2=>by
    rw[hu]
    refine .row _ _ _ _ _ _ _ h1 hl fun b' o' m' e=>?_
    rw[h2] at e
    simp only[Option.some.injEq,Prod.mk.injEq] at e
    exact⟨e.1,by omega,by omega⟩
   obtain⟨L',A',I',E'⟩:=this
   exact⟨L',A',I'.congr fun t'=>by rw[hget_set,I.ok.len],E'⟩
 ·exact same
theorem HOk.labA(O:HOk w L A st):∀b j r p i,L b j = .own r p i->HK<=r->∃a o m:Nat,A[a]? = some (some (b,o,m)):=fun b j r p i h hr=>by
 obtain⟨_,a,o,m,_,h2,_⟩:=O.lab _ _ _ _ _ h hr
 exact⟨a,o,m,h2⟩
theorem Evo.tr{w₁ w₂:World}{L₁ L₂:LM}{A₁ A₂:AM}(h:Evo w L A w₁ L₁ A₁)(O:HOk w L A st)(h':Evo w₁ L₁ A₁ w₂ L₂ A₂):Evo w L A w₂ L₂ A₂:=Evo.trans O.wf O.labA h h'
end
open Go
section
variable {P:Program} {n:Nat} {w:World} {L:LM} {A:AM} {st:HSt} {a:Act} {g:Nat->HV} {o:Oper}
theorem HInv.look(I:HInv n w L A st a g){x:Operand}{x':XO}(hx:trO x=some x'):RepH w L A (lookHG g x') (a.eval x):=by
 cases x with
 | tmp t=>simp only[trO,Option.some.injEq] at hx;subst hx;exact (I.rep t).vis
 | const v=>
   simp only[trO,Option.map_eq_some_iff] at hx
   obtain⟨y,hy,rfl⟩:=hx
   exact .p _ _ (free_loose (ofVal_free hy)) (ofVal_rep hy _)
 | func f=>simp only[trO,Option.some.injEq] at hx;subst hx;exact .p _ _ rfl (.fn _ _ _ _ rfl (by simp))
 | global x=>simp[trO] at hx
theorem HInv.looks(I:HInv n w L A st a g){l:List Operand}{l':List XO}(h:trOs l=some l'):(l'.map (lookHG g)).length=l.length/\∀i (hi:i<(l'.map (lookHG g)).length),RepH w L A (l'.map (lookHG g))[i] ((l.map a.eval).toArray.getD i undef):=by
 obtain⟨h1,h2⟩:=trOs_len h
 refine⟨by simp[h1],fun i hi=>?_⟩
 have hi1:i<l'.length:=by simpa using hi
 have hi2:i<l.length:=by omega
 have:=I.look (h2 i hi2 hi1)
 simpa[Array.getD,hi2] using this
theorem ValAt.toH{v:PV}(h:ValAt P o a w L v)(hv:v.loose=true):ValH P o a w L A (.p v):=by
 obtain⟨u,h1,h2,h3⟩:=h
 exact⟨u,h1,.p _ _ hv (h2 _)⟩
theorem int_of{v:HV}{u:Value}{k:IntKind}{i:Int}(H:RepH w L A v u)(e:v = .p (.int k i)):u = .int k i:=by
 subst e
 have:=H.pv.2
 cases this;rfl
theorem bool_of{v:HV}{u:Value}{b:Bool}(H:RepH w L A v u)(e:v = .p (.bool b)):u = .bool b:=by
 subst e
 have:=H.pv.2
 cases this;rfl
theorem HOk.cellsAt(O:HOk w L A st){i:Nat}{cs:List HV}(h:blkCells st i=some cs):∃b o m,A[i]? = some (some (b,o,m))/\CellsOk w L A i b o m cs:=by
 unfold blkCells at h
 split at h
 ·rename_i cs' hs
  obtain rfl:=Option.some.inj h
  obtain⟨⟨b,o,m⟩,hx⟩:=O.live _ _ hs (by simp)
  exact⟨b,o,m,hx,(O.blk _ _ _ _ _ hx hs).2.2⟩
 ·rename_i s' l' cs' hs
  obtain rfl:=Option.some.inj h
  obtain⟨⟨b,o,m⟩,hx⟩:=O.live _ _ hs (by simp)
  exact⟨b,o,m,hx,(O.blk _ _ _ _ _ hx hs).2.2.2.2⟩
 ·cases h
theorem CellsOk.cell{i b o m:Nat}{cs:List HV}(W:WF w L)(C:CellsOk w L A i b o m cs){k:Nat}(hk:k<m):w.cell? ⟨b,o+k,Option.none⟩=some (cv w b (o+k)):=by
 obtain⟨v,hv⟩:=W.ex b (o+k) (by rw[C.1 k hk];simp)
 simp[cv,hv]
theorem run_loadH(O:HOk w L A st){t:TypeId}{agg:Bool}{sz:Nat}(ha:aggP P t=some agg)(hz:szP P t=some sz)(hz1:agg=false->sz=1){b i k:Nat}{u:Value}(H:RepH w L A (.ptr i k) u)
 {cs:List HV}(hc:blkCells st i=some cs){v:HV}(hv:partH agg k sz cs=some v):∃b j u',u = .pointer (some ⟨b,j,Option.none⟩)/\(loadVar t ⟨b,j,Option.none⟩).run P w = .ok u' w/\RepH w L A v u':=by
 obtain⟨b,o,m,hA,C⟩:=O.cellsAt hc
 cases H with
 | ptr _ _ b' j hlt h=>
   obtain⟨rfl,rfl⟩:=h _ _ _ hA
   refine⟨b',o+k,?_⟩
   unfold partH at hv
   split at hv
   ·rename_i hle
    have hm:=C.2.1
    cases agg with
    | true=>
      simp only[if_true,Option.some.injEq] at hv
      subst hv
      refine⟨.agg ((List.range sz).map fun q=>cv w b' (o+k+q)).toArray,rfl,?_,RepH.mkAgg (by simp;omega) fun q hq=>?_⟩
      ·simp only[loadVar,Sem.run_bind,run_isAgg' ha,run_sizeOf' hz,if_true,Result.andThen_ok]
       rw[run_loadCells w ⟨b',o+k,Option.none⟩ sz (fun q=>cv w b' (o+k+q)) (fun q hq=>by
        rw[addr_add,Nat.add_assoc];exact C.cell O.wf (by omega))]
       simp
      ·have hq':q<sz:=by simp at hq;omega
       rw[getD_map_range _ _ _ hq']
       simp only[List.getElem_take,List.getElem_drop]
       rw[Nat.add_assoc]
       exact C.2.2 (k+q) (by omega)
    | false=>
      have hz1:=hz1 rfl
      subst hz1
      simp only[Bool.false_eq_true,if_false] at hv
      obtain⟨h0,rfl⟩:=List.getElem?_eq_some_iff.1 hv
      have:=C.cell O.wf (k:=k) (by omega)
      exact⟨_,rfl,by simp[loadVar,run_isAgg' ha,this],C.2.2 k h0⟩
   ·cases hv
theorem okH_load(I:HInv n w L A st a g){t:TypeId}{x:Operand}{x':XO}(ho:o.op = .load t x)(hx:trO x=some x'){agg:Bool}{sz:Nat}(ha:aggP P t=some agg)(hz:szP P t=some sz)(hz1:agg=false->sz=1)
 {i k:Nat}(e:lookHG g x' = .ptr i k){cs:List HV}(hc:blkCells st i=some cs){v:HV}(hv:partH agg k sz cs=some v):ValH P o a w L A v:=by
 have H:=I.look hx
 rw[e] at H
 obtain⟨b,j,u',h1,h2,h3⟩:=run_loadH (b:=0) I.ok ha hz hz1 H hc hv
 refine⟨u',?_,h3⟩
 simp[execOp,ho,Instr.loadAt,Instr.sureAddr,h1,h2]
theorem run_partH{t:TypeId}{agg:Bool}{sz:Nat}(ha:aggP P t=some agg)(hz:szP P t=some sz){cs:List HV}{vs:Array Value}{off:Nat}(hsz:vs.size=cs.length)(hc:∀i (hi:i<cs.length),RepH w L A cs[i] (vs.getD i undef))
 {v:HV}(hv:partH agg off sz cs=some v):∃u,(Go.part t vs off).run P w = .ok u w/\RepH w L A v u:=by
 unfold partH at hv
 split at hv
 ·rename_i hle
  cases agg with
  | true=>
    simp only[if_true,Option.some.injEq] at hv
    subst hv
    refine⟨.agg (vs.extract off (off+sz)),by simp[Go.part,run_isAgg' ha,run_sizeOf' hz],RepH.mkAgg (by simp;omega) fun k hkk=>?_⟩
    have hk':k<sz:=by simp at hkk;omega
    have:(vs.extract off (off+sz)).getD k undef=vs.getD (off+k) undef:=by
     simp[Array.getD,show off+k<vs.size by omega,show k<min (off+sz) vs.size-off by omega]
    rw[this]
    simp only[List.getElem_take,List.getElem_drop]
    exact hc (off+k) (by omega)
  | false=>
    simp only[Bool.false_eq_true,if_false] at hv
    obtain⟨h0,rfl⟩:=List.getElem?_eq_some_iff.1 hv
    have hv0:off<vs.size:=by omega
    refine⟨vs[off],by simp[Go.part,run_isAgg' ha,hv0],?_⟩
    have:=hc off h0
    rwa [show vs.getD off undef=vs[off] from by simp[Array.getD,hv0]] at this
 ·cases hv
theorem fillH_pw(I:HInv n w L A st a g){place:Nat->Option (Nat×Nat)}:∀{l:List (Nat×Operand)} {l':List (Nat×Nat×XO)} (hl:PartsOk place l l')
 {cs cs':List HV} {vs:Array Value} (hs:vs.size=cs.length) (H:∀i (hi:i<cs.length),RepH w L A cs[i] (vs.getD i undef)) (h:fillH (lookHG g) cs l'=some cs'),
 ∃vs',Instr.fill place vs (l.map fun x=>(x.1,a.eval x.2))=some vs'/\vs'.size=cs'.length/\cs'.length=cs.length/\∀i (hi:i<cs'.length),RepH w L A cs'[i] (vs'.getD i undef):=by
 intro l l' hl
 induction hl with
 | nil=>intro cs cs' vs hs H h;simp[fillH] at h;subst h;exact⟨vs,rfl,hs,rfl,H⟩
 | @cons i x x' off sz l l' hp hx hl ih=>
   intro cs cs' vs hs H h
   simp only[fillH] at h
   split at h
   ·rename_i hc
    obtain⟨h1,h2,h3⟩:=hc
    obtain⟨hy1,hy2⟩:=(I.look hx).cells h3
    generalize cellsH (lookHG g x')=ys at *
    have hsz:(a.eval x).cells.size=sz:=by rw[hy1,h1]
    have hcs:off+sz<=vs.size:=by rw[hs];exact h2
    have hlen:(cs.take off++ys++cs.drop (off+sz)).length=cs.length:=by simp[h1];omega
    have hfold:((a.eval x).cells.zipIdx.foldl (fun cs (x:Value×Nat)=>cs.setIfInBounds (off+x.2) x.1) vs) =
     (((a.eval x).cells.toList.zipIdx 0).foldl (fun cs (x:Value×Nat)=>cs.setIfInBounds (off+x.2) x.1) vs):=by
     rw[←Array.foldl_toList];simp
    have hg:=fun i=>foldl_set_get off (a.eval x).cells.toList 0 vs i (by simpa[hsz] using hcs)
    simp only[Nat.add_zero,Array.length_toList,hsz] at hg
    have each:∀i (hi:i<(cs.take off++ys++cs.drop (off+sz)).length),RepH w L A (cs.take off++ys++cs.drop (off+sz))[i] ((((a.eval x).cells.toList.zipIdx 0).foldl (fun cs (x:Value×Nat)=>cs.setIfInBounds (off+x.2) x.1) vs).getD i undef):=by
     intro i hi
     rw[hg i]
     rw[hlen] at hi
     by_cases ha:i<off
     ·rw[if_neg (by omega)]
      have e:(cs.take off++ys++cs.drop (off+sz))[i]'(by rw[hlen];exact hi)=cs[i]:=by
       rw[List.getElem_append_left (by simp;omega),List.getElem_append_left (by simp;omega),List.getElem_take]
      rw[e];exact H i hi
     ·by_cases hb:i<off+sz
      ·rw[if_pos ⟨by omega,hb⟩]
       have e:(cs.take off++ys++cs.drop (off+sz))[i]'(by rw[hlen];exact hi)=ys[i-off]'(by omega):=by
        rw[List.getElem_append_left (by simp;omega),List.getElem_append_right (by simp;omega)]
        simp[show min off cs.length=off by omega]
       rw[e]
       have h0:i-off<ys.length:=by omega
       have:=hy2 (i-off) h0
       have hlt:i-off<(a.eval x).cells.size:=by omega
       simpa[Array.getD,hlt,List.getD] using this
      ·rw[if_neg (by omega)]
       have e:(cs.take off++ys++cs.drop (off+sz))[i]'(by rw[hlen];exact hi)=cs[i]:=by
        rw[List.getElem_append_right (by simp;omega)]
        simp only[List.getElem_drop,List.length_append,List.length_take]
        congr 1;simp[h1,show min off cs.length=off by omega];omega
       rw[e];exact H i hi
    obtain⟨vs',hf,hz,hl',hpw⟩:=ih (vs:=((a.eval x).cells.toList.zipIdx 0).foldl (fun cs (x:Value×Nat)=>cs.setIfInBounds (off+x.2) x.1) vs) (by rw[foldl_set_size,hs,hlen]) each h
    refine⟨vs',?_,hz,by rw[hl',hlen],hpw⟩
    simp only[List.map_cons,Instr.fill,hp]
    rw[if_neg (by simp[hsz];omega)]
    rw[hfold]
    exact hf
   ·cases h
theorem zero_hw{t:TypeId}{z:List PV}(h:zeroP P t=some z):∃i v,P.info? t=some i/\i.zero=some v/\v.cells.size=(z.map HV.p).length/\∀k (hk:k<(z.map HV.p).length),RepH w L A (z.map HV.p)[k] (v.cells.getD k undef):=by
 obtain⟨i,v,hi,hzv,H,hf⟩:=zero_pw (w:=w) (L:=L) h
 refine⟨i,v,hi,hzv,by simpa using H.sz,fun k hk=>?_⟩
 simp only[List.getElem_map]
 exact .p _ _ (free_loose (hf _ (List.getElem_mem _))) (H.rep k (by simpa using hk))
theorem okH_build_struct(I:HInv n w L A st a g){t:TypeId}{parts:Array (Nat×Operand)}{z:List PV}{ps:List (Nat×Nat×XO)}{fs:Array Field}{pl:List (Nat×Nat)}(ho:o.op = .build t parts)(hz:zeroP P t=some z)
 (ht:P.underlying t=some (.struct fs))(hpl:placesP P fs=some pl)(hps:PartsOk (fun i=>pl[i]?) parts.toList ps){cs:List HV}(hv:fillH (lookHG g) (z.map .p) ps=some cs):ValH P o a w L A (mkAgg cs):=by
 obtain⟨i,v,hi,hzv,hs,H⟩:=zero_hw (w:=w) (L:=L) (A:=A) hz
 obtain⟨vs,hfill,hz',_,H'⟩:=fillH_pw I hps hs H hv
 refine⟨.agg vs,?_,RepH.mkAgg hz' H'⟩
 have e:(Array.map (fun x=>(x.1,a.eval x.2)) parts).toList=parts.toList.map fun x=>(x.1,a.eval x.2):=by simp
 simp only[execOp,ho,Instr.build,Sem.run_bind,run_zeroValue' hi hzv,Result.andThen_ok,run_underlying' ht,run_places hpl]
 have e2:(fun x:Nat=>pl.toArray[x]?) = fun i:Nat=>pl[i]?:=by funext i;simp
 rw[e2,e,hfill]
 simp
theorem okH_build_arr(I:HInv n w L A st a g){t:TypeId}{parts:Array (Nat×Operand)}{z:List PV}{ps:List (Nat×Nat×XO)}{m et sz:Nat}(ho:o.op = .build t parts)(hz:zeroP P t=some z)
 (ht:arrP P t=some (m,et))(hsz:szP P et=some sz)(hps:PartsOk (fun i=>some (i*sz,sz)) parts.toList ps){cs:List HV}(hv:fillH (lookHG g) (z.map .p) ps=some cs):ValH P o a w L A (mkAgg cs):=by
 obtain⟨i,v,hi,hzv,hs,H⟩:=zero_hw (w:=w) (L:=L) (A:=A) hz
 obtain⟨vs,hfill,hz',_,H'⟩:=fillH_pw I hps hs H hv
 refine⟨.agg vs,?_,RepH.mkAgg hz' H'⟩
 have e:(Array.map (fun x=>(x.1,a.eval x.2)) parts).toList=parts.toList.map fun x=>(x.1,a.eval x.2):=by simp
 simp only[execOp,ho,Instr.build,Sem.run_bind,run_zeroValue' hi hzv,Result.andThen_ok,run_underlying' (arrP_some ht),run_sizeOf' hsz]
 rw[e,hfill]
 simp
theorem toP_vis{v:HV}{k:IntKind}{i:Int}(h:toP (vis v) = .int k i):v = .p (.int k i):=by
 cases v with
 | p v=>
   simp only[vis] at h
   split at h
   ·simp only[toP] at h;rw[h]
   ·simp[toP] at h
 | _=>simp[vis,toP] at h
theorem bnd_look{m d q:Nat}{x:Option XO}(h:bnd (fun y=>toP (lookHG g y)) m x d=some q):bnd (lookG fun t=>toP (g t)) m x d=some q:=by
 cases x with
 | none=>exact h
 | some y=>
   simp only[bnd] at h ⊢
   split at h
   ·rename_i k i hi
    have:lookG (fun t=>toP (g t)) y = .int k i:=by
     cases y with
     | t t=>simp only[lookHG] at hi;simp only[lookG,toP_vis hi,toP,al]
     | k v=>simpa[lookHG,toP,lookG] using hi
     | f f=>simp[lookHG,toP] at hi
    simp only[this];exact h
   ·cases h
theorem okH_slc(I:HInv n w L A st a g){t et sz:Nat}{x:Operand}{x':XO}{lo hi:Option Operand}{lo' hi':Option XO}(ho:o.op = .slice t x lo hi Option.none)(hx:trO x=some x')(hl:trOpt lo=some lo')(hh:trOpt hi=some hi')
 (ht:sliceP P t=some et)(hz:szP P et=some sz)(hz0:0<sz){r off m:Nat}(e:lookHG g x' = .row r off m sz){l h:Nat}(e1:bnd (fun y=>toP (lookHG g y)) m hi' m=some h)(e2:bnd (fun y=>toP (lookHG g y)) h lo' 0=some l):
 ValH P o a w L A (if l=0 then .row r off h sz else if l<h then .row r (off+l*sz) (h-l) sz else .p (.sl 0 [])):=by
 have H:=I.look hx
 rw[e] at H
 generalize hu:a.eval x=u at H
 cases H with
 | row _ _ _ _ b j cap ha hlc hA=>
   obtain⟨hr,h1,h2⟩:=run_bounds (P:=P) I.inv hl hh hlc true (bnd_look e1) (bnd_look e2)
   refine⟨.slice (if cap=l then some ⟨b,j,Option.none⟩ else some ⟨b,j+l*sz,Option.none⟩) (h-l) (cap-l),?_,?_⟩
   ·simp[execOp,ho,Instr.sliceAt,Instr.slice,run_underlying' (sliceP_some ht),hu,hr,run_sizeOf' hz,addr_add]
   ·by_cases hl0:l=0
    ·subst hl0
     simp only[Nat.zero_mul,Nat.add_zero,ite_self,Nat.sub_zero,if_true]
     exact .row _ _ _ _ _ _ _ ha (by omega) hA
    ·simp only[hl0,if_false]
     split
     ·have:¬cap=l:=by omega
      simp only[this,if_false]
      refine .row _ _ _ _ _ _ _ ha (by omega) fun b' o' m' e=>?_
      obtain⟨h3,h4,h5⟩:=hA b' o' m' e
      refine⟨h3,by omega,?_⟩
      rw[Nat.sub_mul]
      have:l*sz<=cap*sz:=Nat.mul_le_mul_right _ (by omega)
      omega
     ·rw[show h-l=0 by omega]
      exact .p _ _ rfl (.sl0 _ _ _)
theorem okH_fadr(I:HInv n w L A st a g){s f ft off sz:Nat}{x:Operand}{x':XO}(ho:o.op = .fieldAddr s x f)(hx:trO x=some x')(hf:fieldP P s f=some (ft,off))(hz:szP P ft=some sz)(h0:sz≠0)
 {r i:Nat}(e:lookHG g x' = .ptr r i):ValH P o a w L A (.ptr r (i+off)):=by
 have H:=I.look hx
 rw[e] at H
 generalize hu:a.eval x=u at H
 cases H with
 | ptr _ _ b j ha h=>
   refine⟨.pointer (some ⟨b,j+off,Option.none⟩),by simp[execOp,ho,hu,run_fieldAt hf hz h0],.ptr _ _ _ _ ha fun b' o' m e=>?_⟩
   obtain⟨h1,h2⟩:=h b' o' m e
   exact⟨h1,by omega⟩
theorem okH_fld(I:HInv n w L A st a g){s f ft off sz:Nat}{agg:Bool}{x:Operand}{x':XO}(ho:o.op = .field s x f)(hx:trO x=some x')(hf:fieldP P s f=some (ft,off))(ha:aggP P ft=some agg)(hz:szP P ft=some sz)
 {cs:List HV}(e:lookHG g x' = .agg cs){v:HV}(hv:partH agg off sz cs=some v):ValH P o a w L A v:=by
 have H:=I.look hx
 rw[e] at H
 generalize hu:a.eval x=u at H
 cases H with
 | agg _ vs hsz hc=>
   obtain⟨fs,y,hund,hy,rfl,rfl⟩:=fieldP_some hf
   obtain⟨u',hr,hrep⟩:=run_partH (P:=P) ha hz hsz hc hv
   exact⟨u',by simp[execOp,ho,Instr.field,run_underlying' hund,hy,hu,asAgg,hr],hrep⟩
theorem okH_iadr_slice(I:HInv n w L A st a g){t et sz:Nat}{x y:Operand}{x' y':XO}(ho:o.op = .indexAddr t x y)(hx:trO x=some x')(hy:trO y=some y')(ht:sliceP P t=some et)(hz:szP P et=some sz)
 {k:IntKind}{j:Int}(e':lookHG g y' = .p (.int k j)){r off m:Nat}(e:lookHG g x' = .row r off m sz)(hj:idxOk j m=true):ValH P o a w L A (.ptr r (off+j.toNat*sz)):=by
 have H:=I.look hx
 have hy':=int_of (I.look hy) e'
 rw[e] at H
 generalize hu:a.eval x=u at H
 rw[idxOk_iff] at hj
 cases H with
 | row _ _ _ _ b of cap ha hl h=>
   refine⟨.pointer (some ⟨b,of+j.toNat*sz,Option.none⟩),?_,.ptr _ _ _ _ ha fun b' o' m e=>?_⟩
   ·simp[execOp,ho,Instr.indexAt,hy',hu,asIntOf,run_underlying' (sliceP_some ht),hj.1,hj.2,run_sizeOf' hz,addr_add]
   ·obtain⟨h1,h2,_⟩:=h b' o' m e
    exact⟨h1,by omega⟩
theorem okH_iadr_arr(I:HInv n w L A st a g){t et sz m:Nat}{x y:Operand}{x' y':XO}(ho:o.op = .indexAddr t x y)(hx:trO x=some x')(hy:trO y=some y')(ht:arrP P t=some (m,et))(hz:szP P et=some sz)
 {k:IntKind}{j:Int}(e':lookHG g y' = .p (.int k j)){r off:Nat}(e:lookHG g x' = .ptr r off)(hj:idxOk j m=true):ValH P o a w L A (.ptr r (off+j.toNat*sz)):=by
 have H:=I.look hx
 have hy':=int_of (I.look hy) e'
 rw[e] at H
 generalize hu:a.eval x=u at H
 rw[idxOk_iff] at hj
 cases H with
 | ptr _ _ b of ha h=>
   refine⟨.pointer (some ⟨b,of+j.toNat*sz,Option.none⟩),?_,.ptr _ _ _ _ ha fun b' o' m e=>?_⟩
   ·simp[execOp,ho,Instr.indexAt,Instr.sureAddr,hy',hu,asIntOf,run_underlying' (arrP_some ht),hj.1,hj.2,run_sizeOf' hz,addr_add]
   ·obtain⟨h1,h2⟩:=h b' o' m e
    exact⟨h1,by omega⟩
theorem okH_nilck(I:HInv n w L A st a g){x:Operand}{x':XO}(ho:o.op = .nilCheck x)(hx:trO x=some x'){r i:Nat}(e:lookHG g x' = .ptr r i):ValH P o a w L A (.ptr r i):=by
 have H:=I.look hx
 rw[e] at H
 generalize hu:a.eval x=u at H
 cases H with
 | ptr _ _ b j ha h=>exact⟨_,by simp[execOp,ho,hu],.ptr _ _ _ _ ha h⟩
theorem okH_ext(I:HInv n w L A st a g){i:Nat}{x:Operand}{x':XO}(ho:o.op = .extract x i)(hx:trO x=some x'){vs:List HV}(e:lookHG g x' = .tup vs){v:HV}(hv:vs[i]? = some v):ValH P o a w L A v:=by
 have H:=I.look hx
 rw[e] at H
 generalize hu:a.eval x=u at H
 cases H with
 | tup _ us hz hc=>
   obtain⟨hlt,rfl⟩:=List.getElem?_eq_some_iff.1 hv
   have hlt':i<us.size:=by omega
   refine⟨us[i],by simp[execOp,ho,hu,Instr.extract,hlt'],?_⟩
   have:=hc i hlt
   rwa [show us.getD i undef=us[i] from by simp[Array.getD,hlt']] at this
theorem okH_len(I:HInv n w L A st a g){c:Call}{t et:TypeId}{x:Operand}{x':XO}(ho:o.op = .call c)(hb:c.callee = .builtin .len)(hc:c.args=#[x])(ht:c.argTypes=#[t])(hx:trO x=some x')(hk:P.underlying t=some (.slice et))
 {r off m z:Nat}(e:lookHG g x' = .row r off m z):ValH P o a w L A (.p (.int .i64 m)):=by
 have H:=I.look hx
 rw[e] at H
 generalize hu:a.eval x=u at H
 cases H with
 | row _ _ _ _ b j cap ha hl h=>exact⟨.int .i64 m,run_builtin ho hb fun ks=>by simp[Go.builtin,hc,ht,hu,Builtin.len_,run_underlying' hk,goInt],.p _ _ rfl (.int _ _ _)⟩
theorem okH_peq(I:HInv n w L A st a g){neg:Bool}{xt yt et:TypeId}{x y:Operand}{x' y':XO}(ho:o.op = .binOp (if neg then .neq else .eql) xt x y yt)(hx:trO x=some x')(hy:trO y=some y')
 (ht:ptrP P xt=some et)(hv:(∃r i,lookHG g x' = .ptr r i/\lookHG g y' = .p .nilp)\/(∃r i,lookHG g x' = .p .nilp/\lookHG g y' = .ptr r i)):ValH P o a w L A (.p (.bool neg)):=by
 have Hx:=I.look hx
 have Hy:=I.look hy
 have nil:∀{u},RepH w L A (.p .nilp) u->u = .pointer Option.none:=fun H=>by have:=H.pv.2;cases this;rfl
 have fin:∀p q:Option Addr,a.eval x = .pointer p->a.eval y = .pointer q->(p.isNone=true\/q.isNone=true)->(p.isNone&&q.isNone)=false->ValH P o a w L A (.p (.bool neg)):=fun p q h1 h2 h3 h4=>by
  have:=ok_eq (P:=P) I.inv (neg:=neg) (o:=o) (xt:=xt) (yt:=yt) (x:=x) (y:=y) ho h1 h2 (run_eqGuard_no (by simp) (by simp)) (by rintro op (rfl|rfl) <;> simp[Go.binOp]) (run_equal_ptr (ptrP_some ht) h3 9999)
  rw[h4,Bool.xor_false] at this
  exact this.toH rfl
 rcases hv with⟨r,i,e1,e2⟩|⟨r,i,e1,e2⟩
 ·rw[e1] at Hx;rw[e2] at Hy
  have h2:=nil Hy
  generalize hu:a.eval x=u at Hx
  cases Hx with
  | ptr _ _ b j _ _=>exact fin _ _ hu h2 (.inr rfl) rfl
 ·rw[e1] at Hx;rw[e2] at Hy
  have h2:=nil Hx
  generalize hu:a.eval y=u at Hy
  cases Hy with
  | ptr _ _ b j _ _=>exact fin _ _ h2 hu (.inl rfl) rfl
theorem okH_mkfn(I:HInv n w L A st a g){f:Nat}{fi cs:Array Operand}{cs':List XO}(ho:o.op = .makeFunc (.func f) fi cs)(hfi:fi.toList=[])(hc:trOs cs.toList=some cs'):ValH P o a w L A (.fn f (cs'.map (lookHG g))):=by
 have hfi':fi=#[]:=by rw[←Array.toList_inj];simpa using hfi
 subst hfi'
 obtain⟨h1,h2⟩:=I.looks hc
 refine⟨.func (.func f) #[] (cs.map a.eval),by simp[execOp,ho,Instr.makeFunc],.fn _ _ _ (by rw[h1];simp) fun i hi=>?_⟩
 have:=h2 i hi
 simpa using this
theorem okH_bm(I:HInv n w L A st a g){f:Nat}{fi cs:Array Operand}{fi':List XO}(ho:o.op = .makeFunc (.func f) fi cs)(hcs:cs.toList=[])(hc:trOs fi.toList=some fi'):ValH P o a w L A (.bm f (fi'.map (lookHG g))):=by
 have hcs':cs=#[]:=by rw[←Array.toList_inj];simpa using hcs
 subst hcs'
 obtain⟨h1,h2⟩:=I.looks hc
 refine⟨.func (.func f) (fi.map a.eval) #[],by simp[execOp,ho,Instr.makeFunc],.bm _ _ _ (by rw[h1];simp) fun i hi=>?_⟩
 have:=h2 i hi
 simpa using this
end
open Go
section
variable {P:Program} {n:Nat} {w:World} {L:LM} {A:AM} {st:HSt} {a:Act} {g:Nat->HV} {o:Oper}
theorem evHX_val(I:HInv n w L A st a g){x:XOp}(ht:trOp P o.op=some x){v:HV}(h:evHX (lookHG g) st x=some v):ValH P o a w L A v:=by
 cases hop:o.op <;> rw[hop] at ht <;> simp only[trOp] at ht
 case move y=>
  simp only[Option.map_eq_some_iff] at ht
  obtain⟨y',hy,rfl⟩:=ht
  simp only[evHX,Option.some.injEq] at h
  subst h
  exact⟨a.eval y,by simp[execOp,hop],I.look hy⟩
 case assign y=>
  simp only[Option.map_eq_some_iff] at ht
  obtain⟨y',hy,rfl⟩:=ht
  simp only[evHX,Option.some.injEq] at h
  subst h
  exact⟨a.eval y,by simp[execOp,hop],I.look hy⟩
 case pick c y z=>
  simp only[Option.bind_eq_some_iff,Option.map_eq_some_iff] at ht
  obtain⟨c',hc',y',hy,z',hz,rfl⟩:=ht
  simp only[evHX] at h
  split at h
  ·rename_i e
   obtain rfl:=Option.some.inj h
   have:=bool_of (I.look hc') e
   exact⟨a.eval y,by simp[execOp,hop,this,asBool],I.look hy⟩
  ·rename_i e
   obtain rfl:=Option.some.inj h
   have:=bool_of (I.look hc') e
   exact⟨a.eval z,by simp[execOp,hop,this,asBool],I.look hz⟩
  ·cases h
 case alloc t=>simp only[Option.map_eq_some_iff] at ht;obtain⟨z,hz,rfl⟩:=ht;simp[evHX] at h
 case box t y=>simp only[Option.map_eq_some_iff] at ht;obtain⟨y',hy,rfl⟩:=ht;simp[evHX] at h
 case build t parts=>
  split at ht
  ·rename_i fs hu
   simp only[Option.bind_eq_some_iff,Option.map_eq_some_iff] at ht
   obtain⟨pl,hpl,z,hz,ps,hps,rfl⟩:=ht
   simp only[evHX,Option.map_eq_some_iff] at h
   obtain⟨cs,hcs,rfl⟩:=h
   exact okH_build_struct I hop hz hu hpl (trParts_ok hps) hcs
  ·rename_i m et hu
   simp only[Option.bind_eq_some_iff,Option.map_eq_some_iff] at ht
   obtain⟨sz,hsz,z,hz,ps,hps,rfl⟩:=ht
   simp only[evHX,Option.map_eq_some_iff] at h
   obtain⟨cs,hcs,rfl⟩:=h
   exact okH_build_arr I hop hz (array_arrP hu) hsz (trParts_ok hps) hcs
  ·cases ht
 case buildSlice t len parts=>
  simp only[Option.bind_eq_some_iff] at ht
  obtain⟨et,het,z,hz,sz,hsz,ht⟩:=ht
  split at ht
  ·simp only[Option.map_eq_some_iff] at ht
   obtain⟨ps,hps,rfl⟩:=ht
   simp[evHX] at h
  ·cases ht
 case load t y=>
  simp only[Option.bind_eq_some_iff] at ht
  obtain⟨agg,ha,sz,hsz,ht⟩:=ht
  split at ht
  ·rename_i h1
   simp only[Option.map_eq_some_iff] at ht
   obtain⟨y',hy,rfl⟩:=ht
   simp only[evHX] at h
   split at h
   ·rename_i r i e
    split at h
    ·rename_i cs hcs
     exact okH_load I hop hy ha hsz h1 e hcs h
    ·cases h
   ·cases h
  ·cases ht
 case store t y z=>
  simp only[Option.bind_eq_some_iff,Option.map_eq_some_iff] at ht
  obtain⟨sz,hsz,y',hy,z',hz,rfl⟩:=ht
  simp[evHX] at h
 case binOp op xt y z yt=>
  simp only[Option.bind_eq_some_iff] at ht
  obtain⟨y',hy,z',hz,ht⟩:=ht
  have pq:∀neg et,o.op = .binOp (if neg then .neq else .eql) xt y z yt->ptrP P xt=some et->evHX (lookHG g) st (.peq neg y' z')=some v->ValH P o a w L A v:=fun neg et hop hu h=>by
   simp only[evHX] at h
   split at h
   ·rename_i r i e1 e2
    obtain rfl:=Option.some.inj h
    exact okH_peq I hop hy hz hu (.inl ⟨r,i,e1,e2⟩)
   ·rename_i r i e1 e2
    obtain rfl:=Option.some.inj h
    exact okH_peq I hop hy hz hu (.inr ⟨r,i,e1,e2⟩)
   ·cases h
  cases op
  case eql=>
   simp only[trBin] at ht
   split at ht
   ·obtain rfl:=Option.some.inj ht;simp[evHX] at h
   ·rename_i hu
    obtain rfl:=Option.some.inj ht
    exact pq false _ (by simpa using hop) (pointer_ptrP hu) h
   ·simp only[Option.map_eq_some_iff] at ht;obtain⟨q,hq,rfl⟩:=ht;simp[evHX] at h
   ·simp only[Option.map_eq_some_iff] at ht;obtain⟨q,hq,rfl⟩:=ht;simp[evHX] at h
   ·obtain rfl:=Option.some.inj ht;simp[evHX] at h
  case neq=>
   simp only[trBin] at ht
   split at ht
   ·obtain rfl:=Option.some.inj ht;simp[evHX] at h
   ·rename_i hu
    obtain rfl:=Option.some.inj ht
    exact pq true _ (by simpa using hop) (pointer_ptrP hu) h
   ·simp only[Option.map_eq_some_iff] at ht;obtain⟨q,hq,rfl⟩:=ht;simp[evHX] at h
   ·simp only[Option.map_eq_some_iff] at ht;obtain⟨q,hq,rfl⟩:=ht;simp[evHX] at h
   ·obtain rfl:=Option.some.inj ht;simp[evHX] at h
  all_goals
   simp only[trBin,Option.some.injEq] at ht
   subst ht
   simp[evHX] at h
 case unOp op t y=>simp only[Option.map_eq_some_iff] at ht;obtain⟨y',hy,rfl⟩:=ht;simp[evHX] at h
 case convert s d y=>
  split at ht
  ·simp only[Option.map_eq_some_iff] at ht;obtain⟨y',hy,rfl⟩:=ht;simp[evHX] at h
  ·simp only[Option.bind_eq_some_iff,Option.map_eq_some_iff] at ht
   obtain⟨k0,hk0,k,hk,y',hy,rfl⟩:=ht
   simp[evHX] at h
 case makeFunc fn fi cs=>
  split at ht
  ·rename_i f hfi
   simp only[Option.map_eq_some_iff] at ht
   obtain⟨cs',hcs,rfl⟩:=ht
   simp only[evHX,Option.some.injEq] at h
   subst h
   exact okH_mkfn I hop hfi hcs
  ·cases ht
 case makeSlice t l c=>
  simp only[Option.bind_eq_some_iff] at ht
  obtain⟨et,het,z,hz,sz,hsz,i,hi,ht⟩:=ht
  split at ht
  ·simp only[Option.bind_eq_some_iff,Option.map_eq_some_iff] at ht
   obtain⟨l',hl,c',hc,rfl⟩:=ht
   simp[evHX] at h
  ·cases ht
 case slice t y lo hi mx=>
  cases mx with
  | some m=>simp at ht
  | none=>
    simp only at ht
    split at ht
    ·simp only[Option.bind_eq_some_iff,Option.map_eq_some_iff] at ht
     obtain⟨y',hy,lo',hlo,hi',hhi,rfl⟩:=ht
     simp only[evHX] at h
     split at h
     ·simp at h
     ·cases h
    ·rename_i et hu
     simp only[Option.bind_eq_some_iff] at ht
     obtain⟨sz,hsz,ht⟩:=ht
     split at ht
     ·rename_i hz0
      simp only[Option.bind_eq_some_iff,Option.map_eq_some_iff] at ht
      obtain⟨y',hy,lo',hlo,hi',hhi,rfl⟩:=ht
      simp only[evHX] at h
      split at h
      ·rename_i r off m z e
       split at h
       ·cases h
       ·split at h
        ·rename_i hh e1
         split at h
         ·rename_i ll e2
          split at h
          ·rename_i hzz
           subst hzz
           have:=okH_slc I hop hy hlo hhi (slice_sliceP hu) hsz hz0 e e1 e2
           by_cases h0:ll=0
           ·simp only[h0,if_true,Option.some.injEq] at h this;subst h;exact this
           ·simp only[h0,if_false] at h this
            by_cases h1:ll<hh
            ·simp only[h1,if_true,Option.some.injEq] at h this;subst h;exact this
            ·simp only[h1,if_false,Option.some.injEq] at h this;subst h;exact this
          ·cases h
         ·cases h
        ·cases h
      ·cases h
     ·cases ht
    ·cases ht
 case fieldAddr s y f=>
  simp only[Option.bind_eq_some_iff] at ht
  obtain⟨q,hq,sz,hsz,ht⟩:=ht
  split at ht
  ·rename_i h0
   simp only[Option.map_eq_some_iff] at ht
   obtain⟨y',hy,rfl⟩:=ht
   simp only[evHX] at h
   split at h
   ·rename_i r i e
    obtain rfl:=Option.some.inj h
    exact okH_fadr I hop hy hq hsz h0 e
   ·cases h
  ·cases ht
 case field s y f=>
  simp only[Option.bind_eq_some_iff,Option.map_eq_some_iff] at ht
  obtain⟨q,hq,agg,ha,sz,hsz,y',hy,rfl⟩:=ht
  simp only[evHX] at h
  split at h
  ·rename_i cs e
   exact okH_fld I hop hy hq ha hsz e h
  ·cases h
 case indexAddr t y i=>
  split at ht
  ·rename_i et hu
   simp only[Option.bind_eq_some_iff] at ht
   obtain⟨sz,hsz,ht⟩:=ht
   split at ht
   ·simp only[Option.bind_eq_some_iff,Option.map_eq_some_iff] at ht
    obtain⟨y',hy,i',hi,rfl⟩:=ht
    simp only[evHX] at h
    split at h
    ·rename_i k j e'
     split at h
     ·rename_i r off m z e
      split at h
      ·rename_i hj
       simp only[Bool.and_eq_true,beq_iff_eq] at hj
       obtain⟨hj,rfl⟩:=hj
       obtain rfl:=Option.some.inj h
       exact okH_iadr_slice I hop hy hi (slice_sliceP hu) hsz e' e hj
      ·cases h
     ·cases h
    ·cases h
   ·cases ht
  ·rename_i m et hu
   simp only[Option.bind_eq_some_iff] at ht
   obtain⟨sz,hsz,ht⟩:=ht
   split at ht
   ·simp only[Option.bind_eq_some_iff,Option.map_eq_some_iff] at ht
    obtain⟨y',hy,i',hi,rfl⟩:=ht
    simp only[evHX] at h
    split at h
    ·rename_i k j e'
     split at h
     ·rename_i r off e
      split at h
      ·rename_i hj
       obtain rfl:=Option.some.inj h
       exact okH_iadr_arr I hop hy hi (array_arrP hu) hsz e' e hj
      ·cases h
     ·cases h
    ·cases h
   ·cases ht
  ·cases ht
 case index t y i=>
  split at ht
  ·simp only[Option.bind_eq_some_iff,Option.map_eq_some_iff] at ht
   obtain⟨y',hy,i',hi,rfl⟩:=ht
   simp[evHX] at h
  ·simp only[Option.bind_eq_some_iff,Option.map_eq_some_iff] at ht
   obtain⟨agg,ha,sz,hsz,y',hy,i',hi,rfl⟩:=ht
   simp[evHX] at h
  ·cases ht
 case extract y i=>
  simp only[Option.map_eq_some_iff] at ht
  obtain⟨y',hy,rfl⟩:=ht
  simp only[evHX] at h
  split at h
  ·rename_i vs e
   exact okH_ext I hop hy e h
  ·cases h
 case nilCheck y=>
  simp only[Option.map_eq_some_iff] at ht
  obtain⟨y',hy,rfl⟩:=ht
  simp only[evHX] at h
  split at h
  ·rename_i r i e
   obtain rfl:=Option.some.inj h
   exact okH_nilck I hop hy e
  ·cases h
 case call c=>
  unfold trCall at ht
  split at ht
  ·rename_i x t hcal hargs htys
   have ha:c.args=#[x]:=by rw[←Array.toList_inj];simpa using hargs
   have hty:c.argTypes=#[t]:=by rw[←Array.toList_inj];simpa using htys
   split at ht
   ·simp only[Option.map_eq_some_iff] at ht
    obtain⟨x',hx,rfl⟩:=ht
    simp only[evHX] at h
    split at h <;> simp at h
   ·rename_i et hu
    simp only[Option.map_eq_some_iff] at ht
    obtain⟨x',hx,rfl⟩:=ht
    simp only[evHX] at h
    split at h
    ·rename_i r off m z e
     simp only[Bool.false_eq_true,if_false,Option.some.injEq] at h
     subst h
     exact okH_len I hop hcal ha hty hx hu e
    ·cases h
   ·obtain rfl:=Option.some.inj ht
    simp[evHX] at h
   ·cases ht
  ·split at ht
   ·simp only[Option.bind_eq_some_iff] at ht
    obtain⟨et,het,z,hz,sz,hsz,i,hi,ht⟩:=ht
    split at ht
    ·simp only[Option.bind_eq_some_iff,Option.map_eq_some_iff] at ht
     obtain⟨s',hs,x',hx,rfl⟩:=ht
     simp[evHX] at h
    ·cases ht
   ·cases ht
  ·simp only[Option.bind_eq_some_iff,Option.map_eq_some_iff] at ht
   obtain⟨x',hx,y',hy,rfl⟩:=ht
   simp[evHX] at h
  ·simp only[Option.bind_eq_some_iff,Option.map_eq_some_iff] at ht
   obtain⟨x',hx,y',hy,rfl⟩:=ht
   simp[evHX] at h
  ·simp only[Option.map_eq_some_iff] at ht
   obtain⟨az,has,rfl⟩:=ht
   simp[evHX] at h
  ·simp only[Option.map_eq_some_iff] at ht
   obtain⟨az,has,rfl⟩:=ht
   simp[evHX] at h
  ·cases ht
 all_goals (first | (cases ht;done) | (simp at ht;done))
end
open Go
def nilSl:Operand->Bool
 | .const (.slice Option.none 0 0)=>true
 | _=>false
def zeroC:Operand->Bool
 | .const (.int _ 0)=>true
 | _=>false
def zeroO:Option Operand->Bool
 | Option.none=>true
 | some x=>zeroC x
def trH2(P:Program):Op->Option HOp
 | .makeFunc fn first captured=>match fn,captured.toList,first.toList with
   | .func f,[],x::r=>(trOs (x::r)).map (.bm f)
   | _,_,_=>Option.none
 | .binOp .eql xt x y _=>(sliceP P xt).bind fun _=>if nilSl y then (trO x).map (.snil false) else Option.none
 | .binOp .neq xt x y _=>(sliceP P xt).bind fun _=>if nilSl y then (trO x).map (.snil true) else Option.none
 | .slice t x lo (some hi) (some mx)=>(sliceP P t).bind fun et=>(szP P et).bind fun _=>if zeroO lo&&zeroC hi&&zeroC mx then (trO x).map .slc0 else Option.none
 | .call c=>match c.callee,c.args.toList,c.argTypes.toList with
   | .builtin .copy,[d,s],[t,t']=>if t=t' then (sliceP P t).bind fun et=>(szP P et).bind fun sz=>if 0<sz then (trO d).bind fun d'=>(trO s).map fun s'=>.copy sz d' s' else Option.none else Option.none
   | _,_,_=>Option.none
 | _=>Option.none
def trH(P:Program)(op:Op):Option HOp:=match trH2 P op with
 | some y=>some y
 | Option.none=>(trOp P op).map .x
section
variable {P:Program} {n:Nat} {w:World} {L:LM} {A:AM} {st:HSt} {a:Act} {g:Nat->HV} {o:Oper} {Q:Exit->Act->World->Prop} {C:Calls'}
theorem run_equal_slnil{t e:TypeId}(hu:P.underlying t=some (.slice e)){ad:Addr}{l c:Nat}:∀d,(Op.equalIn (d+1) t (.slice (some ad) l c) (.slice Option.none 0 0)).run P w = .ok false w:=by
 intro d
 simp[Op.equalIn,run_underlying' hu]
theorem okH_snil(I:HInv n w L A st a g){neg:Bool}{xt yt et:TypeId}{x y:Operand}{x':XO}(ho:o.op = .binOp (if neg then .neq else .eql) xt x y yt)(hx:trO x=some x')(ht:sliceP P xt=some et)(hy:nilSl y=true)
 {r off m z:Nat}(e:lookHG g x' = .row r off m z):ValH P o a w L A (.p (.bool neg)):=by
 have H:=I.look hx
 rw[e] at H
 have hy':a.eval y = .slice Option.none 0 0:=by
  unfold nilSl at hy
  split at hy
  ·rfl
  ·cases hy
 generalize hu:a.eval x=u at H
 cases H with
 | row _ _ _ _ b j cap ha hl h=>
   have:=ok_eq (P:=P) I.inv (neg:=neg) (o:=o) (xt:=xt) (yt:=yt) (x:=x) (y:=y) (b:=false) ho hu hy' (run_eqGuard_no (by simp) (by simp)) (by rintro op (rfl|rfl) <;> simp[Go.binOp]) (run_equal_slnil (sliceP_some ht) 9999)
   rw[Bool.xor_false] at this
   exact this.toH rfl
theorem zeroC_eval{x:Operand}(h:zeroC x=true):∃k,a.eval x = .int k 0:=by
 unfold zeroC at h
 split at h
 ·exact⟨_,rfl⟩
 ·cases h
theorem okH_slc0(I:HInv n w L A st a g){t et sz:Nat}{x hi mx:Operand}{lo:Option Operand}{x':XO}(ho:o.op = .slice t x lo (some hi) (some mx))(hx:trO x=some x')(ht:sliceP P t=some et)(hz:szP P et=some sz)
 (h1:zeroO lo=true)(h2:zeroC hi=true)(h3:zeroC mx=true)(e:(∃r off m z,lookHG g x' = .row r off m z)\/lookHG g x' = .p .nils\/∃k cs,lookHG g x' = .p (.sl k cs)):ValH P o a w L A (.p .nils):=by
 have H:=I.look hx
 obtain⟨k2,e2⟩:=zeroC_eval (a:=a) h2
 obtain⟨k3,e3⟩:=zeroC_eval (a:=a) h3
 have key:∀(ad:Option Addr) (ln cap:Nat),a.eval x = .slice ad ln cap->ValH P o a w L A (.p .nils):=fun ad ln cap hu=>by
  have hb:(Instr.sliceBounds true ln cap (lo.map a.eval) (some (a.eval hi)) (some (a.eval mx))).run P w = .ok (0,0,0) w:=by
   cases lo with
   | none=>simp[Instr.sliceBounds,Instr.sliceBound,e2,e3,asIntOf]
   | some y=>
     obtain⟨k4,e4⟩:=zeroC_eval (a:=a) (x:=y) h1
     simp[Instr.sliceBounds,Instr.sliceBound,e2,e3,e4,asIntOf]
  refine⟨.slice ad 0 0,?_,.p _ _ rfl (.nils _ _)⟩
  simp[execOp,ho,Instr.sliceAt,Instr.slice,run_underlying' (sliceP_some ht),hu,hb,run_sizeOf' hz]
 rcases e with⟨r,off,m,z,e⟩|e|⟨k,cs,e⟩
 ·rw[e] at H
  generalize hu:a.eval x=u at H key
  cases H with
  | row _ _ _ _ b j cap ha hl h=>exact key _ _ _ rfl
 ·rw[e] at H
  have H:=H.pv.2
  generalize hu:a.eval x=u at H key
  cases H with
  | nils=>exact key _ _ _ rfl
 ·rw[e] at H
  have H:=H.pv.2
  generalize hu:a.eval x=u at H key
  cases H with
  | sl=>exact key _ _ _ rfl
  | sl0=>exact key _ _ _ rfl
theorem evHV_val(I:HInv n w L A st a g){y:HOp}(ht:trH2 P o.op=some y){v:HV}(h:evHV (lookHG g) st y=some v):ValH P o a w L A v:=by
 cases hop:o.op <;> rw[hop] at ht <;> simp only[trH2,reduceCtorEq] at ht
 case makeFunc fn fi cs=>
  split at ht
  ·rename_i f x r hcs hfi
   simp only[Option.map_eq_some_iff] at ht
   obtain⟨fi',hfi',rfl⟩:=ht
   simp only[evHV,Option.some.injEq] at h
   subst h
   exact okH_bm I hop hcs (by rw[hfi];exact hfi')
  ·cases ht
 case binOp op xt x y' yt=>
  cases op <;> simp only[reduceCtorEq] at ht
  case eql=>
   simp only[Option.bind_eq_some_iff] at ht
   obtain⟨et,het,ht⟩:=ht
   split at ht
   ·rename_i hn
    simp only[Option.map_eq_some_iff] at ht
    obtain⟨x',hx,rfl⟩:=ht
    simp only[evHV] at h
    split at h
    ·rename_i r off m z e
     obtain rfl:=Option.some.inj h
     exact okH_snil I (neg:=false) (by simpa using hop) hx het hn e
    ·cases h
   ·cases ht
  case neq=>
   simp only[Option.bind_eq_some_iff] at ht
   obtain⟨et,het,ht⟩:=ht
   split at ht
   ·rename_i hn
    simp only[Option.map_eq_some_iff] at ht
    obtain⟨x',hx,rfl⟩:=ht
    simp only[evHV] at h
    split at h
    ·rename_i r off m z e
     obtain rfl:=Option.some.inj h
     exact okH_snil I (neg:=true) (by simpa using hop) hx het hn e
    ·cases h
   ·cases ht
 case slice t x lo hi mx=>
  cases hi with
  | none=>cases ht
  | some hi=>
    cases mx with
    | none=>cases ht
    | some mx=>
      simp only[Option.bind_eq_some_iff] at ht
      obtain⟨et,het,sz,hsz,ht⟩:=ht
      split at ht
      ·rename_i hc
       simp only[Bool.and_eq_true] at hc
       simp only[Option.map_eq_some_iff] at ht
       obtain⟨x',hx,rfl⟩:=ht
       simp only[evHV] at h
       have fin:∀v',some v'=some v->v' = .p .nils->((∃r off m z,lookHG g x' = .row r off m z)\/lookHG g x' = .p .nils\/∃k cs,lookHG g x' = .p (.sl k cs))->ValH P o a w L A v:=fun v' h1 h2 h3=>by
        simp only[Option.some.injEq] at h1
        subst h1;subst h2
        exact okH_slc0 I hop hx het hsz hc.1.1 hc.1.2 hc.2 h3
       split at h
       ·rename_i r off m z e;exact fin _ h rfl (.inl ⟨r,off,m,z,e⟩)
       ·rename_i e;exact fin _ h rfl (.inr (.inl e))
       ·rename_i k cs e;exact fin _ h rfl (.inr (.inr ⟨k,cs,e⟩))
       ·cases h
      ·cases ht
 case call c=>
  split at ht
  ·split at ht
   ·simp only[Option.bind_eq_some_iff] at ht
    obtain⟨et,het,sz,hsz,ht⟩:=ht
    split at ht
    ·simp only[Option.bind_eq_some_iff,Option.map_eq_some_iff] at ht
     obtain⟨d',hd,s',hs,rfl⟩:=ht
     simp[evHV] at h
    ·cases ht
   ·cases ht
  ·cases ht
theorem trH_some{op:Op}{y:HOp}(h:trH P op=some y):trH2 P op=some y\/∃x,y = .x x/\trOp P op=some x:=by
 unfold trH at h
 split at h
 ·rename_i z hz;obtain rfl:=Option.some.inj h;exact .inl hz
 ·simp only[Option.map_eq_some_iff] at h
  obtain⟨x,hx,rfl⟩:=h
  exact .inr ⟨x,rfl,hx⟩
theorem trH2_x{op:Op}{x:XOp}:trH2 P op≠some (.x x):=by
 intro h
 unfold trH2 at h
 split at h
 ·split at h
  ·simp only[Option.map_eq_some_iff] at h;obtain⟨_,_,h⟩:=h;cases h
  ·cases h
 ·simp only[Option.bind_eq_some_iff] at h
  obtain⟨_,_,h⟩:=h
  split at h
  ·simp only[Option.map_eq_some_iff] at h;obtain⟨_,_,h⟩:=h;cases h
  ·cases h
 ·simp only[Option.bind_eq_some_iff] at h
  obtain⟨_,_,h⟩:=h
  split at h
  ·simp only[Option.map_eq_some_iff] at h;obtain⟨_,_,h⟩:=h;cases h
  ·cases h
 ·simp only[Option.bind_eq_some_iff] at h
  obtain⟨_,_,_,_,h⟩:=h
  split at h
  ·simp only[Option.map_eq_some_iff] at h;obtain⟨_,_,h⟩:=h;cases h
  ·cases h
 ·split at h
  ·split at h
   ·simp only[Option.bind_eq_some_iff] at h
    obtain⟨_,_,_,_,h⟩:=h
    split at h
    ·simp only[Option.bind_eq_some_iff,Option.map_eq_some_iff] at h;obtain⟨_,_,_,_,h⟩:=h;cases h
    ·cases h
   ·cases h
  ·cases h
 ·cases h
theorem stepNew(I:HInv n w L A st a g)(hn:n<=HK){d:Nat}(hd:d<n)(ho:o.dst=some d)(vs:Array Value)(t:TypeId){u:Value}{v:HV}(hr:(execOp a.eval o).run P w = .ok (.value u) { w with heap:=w.heap.push (.cells vs t) })
 (hv:∀(w':World) (L':LM),(∀j,j<vs.size->L' w.heap.size j = .own d [] j)->(∀j,j<vs.size->cv w' w.heap.size j=vs.getD j undef)->(∀x ux,RepH w L A x ux->RepH w' L' A x ux)->RepS w' L' A d v u):
 HStep P n o a w L A (fun t=>if t=d then v else g t) st Q:=by
 have G:=grows_new (I.ok.wf.drop d []) (noTop_drop L d) vs t
 obtain⟨I',E⟩:=I.slot hn hd (v:=v) (u:=u) G (newL_labels (I.ok.wf.drop d []) _ d) fun E=>hv _ _ (fun j hj=>newL_at _ hj) (fun j hj=>by simp[cv,cell_new,hj,Array.getD]) fun x ux H=>H.evo E I.ok.wf
 unfold HStep Oper.wp
 rw[hr]
 simp only[Oper.upon,ho]
 exact⟨_,A,I',E⟩
theorem evHN_step(I:HInv n w L A st a g)(hn:n<=HK){x:XOp}(ht:trOp P o.op=some x){d:Nat}(ho:o.dst=some d)(hd:d<n){v:HV}(h:evHN (lookHG g) x=some v):HStep P n o a w L A (fun t=>if t=d then v else g t) st Q:=by
 unfold evHN at h
 split at h
 ·rename_i x'
  split at h
  ·rename_i hc
   obtain rfl:=Option.some.inj h
   obtain⟨t,y,hop,hy⟩:∃t y,o.op = .box t y/\trO y=some x':=by
    cases hop:o.op <;> rw[hop] at ht <;> simp only[trOp] at ht
    case box t y=>
     simp only[Option.map_eq_some_iff,XOp.box.injEq] at ht
     obtain⟨y',hy,rfl⟩:=ht
     exact⟨t,y,rfl,hy⟩
    case call c=>
     exfalso
     have:∀{α:Type} {o:Option α} {f:α->XOp},(∀y,f y ≠ .box x')->o.map f≠some (.box x'):=fun h1 h2=>by
      simp only[Option.map_eq_some_iff] at h2;obtain⟨y,_,h2⟩:=h2;exact h1 y h2
     unfold trCall at ht
     split at ht
     ·split at ht
      ·exact this (fun _=>by simp) ht
      ·exact this (fun _=>by simp) ht
      ·simp at ht
      ·cases ht
     ·split at ht
      ·simp only[Option.bind_eq_some_iff] at ht
       obtain⟨_,_,_,_,_,_,_,_,ht⟩:=ht
       split at ht
       ·simp only[Option.bind_eq_some_iff,Option.map_eq_some_iff] at ht;obtain⟨_,_,_,_,ht⟩:=ht;cases ht
       ·cases ht
      ·cases ht
     ·simp only[Option.bind_eq_some_iff,Option.map_eq_some_iff] at ht;obtain⟨_,_,_,_,ht⟩:=ht;cases ht
     ·simp only[Option.bind_eq_some_iff,Option.map_eq_some_iff] at ht;obtain⟨_,_,_,_,ht⟩:=ht;cases ht
     ·exact this (fun _=>by simp) ht
     ·exact this (fun _=>by simp) ht
     ·cases ht
    case binOp op xt x y yt=>
     exfalso
     simp only[Option.bind_eq_some_iff] at ht
     obtain⟨_,_,_,_,ht⟩:=ht
     cases op <;> simp only[trBin] at ht
     case eql=>split at ht <;> first | (simp at ht;done) | (simp only[Option.map_eq_some_iff] at ht;obtain⟨_,_,ht⟩:=ht;cases ht)
     case neq=>split at ht <;> first | (simp at ht;done) | (simp only[Option.map_eq_some_iff] at ht;obtain⟨_,_,ht⟩:=ht;cases ht)
     all_goals (simp at ht;done)
    case slice t y lo hi mx=>
     exfalso
     cases mx with
     | some m=>cases ht
     | none=>
       simp only at ht
       split at ht
       ·simp only[Option.bind_eq_some_iff,Option.map_eq_some_iff] at ht;obtain⟨_,_,_,_,_,_,ht⟩:=ht;cases ht
       ·simp only[Option.bind_eq_some_iff] at ht
        obtain⟨_,_,ht⟩:=ht
        split at ht
        ·simp only[Option.bind_eq_some_iff,Option.map_eq_some_iff] at ht;obtain⟨_,_,_,_,_,_,ht⟩:=ht;cases ht
        ·cases ht
       ·cases ht
    all_goals
     exfalso
     first
      | (cases ht;done)
      | (simp only[Option.map_eq_some_iff] at ht;obtain⟨_,_,ht⟩:=ht;cases ht;done)
      | (simp only[Option.bind_eq_some_iff,Option.map_eq_some_iff] at ht;obtain⟨_,_,_,_,ht⟩:=ht;cases ht;done)
      | (simp only[Option.bind_eq_some_iff,Option.map_eq_some_iff] at ht;obtain⟨_,_,_,_,_,_,ht⟩:=ht;cases ht;done)
      | (simp only[Option.bind_eq_some_iff,Option.map_eq_some_iff] at ht;obtain⟨_,_,_,_,_,_,_,_,ht⟩:=ht;cases ht;done)
      | (simp only[Option.bind_eq_some_iff] at ht;obtain⟨_,_,_,_,ht⟩:=ht;split at ht <;> first | (cases ht;done) | (simp only[Option.map_eq_some_iff] at ht;obtain⟨_,_,ht⟩:=ht;cases ht;done))
      | (simp only[Option.bind_eq_some_iff] at ht;obtain⟨_,_,_,_,_,_,ht⟩:=ht;split at ht <;> first | (cases ht;done) | (simp only[Option.map_eq_some_iff] at ht;obtain⟨_,_,ht⟩:=ht;cases ht;done))
      | (simp only[Option.bind_eq_some_iff] at ht;obtain⟨_,_,_,_,_,_,_,_,ht⟩:=ht;split at ht <;> first | (cases ht;done) | (simp only[Option.bind_eq_some_iff,Option.map_eq_some_iff] at ht;obtain⟨_,_,_,_,ht⟩:=ht;cases ht;done))
      | (split at ht <;> first | (cases ht;done) | (simp only[Option.map_eq_some_iff] at ht;obtain⟨_,_,ht⟩:=ht;cases ht;done) | (simp only[Option.bind_eq_some_iff,Option.map_eq_some_iff] at ht;obtain⟨_,_,_,_,ht⟩:=ht;cases ht;done) | (simp only[Option.bind_eq_some_iff,Option.map_eq_some_iff] at ht;obtain⟨_,_,_,_,_,_,ht⟩:=ht;cases ht;done) | (simp only[Option.bind_eq_some_iff,Option.map_eq_some_iff] at ht;obtain⟨_,_,_,_,_,_,_,_,ht⟩:=ht;cases ht;done) | (simp only[Option.bind_eq_some_iff] at ht;obtain⟨_,_,ht⟩:=ht;split at ht <;> first | (cases ht;done) | (simp only[Option.bind_eq_some_iff,Option.map_eq_some_iff] at ht;obtain⟨_,_,_,_,ht⟩:=ht;cases ht;done)))
   obtain⟨h2,h3⟩:=(I.look hy).cells hc.1
   refine stepNew I hn hd ho (a.eval y).cells t (u:=.pointer (some ⟨w.heap.size,0,Option.none⟩)) (by simp[execOp,hop,Instr.box,newVar,newRow]) fun w' L' h4 h5 h6=>.inr (.inr ⟨hc.2,w.heap.size,0,rfl,fun i hi=>?_⟩)
   rw[Nat.zero_add,h5 i (by omega)]
   exact⟨h4 i (by omega),h6 _ _ (h3 i hi)⟩
  ·cases h
 ·rename_i sz len z ps
  split at h
  ·cases h
  ·rename_i hl0
   simp only[Option.map_eq_some_iff] at h
   obtain⟨cs,hcs,rfl⟩:=h
   obtain⟨t,parts,et,hop,het,hz,hsz,hz0,hzl,hle,hps⟩:∃t parts et,o.op = .buildSlice t len parts/\sliceP P t=some et/\zeroP P et=some z/\szP P et=some sz/\0<sz/\z.length=sz/\len*sz<=2 ^ 24/\trParts (fun i=>some (i*sz,sz)) parts.toList=some ps:=by
    cases hop:o.op <;> rw[hop] at ht <;> simp only[trOp] at ht
    case buildSlice t len' parts=>
     simp only[Option.bind_eq_some_iff] at ht
     obtain⟨et,het,z',hz,sz',hsz,ht⟩:=ht
     split at ht
     ·rename_i hc
      simp only[Option.map_eq_some_iff,XOp.bsl.injEq] at ht
      obtain⟨ps',hps,rfl,rfl,rfl,rfl⟩:=ht
      exact⟨t,parts,et,rfl,het,hz,hsz,hc.1,hc.2.1,hc.2.2,hps⟩
     ·cases ht
    case call c=>
     exfalso
     unfold trCall at ht
     split at ht
     ·split at ht
      ·simp only[Option.map_eq_some_iff] at ht;obtain⟨_,_,ht⟩:=ht;cases ht
      ·simp only[Option.map_eq_some_iff] at ht;obtain⟨_,_,ht⟩:=ht;cases ht
      ·simp at ht
      ·cases ht
     ·split at ht
      ·simp only[Option.bind_eq_some_iff] at ht
       obtain⟨_,_,_,_,_,_,_,_,ht⟩:=ht
       split at ht
       ·simp only[Option.bind_eq_some_iff,Option.map_eq_some_iff] at ht;obtain⟨_,_,_,_,ht⟩:=ht;cases ht
       ·cases ht
      ·cases ht
     ·simp only[Option.bind_eq_some_iff,Option.map_eq_some_iff] at ht;obtain⟨_,_,_,_,ht⟩:=ht;cases ht
     ·simp only[Option.bind_eq_some_iff,Option.map_eq_some_iff] at ht;obtain⟨_,_,_,_,ht⟩:=ht;cases ht
     ·simp only[Option.map_eq_some_iff] at ht;obtain⟨_,_,ht⟩:=ht;cases ht
     ·simp only[Option.map_eq_some_iff] at ht;obtain⟨_,_,ht⟩:=ht;cases ht
     ·cases ht
    case binOp op xt x y yt=>
     exfalso
     simp only[Option.bind_eq_some_iff] at ht
     obtain⟨_,_,_,_,ht⟩:=ht
     cases op <;> simp only[trBin] at ht
     case eql=>split at ht <;> first | (simp at ht;done) | (simp only[Option.map_eq_some_iff] at ht;obtain⟨_,_,ht⟩:=ht;cases ht)
     case neq=>split at ht <;> first | (simp at ht;done) | (simp only[Option.map_eq_some_iff] at ht;obtain⟨_,_,ht⟩:=ht;cases ht)
     all_goals (simp at ht;done)
    case slice t y lo hi mx=>
     exfalso
     cases mx with
     | some m=>cases ht
     | none=>
       simp only at ht
       split at ht
       ·simp only[Option.bind_eq_some_iff,Option.map_eq_some_iff] at ht;obtain⟨_,_,_,_,_,_,ht⟩:=ht;cases ht
       ·simp only[Option.bind_eq_some_iff] at ht
        obtain⟨_,_,ht⟩:=ht
        split at ht
        ·simp only[Option.bind_eq_some_iff,Option.map_eq_some_iff] at ht;obtain⟨_,_,_,_,_,_,ht⟩:=ht;cases ht
        ·cases ht
       ·cases ht
    all_goals
     exfalso
     first
      | (cases ht;done)
      | (simp only[Option.map_eq_some_iff] at ht;obtain⟨_,_,ht⟩:=ht;cases ht;done)
      | (simp only[Option.bind_eq_some_iff,Option.map_eq_some_iff] at ht;obtain⟨_,_,_,_,ht⟩:=ht;cases ht;done)
      | (simp only[Option.bind_eq_some_iff,Option.map_eq_some_iff] at ht;obtain⟨_,_,_,_,_,_,ht⟩:=ht;cases ht;done)
      | (simp only[Option.bind_eq_some_iff,Option.map_eq_some_iff] at ht;obtain⟨_,_,_,_,_,_,_,_,ht⟩:=ht;cases ht;done)
      | (simp only[Option.bind_eq_some_iff] at ht;obtain⟨_,_,_,_,ht⟩:=ht;split at ht <;> first | (cases ht;done) | (simp only[Option.map_eq_some_iff] at ht;obtain⟨_,_,ht⟩:=ht;cases ht;done))
      | (simp only[Option.bind_eq_some_iff] at ht;obtain⟨_,_,_,_,_,_,ht⟩:=ht;split at ht <;> first | (cases ht;done) | (simp only[Option.map_eq_some_iff] at ht;obtain⟨_,_,ht⟩:=ht;cases ht;done))
      | (simp only[Option.bind_eq_some_iff] at ht;obtain⟨_,_,_,_,_,_,_,_,ht⟩:=ht;split at ht <;> first | (cases ht;done) | (simp only[Option.bind_eq_some_iff,Option.map_eq_some_iff] at ht;obtain⟨_,_,_,_,ht⟩:=ht;cases ht;done))
      | (split at ht <;> first | (cases ht;done) | (simp only[Option.map_eq_some_iff] at ht;obtain⟨_,_,ht⟩:=ht;cases ht;done) | (simp only[Option.bind_eq_some_iff,Option.map_eq_some_iff] at ht;obtain⟨_,_,_,_,ht⟩:=ht;cases ht;done) | (simp only[Option.bind_eq_some_iff,Option.map_eq_some_iff] at ht;obtain⟨_,_,_,_,_,_,ht⟩:=ht;cases ht;done) | (simp only[Option.bind_eq_some_iff,Option.map_eq_some_iff] at ht;obtain⟨_,_,_,_,_,_,_,_,ht⟩:=ht;cases ht;done) | (simp only[Option.bind_eq_some_iff] at ht;obtain⟨_,_,ht⟩:=ht;split at ht <;> first | (cases ht;done) | (simp only[Option.bind_eq_some_iff,Option.map_eq_some_iff] at ht;obtain⟨_,_,_,_,ht⟩:=ht;cases ht;done)))
   obtain⟨i,v,hi,hzv,H,hf⟩:=zero_pw (w:=w) (L:=L) hz
   have H1:=rep_pw H len
   obtain⟨vs,hfill,hz1,hz2,H'⟩:=fillH_pw I (trParts_ok hps) (cs:=(rep len z).map .p) (vs:=(Array.range (len*z.length)).map (v.cells[·% v.cells.size]!)) (by simpa using H1.sz) (fun k hk=>by
    simp only[List.getElem_map]
    have hk':k<(rep len z).length:=by simpa using hk
    refine .p _ _ (free_loose ?_) (H1.rep k hk')
    rw[rep_get];exact hf _ (List.getElem_mem _)) hcs
   have hlen:cs.length=len*sz:=by rw[hz2];simp[rep_length,hzl]
   have hpos:0<len*sz:=Nat.mul_pos (by omega) hz0
   have hr:(execOp a.eval o).run P w = .ok (.value (.slice (some ⟨w.heap.size,0,Option.none⟩) len len)) { w with heap:=w.heap.push (.cells vs et) }:=by
    have e:(Array.map (fun x=>(x.1,a.eval x.2)) parts).toList=parts.toList.map fun x=>(x.1,a.eval x.2):=by simp
    have hle':¬len*sz>2 ^ 24:=by omega
    have h0:¬len*sz=0:=by omega
    have e3:len*sz=len*z.length:=by rw[hzl]
    simp only[execOp,hop,Instr.buildSlice,Sem.run_bind,run_underlying' (sliceP_some het),Result.andThen_ok,run_sizeOf' hsz,hle',if_false,h0,run_zeroValue' hi hzv,Sem.run_pure]
    rw[e3,e,hfill]
    simp[newRow]
   refine stepNew I hn hd ho vs et hr fun w' L' h4 h5 h6=>.inr (.inr ⟨w.heap.size,len,rfl,hlen,Nat.le_refl _,hpos,fun j hj=>h4 j (by omega),fun i hi=>?_⟩)
   rw[h5 i (by omega)]
   exact h6 _ _ (H' i hi)
 ·cases h
theorem evHP_step(hC:CallOk P C)(I:HInv n w L A st a g)(hn:n<=HK){y:HOp}(ht:trH P o.op=some y){d:Nat}(ho:o.dst=some d)(hd:d<n){v:HV}(h:evHP C (lookHG g) (lookPG g) st y=some v):
 HStep P n o a w L A (fun t=>if t=d then v else g t) st Q:=by
 rcases trH_some ht with h2|⟨x,rfl,hx⟩
 ·have hy:evHV (lookHG g) st y=some v:=by
   cases y with
   | x x=>exact absurd h2 trH2_x
   | _=>simpa[evHP] using h
  exact (evHV_val I h2 hy).step I hn hd ho
 ·simp only[evHP] at h
  split at h
  ·rename_i v' hv'
   obtain rfl:=Option.some.inj h
   exact (evHX_val I hx hv').step I hn hd ho
  ·split at h
   ·rename_i pv hpv
    split at h
    ·rename_i hok
     obtain rfl:=Option.some.inj h
     exact takeP hC I hn hx ho hd hpv hok
    ·cases h
   ·exact evHN_step I hn hx ho hd h
end
open Go
section
variable {P:Program} {n:Nat} {w w':World} {L:LM} {A:AM} {st:HSt} {a:Act} {g:Nat->HV}
theorem getElem?_setI{α:Type}(l:List α)(i:Nat)(x:α)(j:Nat):(l.set i x)[j]? = if j=i/\i<l.length then some x else l[j]?:=by
 rw[List.getElem?_set]
 by_cases h:i=j
 ·subst h
  by_cases h':i<l.length
  ·simp[h']
  ·simp[h',List.getElem?_eq_none (Nat.le_of_not_lt h')]
 ·rw[if_neg h,if_neg (by omega)]
theorem HInv.drew(I:HInv n w L A st a g)(hn:n<=HK):HInv n w.drew L A st a g/\Evo w L A w.drew L A:=by
 have G:=Grows.drew I.ok.wf
 have G1:Go1 w L w.drew L:=⟨G.wf,G.ext,fun _ _ _=>rfl,fun b j h=>G.cell b j (by intro e;rw[e] at h;exact h)⟩
 have E:=I.ok.evo_grow G1
 exact⟨I.stay hn (I.ok.grow G1 fun _ _ _ _ _ h _=>h) E ⟨fun _ _ _ _ _ _ _ _=>rfl,fun b j r p i e _ _=>G.cell b j (by rw[e];simp)⟩,E⟩
theorem HInv.newBlk(I:HInv n w L A st a g)(hn:n<=HK){d:Nat}(hd:d<n)(vs:Array Value)(t:TypeId){k:HB}{cs:List HV}(hk:(k = .box cs/\vs.size=cs.length)\/∃sz len,k = .row sz len cs/\cs.length=len*sz)(h0:0<vs.size)(hle:cs.length<=vs.size)
 (hR:∀i (hi:i<cs.length),RepH w L A cs[i] (vs.getD i undef)){v:HV}{u:Value}(hv:∀(w':World) (L':LM) (A':AM),A.length<A'.length->A'[A.length]? = some (some (w.heap.size,0,vs.size))->RepH w' L' A' v u):
 ∃L' A',HInv n { w with heap:=w.heap.push (.cells vs t) } L' A' (st++[k]) (a.put (some d) u) (fun t=>if t=d then v else g t)/\Evo w L A { w with heap:=w.heap.push (.cells vs t) } L' A':=by
 have nt:NoTop L (A.length+HK):=fun b j i=>I.ok.noN b j [] i
 have G:=grows_new I.ok.wf nt vs t
 have ne:∀{b j},(L b j).big->L b j ≠ .out:=fun {b j} h e=>by rw[e] at h;exact h
 have G1:Go1 w L { w with heap:=w.heap.push (.cells vs t) } (newL L w.heap.size vs.size (A.length+HK)):=⟨G.wf,G.ext,fun b j h=>G.lab b j (ne h),fun b j h=>G.cell b j (ne h)⟩
 have hl:∀b' j r p i,newL L w.heap.size vs.size (A.length+HK) b' j = .own r p i->HK<=r->L b' j = .own r p i\/(b'=w.heap.size/\r=A.length+HK/\p=[]/\j=0+i/\i<vs.size):=fun b' j r p i h hr=>by
  unfold newL at h
  split at h
  ·rename_i hb
   split at h
   ·rename_i hj
    simp only[Lab.own.injEq] at h
    exact .inr ⟨hb,h.1.symm,h.2.1.symm,by omega,by omega⟩
   ·cases h
  ·exact .inl h
 have lt:∀(a o m:Nat),A[a]? ≠ some (some (w.heap.size,o,m)):=fun a' o m h=>by
  have hlt:a'<A.length:=(List.getElem?_eq_some_iff.1 h).1
  rw[I.ok.len] at hlt
  have:=(I.ok.blk a' _ o m _ h (List.getElem?_eq_getElem hlt)).1
  omega
 have E0:=(I.ok.evo_grow G1).push (b:=w.heap.size) (o:=0) (m:=vs.size) (.inl (Nat.le_refl _))
 have C:CellsOk { w with heap:=w.heap.push (.cells vs t) } (newL L w.heap.size vs.size (A.length+HK)) (A++[some (w.heap.size,0,vs.size)]) A.length w.heap.size 0 vs.size cs:=by
  refine⟨fun i hi=>by rw[Nat.zero_add];exact newL_at L hi,hle,fun i hi=>?_⟩
  have hi':i<vs.size:=by omega
  have e:cv { w with heap:=w.heap.push (.cells vs t) } w.heap.size (0+i)=vs.getD i undef:=by
   simp[cv,cell_new,hi',Array.getD]
  rw[e]
  exact (hR i hi).evo E0 I.ok.wf
 have O:=I.ok.push G1 (b:=w.heap.size) (o:=0) (m:=vs.size) (k:=k) (fun a' o m ks vs' h _=>lt a' o m h) (fun ks vs' h=>by
  rcases hk with⟨h1,_⟩|⟨sz,len,h1,_⟩ <;> rw[h1] at h <;> cases h) (by simp) hl (by
  rcases hk with⟨rfl,h1⟩|⟨sz,len,rfl,h1⟩
  ·exact⟨h1,C⟩
  ·exact⟨rfl,h1,h0,C⟩)
 refine⟨_,_,I.put hn hd O E0 ⟨fun b j r p i e hr _=>G.lab b j (by rw[e];simp),fun b j r p i e hr _=>G.cell b j (by rw[e];simp)⟩ (.inl (hv _ _ _ (by simp) (by simp))),E0⟩
theorem HInv.wrote(I:HInv n w L A st a g)(hn:n<=HK){i b o m lo:Nat}{k k':HB}{cs cs':List HV}{us:List Value}(hA:A[i]? = some (some (b,o,m)))(hk:st[i]? = some k)
 (hkk:(k = .box cs/\k' = .box cs'/\cs'.length=cs.length)\/∃sz l l',k = .row sz l cs/\k' = .row sz l' cs'/\cs'.length=l'*sz)(W:Wrote w w' b (o+lo) us)(hlo:lo+us.length<=m)(hle:cs'.length<=m)
 (hR:∀q (hq:q<cs'.length),(lo<=q/\q<lo+us.length/\RepH w L A cs'[q] (us.getD (q-lo) undef))\/((q<lo\/lo+us.length<=q)/\∃hq':q<cs.length,cs'[q]=cs[q])):
 HInv n w' L A (st.set i k') a g/\Evo w L A w' L A:=by
 obtain⟨hb,hB⟩:=I.ok.blk _ _ _ _ _ hA hk
 have C:CellsOk w L A i b o m cs:=by
  rcases hkk with⟨rfl,rfl,_⟩|⟨sz,l,l',rfl,rfl,_⟩
  ·exact hB.2
  ·exact hB.2.2.2
 have il:i<st.length:=(List.getElem?_eq_some_iff.1 hk).1
 have Ex:Ext w L w' L:=W.ext (fun j h1 h2=>by
  have:=C.1 (j-o) (by omega)
  rw[show o+(j-o)=j by omega] at this
  exact⟨_,_,_,this⟩) fun _ _ _=>rfl
 have E:Evo w L A w' L A:=⟨Ex.os,Ex.tape,Ex.output,Ex.size,Ex.lab,fun b hb=>.inr (Ex.blk b hb),Nat.le_refl _,fun _ _=>.inl rfl,fun a b o m h _=>.inl ⟨a,o,m,h⟩⟩
 have other:∀b' j r p q,L b' j = .own r p q->r≠i+HK->w'.cell? ⟨b',j,Option.none⟩=w.cell? ⟨b',j,Option.none⟩:=fun b' j r p q h hr=>W.cell (by
  by_cases hbb:b'=b
  ·subst hbb
   right
   by_cases hj:o+lo<=j/\j<o+lo+us.length
   ·exfalso
    have:=C.1 (j-o) (by omega)
    rw[show o+(j-o)=j by omega,h] at this
    simp only[Lab.own.injEq] at this
    exact hr this.1
   ·omega
  ·exact .inl hbb)
 have O:HOk w' L A (st.set i k'):=by
  refine⟨⟨I.ok.wf.inj,fun b j h=>?_,fun b j r p q h=>by rw[W.frozen];exact I.ok.wf.thaw _ _ _ _ _ h⟩,by simpa using I.ok.len,I.ok.lab,fun a' k1 h h1=>?_,fun a' b1 o1 m1 k1 h h1=>?_,fun a1 a2 b1 o1 m1 o2 m2 ks vs h1 h2 h3=>?_⟩
  ·obtain⟨v,hv⟩:=I.ok.wf.ex b j h
   exact W.ex hv
  ·rw[getElem?_setI] at h
   split at h
   ·rename_i hc;rw[hc.1];exact⟨_,hA⟩
   ·exact I.ok.live _ _ h h1
  ·rw[getElem?_setI] at h1
   split at h1
   ·rename_i hc
    obtain⟨rfl,_⟩:=hc
    simp only[Option.some.injEq] at h1
    subst h1
    rw[hA] at h
    simp only[Option.some.injEq,Prod.mk.injEq] at h
    obtain⟨rfl,rfl,rfl⟩:=h
    refine⟨by rw[W.size];exact hb,?_⟩
    have C':CellsOk w' L A a' b o m cs':=by
     refine⟨C.1,hle,fun q hq=>?_⟩
     rcases hR q hq with⟨h1,h2,h3⟩|⟨h1,hq',h2⟩
     ·have e:=W.cell_new (k:=q-lo) (by omega)
      rw[show o+lo+(q-lo)=o+q by omega] at e
      rw[e]
      have:=h3.evo E I.ok.wf
      rwa [show us.getD (q-lo) undef=us[q-lo]'(by omega) by simp[List.getD,show q-lo<us.length by omega]] at this
     ·rw[h2,cv_eq (W.cell (b':=b) (j:=o+q) (by right;omega))]
      exact (C.2.2 q hq').evo E I.ok.wf
    rcases hkk with⟨rfl,rfl,h4⟩|⟨sz,l,l',rfl,rfl,h4⟩
    ·exact⟨by rw[h4];exact hB.1,C'⟩
    ·exact⟨hB.1,h4,hB.2.2.1,C'⟩
   ·rename_i hc
    have hne:a'≠i:=fun e=>hc ⟨e,il⟩
    obtain⟨h2,h3⟩:=I.ok.blk _ _ _ _ _ h h1
    refine⟨by rw[W.size];exact h2,h3.mono (fun _ _=>rfl) (fun q hq=>other _ _ _ _ _ (h3.big hq) (by omega)) (fun es c h=>Ex.map h) (fun v _ u H=>H.evo E I.ok.wf) fun v u hf H=>H.evo E I.ok.wf (free_refs hf)⟩
  ·rw[getElem?_setI] at h3
   split at h3
   ·simp only[Option.some.injEq] at h3
    rcases hkk with⟨_,h4,_⟩|⟨sz,l,l',_,h4,_⟩ <;> rw[h4] at h3 <;> cases h3
   ·exact I.ok.uniq a1 a2 b1 o1 m1 o2 m2 ks vs h1 h2 h3
 exact⟨I.stay hn O E ⟨fun _ _ _ _ _ _ _ _=>rfl,fun b' j r p q h hr _=>other b' j r p q h (by omega)⟩,E⟩
def killL(i:Nat):Lab->Lab
 | .own r p j=>if r=i+HK then .out else .own r p j
 | l=>l
theorem killL_own{i:Nat}{l:Lab}{r:Nat}{p:List Nat}{j:Nat}(h:killL i l = .own r p j):l = .own r p j/\r≠i+HK:=by
 cases l with
 | out=>cases h
 | sh=>cases h
 | own r' p' j'=>
   simp only[killL] at h
   split at h
   ·cases h
   ·rename_i hc
    simp only[Lab.own.injEq] at h
    obtain⟨rfl,rfl,rfl⟩:=h
    exact⟨rfl,hc⟩
theorem killL_keep{i r:Nat}{p:List Nat}{j:Nat}(h:r≠i+HK):killL i (.own r p j) = .own r p j:=by simp[killL,h]
theorem HInv.kill(I:HInv n w L A st a g)(hn:n<=HK)(i:Nat):HInv n w (fun b j=>killL i (L b j)) (A.set i Option.none) (st.set i .dead) a g/\Evo w L A w (fun b j=>killL i (L b j)) (A.set i Option.none):=by
 have ne:∀{a':Nat} {x:Nat×Nat×Nat},(A.set i Option.none)[a']? = some (some x)->a'≠i/\A[a']? = some (some x):=fun {a' x} h=>by
  rw[getElem?_setI] at h
  split at h
  ·cases h
  ·rename_i hc
   refine⟨fun e=>?_,h⟩
   subst e
   have:a'<A.length:=(List.getElem?_eq_some_iff.1 h).1
   exact hc ⟨rfl,this⟩
 have E:Evo w L A w (fun b j=>killL i (L b j)) (A.set i Option.none):=⟨rfl,rfl,rfl,Nat.le_refl _,fun b j _ h=>by rcases h with h|h <;> rw[h]<;>rfl,fun b _=>.inr (.refl _ _ _),by simp,fun a' ha=>by
  rw[getElem?_setI]
  split
  ·exact .inr rfl
  ·exact .inl rfl,fun a' b o m h _=>.inl ⟨a',o,m,(ne h).2⟩⟩
 have O:HOk w (fun b j=>killL i (L b j)) (A.set i Option.none) (st.set i .dead):=by
  refine⟨I.ok.wf.relabel rfl rfl fun l l' r p j h h'=>?_,by simpa using I.ok.len,fun b j r p q h hr=>?_,fun a' k h hk=>?_,fun a' b o m k h hk=>?_,fun a1 a2 b o m o' m' ks vs h1 h2 h3=>?_⟩
  ·obtain⟨rfl,_⟩:=killL_own h
   obtain⟨rfl,_⟩:=killL_own h'
   exact⟨rfl,_,_,_,rfl⟩
  ·obtain⟨h1,h2⟩:=killL_own h
   obtain⟨h3,a',o,m,h4,h5,h6⟩:=I.ok.lab _ _ _ _ _ h1 hr
   refine⟨h3,a',o,m,h4,?_,h6⟩
   rw[getElem?_setI,if_neg (by omega)];exact h5
  ·rw[getElem?_setI] at h
   split at h
   ·simp only[Option.some.injEq] at h;exact absurd h.symm hk
   ·rename_i hc
    obtain⟨x,hx⟩:=I.ok.live a' k h hk
    refine⟨x,?_⟩
    have:a'<st.length:=(List.getElem?_eq_some_iff.1 h).1
    rw[getElem?_setI,if_neg (fun e=>hc ⟨e.1,by rw[←I.ok.len];exact e.2⟩)];exact hx
  ·obtain⟨h1,h2⟩:=ne h
   rw[getElem?_setI,if_neg (fun e=>h1 e.1)] at hk
   obtain⟨h3,h4⟩:=I.ok.blk _ _ _ _ _ h2 hk
   exact⟨h3,h4.mono (fun q hq=>by rw[h4.big hq];exact killL_keep (by omega)) (fun _ _=>rfl) (fun es c h=>h) (fun v _ u H=>H.evo E I.ok.wf) fun v u hf H=>H.evo E I.ok.wf (free_refs hf)⟩
  ·obtain⟨h4,h5⟩:=ne h1
   obtain⟨h6,h7⟩:=ne h2
   rw[getElem?_setI,if_neg (fun e=>h4 e.1)] at h3
   exact I.ok.uniq a1 a2 b o m o' m' ks vs h5 h7 h3
 exact⟨I.stay hn O E ⟨fun b j r p q h hr _=>by rw[h];exact killL_keep (by omega),fun _ _ _ _ _ _ _ _=>rfl⟩,E⟩
def renL(i N:Nat):Lab->Lab
 | .own r p j=>if r=i+HK then .own (N+HK) p j else .own r p j
 | l=>l
theorem HInv.rename(I:HInv n w L A st a g)(hn:n<=HK){i b o m:Nat}{k:HB}(hA:A[i]? = some (some (b,o,m)))(hk:st[i]? = some k)(hkm:∀ks vs,k≠HB.map ks vs):
 ∃L',HInv n w L' (A.set i Option.none++[some (b,o,m)]) (st.set i .dead++[k]) a g/\Evo w L A w L' (A.set i Option.none++[some (b,o,m)]):=by
 have il:i<A.length:=(List.getElem?_eq_some_iff.1 hA).1
 have iN:i≠A.length:=by omega
 have cases_:∀{a':Nat} {x:Nat×Nat×Nat},(A.set i Option.none++[some (b,o,m)])[a']? = some (some x)->(a'=A.length/\x=(b,o,m))\/(a'≠i/\a'≠A.length/\A[a']? = some (some x)):=fun {a' x} h=>by
  rw[getElem?_snoc] at h
  simp only[List.length_set] at h
  split at h
  ·rename_i e;simp only[Option.some.injEq] at h;exact .inl ⟨e,h.symm⟩
  ·rename_i e
   rw[getElem?_setI] at h
   split at h
   ·cases h
   ·rename_i hc
    exact .inr ⟨fun e'=>hc ⟨e',il⟩,e,h⟩
 have at_:∀{a':Nat},a'≠i->a'≠A.length->(A.set i Option.none++[some (b,o,m)])[a']? = A[a']?:=fun {a'} h1 h2=>by
  rw[getElem?_snoc]
  simp only[List.length_set]
  rw[if_neg h2,getElem?_setI,if_neg (fun e=>h1 e.1)]
 have atS:∀{a':Nat},a'≠i->a'≠A.length->(st.set i .dead++[k])[a']? = st[a']?:=fun {a'} h1 h2=>by
  rw[getElem?_snoc]
  simp only[List.length_set]
  rw[if_neg (by rw[←I.ok.len];exact h2),getElem?_setI,if_neg (fun e=>h1 e.1)]
 have atN:(A.set i Option.none++[some (b,o,m)])[A.length]? = some (some (b,o,m)):=by
  rw[getElem?_snoc];simp
 have atSN:(st.set i .dead++[k])[A.length]? = some k:=by
  rw[getElem?_snoc];simp[I.ok.len]
 have atSi:(st.set i .dead++[k])[i]? = some .dead:=by
  rw[getElem?_snoc]
  simp only[List.length_set]
  rw[if_neg (by rw[←I.ok.len];exact iN),getElem?_setI,if_pos ⟨rfl,by rw[←I.ok.len];exact il⟩]
 obtain⟨hb,hB⟩:=I.ok.blk _ _ _ _ _ hA hk
 have E:Evo w L A w (fun b j=>renL i A.length (L b j)) (A.set i Option.none++[some (b,o,m)]):=⟨rfl,rfl,rfl,Nat.le_refl _,fun b j _ h=>by rcases h with h|h <;> rw[h]<;>rfl,fun b _=>.inr (.refl _ _ _),by simp,fun a' ha=>by
  by_cases h:a'=i
  ·subst h
   right
   rw[getElem?_snoc]
   simp only[List.length_set]
   rw[if_neg iN,getElem?_setI,if_pos ⟨rfl,il⟩]
  ·exact .inl (at_ h (by omega)),fun a' b1 o1 m1 h _=>by
  rcases cases_ h with⟨_,h2⟩|⟨_,_,h2⟩
  ·simp only[Prod.mk.injEq] at h2
   obtain⟨rfl,_,_⟩:=h2
   exact .inl ⟨i,_,_,hA⟩
  ·exact .inl ⟨a',o1,m1,h2⟩⟩
 have renOwn:∀{l:Lab} {r:Nat} {p:List Nat} {q:Nat},renL i A.length l = .own r p q->(l = .own r p q/\r≠i+HK)\/(l = .own (i+HK) p q/\r=A.length+HK):=fun {l r p q} h=>by
  cases l with
  | out=>cases h
  | sh=>cases h
  | own r' p' q'=>
    simp only[renL] at h
    split at h
    ·rename_i hr
     simp only[Lab.own.injEq] at h
     obtain⟨rfl,rfl,rfl⟩:=h
     exact .inr ⟨by rw[hr],rfl⟩
    ·rename_i hr
     simp only[Lab.own.injEq] at h
     obtain⟨rfl,rfl,rfl⟩:=h
     exact .inl ⟨rfl,hr⟩
 have O:HOk w (fun b j=>renL i A.length (L b j)) (A.set i Option.none++[some (b,o,m)]) (st.set i .dead++[k]):=by
  refine⟨⟨fun b1 j1 b2 j2 r p q h h'=>?_,fun b1 j1 h=>I.ok.wf.ex b1 j1 fun e=>h (by simp only[e];rfl),fun b1 j1 r p q h=>?_⟩,by simp[I.ok.len],fun b1 j r p q h hr=>?_,fun a' k1 h hk1=>?_,fun a' b1 o1 m1 k1 h hk1=>?_,fun a1 a2 b1 o1 m1 o2 m2 ks vs h1 h2 h3=>?_⟩
  ·rcases renOwn h with⟨h1,h2⟩|⟨h1,h2⟩ <;> rcases renOwn h' with⟨h3,h4⟩|⟨h3,h4⟩
   ·exact I.ok.wf.inj _ _ _ _ _ _ _ h1 h3
   ·rw[h4] at h1;exact absurd h1 (I.ok.noN _ _ _ _)
   ·rw[h2] at h3;exact absurd h3 (I.ok.noN _ _ _ _)
   ·exact I.ok.wf.inj _ _ _ _ _ _ _ h1 h3
  ·rcases renOwn h with⟨h1,_⟩|⟨h1,_⟩
   ·exact I.ok.wf.thaw _ _ _ _ _ h1
   ·exact I.ok.wf.thaw _ _ _ _ _ h1
  ·rcases renOwn h with⟨h1,h2⟩|⟨h1,rfl⟩
   ·obtain⟨h3,a',o1,m1,h4,h5,h6⟩:=I.ok.lab _ _ _ _ _ h1 hr
    refine⟨h3,a',o1,m1,h4,?_,h6⟩
    rw[at_ (by omega) (by have:=(List.getElem?_eq_some_iff.1 h5).1;omega)];exact h5
   ·obtain⟨h3,a',o1,m1,h4,h5,h6⟩:=I.ok.lab _ _ _ _ _ h1 (Nat.le_add_left _ _)
    obtain rfl:a'=i:=by omega
    rw[hA] at h5
    simp only[Option.some.injEq,Prod.mk.injEq] at h5
    obtain⟨rfl,rfl,rfl⟩:=h5
    exact⟨h3,A.length,_,_,rfl,atN,h6⟩
  ·by_cases h1:a'=i
   ·subst h1;rw[atSi] at h;simp only[Option.some.injEq] at h;exact absurd h.symm hk1
   ·by_cases h2:a'=A.length
    ·subst h2;exact⟨_,atN⟩
    ·rw[atS h1 h2] at h
     rw[at_ h1 h2]
     exact I.ok.live a' k1 h hk1
  ·have mono:∀{a'' b1 o1 m1 k1} (h3:BlkOk w L A a'' b1 o1 m1 k1),(∀q,q<m1->renL i A.length (L b1 (o1+q))=L b1 (o1+q))->BlkOk w (fun b j=>renL i A.length (L b j)) (A.set i Option.none++[some (b,o,m)]) a'' b1 o1 m1 k1:=fun h3 hl=>
    h3.mono hl (fun _ _=>rfl) (fun es c h=>h) (fun v _ u H=>H.evo E I.ok.wf) fun v u hf H=>H.evo E I.ok.wf (free_refs hf)
   rcases cases_ h with⟨rfl,h2⟩|⟨h1,h2,h3⟩
   ·simp only[Prod.mk.injEq] at h2
    obtain⟨rfl,rfl,rfl⟩:=h2
    rw[atSN] at hk1
    simp only[Option.some.injEq] at hk1
    subst hk1
    refine⟨hb,?_⟩
    have cells:∀cs,CellsOk w L A i b1 o1 m1 cs->CellsOk w (fun b j=>renL i A.length (L b j)) (A.set i Option.none++[some (b1,o1,m1)]) A.length b1 o1 m1 cs:=fun cs C=>⟨fun q hq=>by simp only[C.1 q hq];simp[renL],C.2.1,fun q hq=>(C.2.2 q hq).evo E I.ok.wf⟩
    cases k with
    | dead=>exact hB.elim
    | box cs=>exact⟨hB.1,cells _ hB.2⟩
    | row sz l cs=>exact⟨hB.1,hB.2.1,hB.2.2.1,cells _ hB.2.2.2⟩
    | map ks vs=>exact absurd rfl (hkm ks vs)
   ·rw[atS h1 h2] at hk1
    obtain⟨h4,h5⟩:=I.ok.blk _ _ _ _ _ h3 hk1
    exact⟨h4,mono h5 fun q hq=>by rw[h5.big hq];simp only[renL];rw[if_neg (by omega)]⟩
  ·rcases cases_ h1 with⟨rfl,h4⟩|⟨h4,h5,h6⟩
   ·rw[atSN] at h3
    simp only[Option.some.injEq] at h3
    exact absurd h3 (hkm ks vs)
   ·rw[atS h4 h5] at h3
    rcases cases_ h2 with⟨rfl,h7⟩|⟨h7,h8,h9⟩
    ·simp only[Prod.mk.injEq] at h7
     obtain⟨rfl,rfl,rfl⟩:=h7
     exact absurd (I.ok.uniq a1 i b1 o1 m1 o2 m2 ks vs h6 hA h3).symm h4
    ·exact I.ok.uniq a1 a2 b1 o1 m1 o2 m2 ks vs h6 h9 h3
 refine⟨_,I.stay hn O E ⟨fun b j r p q h hr _=>?_,fun _ _ _ _ _ _ _ _=>rfl⟩,E⟩
 rw[h];simp only[renL];rw[if_neg (by omega)]
end
open Go
theorem setCellsH_length:∀(ys cs:List HV) (i:Nat),(setCellsH cs i ys).length=cs.length
 | [],cs,i=>rfl
 | y::ys,cs,i=>by simp[setCellsH,setCellsH_length ys]
theorem setCellsH_get:∀(ys cs:List HV) (i k:Nat),i+ys.length<=cs.length->(setCellsH cs i ys)[k]? = if i<=k/\k<i+ys.length then ys[k-i]? else cs[k]?
 | [],cs,i,k,h=>by simp[setCellsH];intro h1 h2;omega
 | y::ys,cs,i,k,h=>by
   simp only[setCellsH,List.length_cons] at h ⊢
   rw[setCellsH_get ys (cs.set i y) (i+1) k (by simp;omega)]
   by_cases h1:i+1<=k/\k<i+1+ys.length
   ·rw[if_pos h1,if_pos (by omega),show k-i=(k-(i+1))+1 by omega];simp
   ·rw[if_neg h1]
    by_cases h2:k=i
    ·subst h2
     rw[if_pos (by omega),List.getElem?_set]
     simp[show k<cs.length by omega]
    ·rw[if_neg (by omega),List.getElem?_set,if_neg (by omega)]
theorem setCellsH_cases{ys cs:List HV}{i:Nat}(h:i+ys.length<=cs.length){k:Nat}(hk:k<(setCellsH cs i ys).length):
 (i<=k/\∃hk':k-i<ys.length,(setCellsH cs i ys)[k]=ys[k-i])\/((k<i\/i+ys.length<=k)/\∃hk':k<cs.length,(setCellsH cs i ys)[k]=cs[k]):=by
 have hk0:k<cs.length:=by rw[setCellsH_length] at hk;exact hk
 have:=setCellsH_get ys cs i k h
 rw[List.getElem?_eq_getElem hk] at this
 split at this
 ·rename_i hc
  have h1:k-i<ys.length:=by omega
  rw[List.getElem?_eq_getElem h1] at this
  exact .inl ⟨hc.1,h1,Option.some.inj this⟩
 ·rw[List.getElem?_eq_getElem hk0] at this
  exact .inr ⟨by omega,hk0,Option.some.inj this⟩
theorem cok_loose{w:World}{L:LM}{v:PV}{u:Value}(H:RepV w L Option.none v u)(hk:v.cok=true):v.loose=true:=by
 simp[PV.loose,none_noOwn H hk,refs_cok hk]
section
variable {P:Program} {n:Nat} {w:World} {L:LM} {A:AM} {st:HSt} {a:Act} {g:Nat->HV} {o:Oper} {Q:Exit->Act->World->Prop}
theorem slElems_run(O:HOk w L A st){x:HV}{u:Value}(V:RepH w L A x u){k sz:Nat}{cs:List HV}(h:slElems st x=some (k,cs))(hlen:cs.length=k*sz):
 ∃(xb:Option Addr) (xc:Nat) (vs:List Value),u = .slice xb k xc/\vs.length=cs.length/\(∀(q:Nat) (w':World),q<=k->w'.heap=w.heap->(Builtin.firstCells sz q u).run P w' = .ok (vs.take (q*sz)).toArray w') /\
  ∀i (hi:i<cs.length),RepH w L A cs[i] (vs.getD i undef):=by
 have cell':∀{w':World},w'.heap=w.heap->∀a,w'.cell? a=w.cell? a:=fun hw a=>by simp[World.cell?,hw]
 have nilCase:∀(ad:Option Addr) (c:Nat),k=0->cs=[]->∃(xb:Option Addr) (xc:Nat) (vs:List Value),Value.slice ad 0 c = .slice xb k xc/\vs.length=cs.length/\(∀(q:Nat) (w':World),q<=k->w'.heap=w.heap->(Builtin.firstCells sz q (Value.slice ad 0 c)).run P w' = .ok (vs.take (q*sz)).toArray w') /\
  ∀i (hi:i<cs.length),RepH w L A cs[i] (vs.getD i undef):=by
  rintro ad c rfl rfl
  refine⟨ad,c,[],rfl,rfl,fun q w' hq hw=>?_,fun i hi=>by simp at hi⟩
  obtain rfl:q=0:=by omega
  cases ad with
  | none=>simp[Builtin.firstCells]
  | some b=>simpa using run_firstCells_some (P:=P) w' sz 0 b 0 c [] (by simp) (by simp)
 have rowCase:∀(b of ln cap:Nat) (f:Nat->Value),ln=k->(∀i,i<cs.length->w.cell? ⟨b,of+i,Option.none⟩=some (f i))->(∀i (hi:i<cs.length),RepH w L A cs[i] (f i))->∃(xb:Option Addr) (xc:Nat) (vs:List Value),Value.slice (some ⟨b,of,Option.none⟩) ln cap = .slice xb k xc/\vs.length=cs.length/\(∀(q:Nat) (w':World),q<=k->w'.heap=w.heap->(Builtin.firstCells sz q (Value.slice (some ⟨b,of,Option.none⟩) ln cap)).run P w' = .ok (vs.take (q*sz)).toArray w') /\
  ∀i (hi:i<cs.length),RepH w L A cs[i] (vs.getD i undef):=by
  rintro b of ln cap f rfl hc hr
  refine⟨_,_,(List.range cs.length).map f,rfl,by simp,fun q w' hq hw=>?_,fun i hi=>?_⟩
  ·have hqs:q*sz<=ln*sz:=Nat.mul_le_mul_right _ hq
   refine run_firstCells_some w' sz q _ ln cap _ (by simp;omega) fun j v hj=>?_
   rw[addr_add,cell' hw]
   obtain⟨hlt,rfl⟩:=List.getElem?_eq_some_iff.1 hj
   simp only[List.length_take,List.length_map,List.length_range] at hlt
   simp only[List.getElem_take,List.getElem_map,List.getElem_range]
   exact hc j (by omega)
  ·have:((List.range cs.length).map f).getD i undef=f i:=by simp[List.getD,hi]
   rw[this];exact hr i hi
 unfold slElems at h
 split at h
 ·simp only[Option.some.injEq,Prod.mk.injEq] at h
  have V:=V.pv.2
  cases V with
  | nils _ ad=>exact nilCase ad 0 h.1.symm h.2.symm
 ·rename_i m ds
  simp only[Option.some.injEq,Prod.mk.injEq] at h
  obtain⟨rfl,rfl⟩:=h
  have V:=V.pv.2
  cases V with
  | sl0 _ ad c=>exact nilCase ad c rfl rfl
  | sl _ _ _ b of cap hl hs hk hc=>
    refine rowCase b of m cap (fun i=>cv w b (of+i)) rfl (fun i hi=>sp_cell O.wf (hs i (by simpa using hi))) fun i hi=>?_
    simp only[List.getElem_map]
    have hi':i<ds.length:=by simpa using hi
    exact .p _ _ (cok_loose (hc i hi') (hk i hi')) (hc i hi')
 ·rename_i r off ln z
  split at h
  ·rename_i sz' m ds hst
   split at h
   ·rename_i hle
    simp only[Option.some.injEq,Prod.mk.injEq] at h
    obtain⟨rfl,rfl⟩:=h
    obtain⟨rfl,hle⟩:=hle
    obtain⟨⟨b,o1,mm⟩,hA⟩:=O.live _ _ hst (by simp)
    obtain⟨_,h0,_,_,C⟩:=O.blk _ _ _ _ _ hA hst
    subst h0
    cases V with
    | row _ _ _ _ b' j cap ha hl hh=>
      obtain⟨rfl,h2,_⟩:=hh _ _ _ hA
      have h2:j=off:=by omega
      subst h2
      have hm:=C.2.1
      refine rowCase b' j ln cap (fun i=>cv w b' (j+i)) rfl (fun i hi=>?_) fun i hi=>?_
      ·have hi':i<ln*z:=by simp at hi;omega
       have:=C.cell O.wf (k:=j+i) (by omega)
       rwa [Nat.zero_add] at this
      ·have hi':i<ln*z:=by simp at hi;omega
       simp only[List.getElem_take,List.getElem_drop]
       have:=C.2.2 (j+i) (by omega)
       rwa [Nat.zero_add] at this
   ·cases h
  ·cases h
 ·cases h
theorem stepStore(I:HInv n w L A st a g)(hn:n<=HK)(ho:o.dst=Option.none){t:TypeId}{xa xv:Operand}{ya yv:XO}(hop:o.op = .store t xa xv)(ha:trO xa=some ya)(hv:trO xv=some yv){sz:Nat}(hz:szP P t=some sz)
 {i k:Nat}(ea:lookHG g ya = .ptr i k)(hlen:(cellsH (lookHG g yv)).length=sz)(hz0:0<sz)(h1:(cellsH (lookHG g yv)).all HV.one=true){kb kb':HB}{cs:List HV}(hst:st[i]? = some kb)
 (hkb:(kb = .box cs/\kb' = .box (setCellsH cs k (cellsH (lookHG g yv))))\/∃z l,kb = .row z l cs/\kb' = .row z l (setCellsH cs k (cellsH (lookHG g yv))))(hle:k+sz<=cs.length):
 HStep P n o a w L A g (st.set i kb') Q:=by
 obtain⟨h2,h3⟩:=(I.look hv).cells h1
 have Ha:=I.look ha
 rw[ea] at Ha
 obtain⟨⟨b,o1,m⟩,hA⟩:=I.ok.live _ _ hst (by rcases hkb with⟨rfl,_⟩|⟨_,_,rfl,_⟩ <;> simp)
 have C:CellsOk w L A i b o1 m cs:=by
  have:=(I.ok.blk _ _ _ _ _ hA hst).2
  rcases hkb with⟨rfl,_⟩|⟨_,_,rfl,_⟩
  ·exact this.2
  ·exact this.2.2.2
 have hrow:∀z l,kb = .row z l cs->cs.length=l*z:=fun z l e=>by
  have:=(I.ok.blk _ _ _ _ _ hA hst).2
  subst e;exact this.2.1
 generalize hua:a.eval xa=ua at Ha
 cases Ha with
 | ptr _ _ b' j hlt hh=>
   obtain⟨rfl,rfl⟩:=hh _ _ _ hA
   have hm:=C.2.1
   have husz:(a.eval xv).cells.toList.length=sz:=by simp[h2,hlen]
   have hex:∃c t fr,w.heap[b']? = some (.cells c t fr)/\o1+k+0+(a.eval xv).cells.toList.length<=c.size:=by
    obtain⟨v,hv'⟩:=I.ok.wf.ex b' (o1+(k+sz-1)) (by rw[C.1 _ (by omega)];simp)
    simp only[World.cell?] at hv'
    split at hv'
    ·rename_i c t fr hc
     refine⟨c,t,fr,hc,?_⟩
     have:o1+(k+sz-1)<c.size:=by
      rcases Nat.lt_or_ge (o1+(k+sz-1)) c.size with h|h
      ·exact h
      ·rw[Array.getElem?_eq_none h] at hv';cases hv'
     omega
    ·cases hv'
   obtain⟨w',hrun,W⟩:=run_storeCells (P:=P) (a.eval xv).cells.toList 0 w hex (fun q hq=>by
    have:=C.1 (k+q) (by omega)
    rw[Nat.add_zero,Nat.add_assoc]
    exact I.ok.wf.thaw _ _ _ _ _ this) fun v hv'=>by
    obtain⟨q,hq,rfl⟩:=List.getElem_of_mem hv'
    have hq':q<(cellsH (lookHG g yv)).length:=by omega
    have:=(h3 q hq').one (by simpa using (List.all_eq_true.1 h1) _ (List.getElem_mem hq'))
    have hq2:q<(a.eval xv).cells.size:=by simpa using hq
    simpa[Array.getD,hq2] using this
   rw[Nat.add_zero] at W
   have hle':k+(cellsH (lookHG g yv)).length<=cs.length:=by omega
   obtain⟨I',E⟩:=I.wrote hn (k:=kb) (k':=kb') (cs:=cs) (cs':=setCellsH cs k (cellsH (lookHG g yv))) hA hst (by
    rcases hkb with⟨rfl,rfl⟩|⟨z,l,rfl,rfl⟩
    ·exact .inl ⟨rfl,rfl,setCellsH_length _ _ _⟩
    ·exact .inr ⟨z,l,l,rfl,rfl,by rw[setCellsH_length];exact hrow _ _ rfl⟩) W (by omega) (by rw[setCellsH_length];exact hm) fun q hq=>by
    rcases setCellsH_cases hle' hq with⟨h4,hq',h5⟩|⟨h4,hq',h5⟩
    ·left
     refine⟨h4,by omega,?_⟩
     rw[h5]
     have:=h3 (q-k) hq'
     have hq2:q-k<(a.eval xv).cells.size:=by omega
     simpa[Array.getD,List.getD,hq2] using this
    ·right;exact⟨by omega,hq',h5⟩
   have hr:(execOp a.eval o).run P w = .ok .skip w':=by
    have hsz':(a.eval xv).cells.size=sz:=by omega
    simp only[execOp,hop,Instr.storeAt,Instr.sureAddr,hua,Sem.run_bind,Sem.run_pure,Result.andThen_ok,storeVar,run_sizeOf' hz,hsz',ne_eq,not_true,if_false,hrun]
   unfold HStep Oper.wp
   rw[hr]
   simp only[Oper.upon,ho]
   exact⟨L,A,by simpa[Act.put] using I',E⟩
end
open Go
section
variable {P:Program} {n:Nat} {w:World} {L:LM} {A:AM} {st:HSt} {a:Act} {g:Nat->HV} {o:Oper} {Q:Exit->Act->World->Prop}
theorem take_self{α:Type}{l:List α}{k:Nat}(h:l.length=k):l.take k=l:=by rw[←h];exact List.take_length
theorem stepAppNil(I:HInv n w L A st a g)(hn:n<=HK){d:Nat}(hd:d<n)(ho:o.dst=some d){s x:Operand}{s' x':XO}{t et:TypeId}{z:List PV}{sz by_:Nat}(hop:o.op = .call { callee:=.builtin .append,args:=#[s,x],argTypes:=#[t,t] })
 (hs:trO s=some s')(hx:trO x=some x')(ht:P.underlying t=some (.slice et))(hz:zeroP P et=some z)(hsz:szP P et=some sz)(hz0:0<sz)(hzl:z.length=sz)(hby:(P.info? et).map (·.bytes)=some by_)
 (es:lookHG g s' = .p .nils){k:Nat}{new:List HV}(ex:slElems st (lookHG g x')=some (k,new))(hk:k*sz=new.length)(hb:k*by_<=lim)(hl:k<=lim)(hk0:0<k):
 HStep P n o a w L A (fun t=>if t=d then .row st.length 0 k sz else g t) (st++[.row sz k new]) Q:=by
 obtain⟨i,v,hi,hzv,HZ,hzf⟩:=zero_pw (w:=w) (L:=L) hz
 have hisz:i.size=sz:=by simp[szP,hi] at hsz;exact hsz
 have hiby:i.bytes=by_:=by simp[hi] at hby;exact hby
 obtain⟨xb,xc,news,hxv,hnl,hnr,hnc⟩:=slElems_run (P:=P) I.ok (I.look hx) ex hk.symm
 have V:=I.look hs
 rw[es] at V
 have V:=V.pv.2
 generalize hsv:a.eval s=sv at V
 cases V with
 | nils _ base=>
   have hol:∀w':World,w'.heap=w.heap->(Builtin.firstCells i.size 0 (.slice base 0 0)).run P w' = .ok ([]:List Value).toArray w':=fun w' hw=>by
    cases base with
    | none=>simp[Builtin.firstCells]
    | some b=>exact run_firstCells_some w' i.size 0 b 0 0 [] (by simp) (by simp)
   have hrun:=run_app (ty:=o.type) (z:=v) w ht hi hzv (base:=base) (len:=0) (cap:=0) (m:=k) (xb:=xb) (xc:=xc) hol (fun w' hw=>by
    have:=hnr k w' (Nat.le_refl _) hw
    rwa [hxv,take_self (by omega),←hisz] at this) (by rw[hiby];simpa using hb) (by simpa using hl)
   have hop':(execOp a.eval o).run P w=((Builtin.append_ #[t,t] o.type #[.slice base 0 0,.slice xb k xc]).run P w).andThen fun v w'=>.ok (.value v) w':=by
    simp[execOp,hop,resolve,invoke,builtin,hsv,hxv]
   rw[hrun] at hop'
   simp only[Nat.zero_add,Nat.le_zero_eq] at hop'
   rw[if_neg (by omega)] at hop'
   have hge:=grownCap_ge w k 0 et
   have hzsz:v.cells.size=sz:=by rw[HZ.sz,hzl]
   have hnlen:news.length=k*sz:=by omega
   generalize hcapn:grownCap w k 0 et=ncap at hge hop'
   have hvs:(([]:List Value).toArray++news.toArray++Builtin.zeroCells v.cells (ncap-k)).size=ncap*sz:=by
    simp only[Array.size_append,List.size_toArray,List.length_nil,size_zeroCells,hzsz,hnlen,Nat.zero_add,←Nat.add_mul]
    congr 1;omega
   have hcapge:k*sz<=ncap*sz:=Nat.mul_le_mul_right _ hge
   have hpos:0<k*sz:=Nat.mul_pos (by omega) hz0
   obtain⟨I1,E1⟩:=I.drew hn
   unfold HStep Oper.wp
   rw[hop']
   simp only[Result.andThen_ok,Oper.upon,ho]
   obtain⟨L2,A2,I2,E2⟩:=I1.newBlk hn hd (([]:List Value).toArray++news.toArray++Builtin.zeroCells v.cells (ncap-k)) et (k:=.row sz k new) (cs:=new) (.inr ⟨sz,k,rfl,hk.symm⟩) (by omega) (by omega) (fun q hq=>by
    have h2:(([]:List Value).toArray++news.toArray++Builtin.zeroCells v.cells (ncap-k)).getD q undef=news.getD q undef:=by
     have e1:q<news.length+(ncap-k)*v.cells.size:=by omega
     have e2:q<news.length:=by omega
     simp[Array.getD,e1,Array.getElem_append,e2,size_zeroCells]
    rw[h2]
    exact (hnc q hq).evo E1 I.ok.wf) (v:=.row st.length 0 k sz) (u:=.slice (some ⟨w.heap.size,0,Option.none⟩) k ncap) fun w' L' A' e1 e2=>by
    rw[←I.ok.len]
    refine .row _ _ _ _ _ _ _ e1 hge fun b o m e=>?_
    rw[e2] at e
    simp only[Option.some.injEq,Prod.mk.injEq] at e
    exact⟨e.1,by omega,by omega⟩
   exact⟨L2,A2,I2,E1.tr I.ok E2⟩
theorem stepApp(I:HInv n w L A st a g)(hn:n<=HK){d:Nat}(hd:d<n)(ho:o.dst=some d){s x:Operand}{s' x':XO}{t et:TypeId}{z:List PV}{sz by_:Nat}(hop:o.op = .call { callee:=.builtin .append,args:=#[s,x],argTypes:=#[t,t] })
 (hs:trO s=some s')(hx:trO x=some x')(ht:P.underlying t=some (.slice et))(hz:zeroP P et=some z)(hsz:szP P et=some sz)(hz0:0<sz)(hzl:z.length=sz)(hby:(P.info? et).map (·.bytes)=some by_)
 {r len n0 k:Nat}{cs new:List HV}(es:lookHG g s' = .row r 0 len sz)(hst:st[r]? = some (.row sz n0 cs))(ex:slElems st (lookHG g x')=some (k,new))(hle:len*sz<=cs.length)(hk:k*sz=new.length)
 (hb:(len+k)*by_<=lim)(hl:len+k<=lim)(hone:new.all HV.one=true)(hpos0:0<len+k):
 HStep P n o a w L A (fun t=>if t=d then .row st.length 0 (len+k) sz else g t) (st.set r .dead++[.row sz (len+k) (cs.take (len*sz)++new)]) Q:=by
 obtain⟨i,v,hi,hzv,HZ,hzf⟩:=zero_pw (w:=w) (L:=L) hz
 have hisz:i.size=sz:=by simp[szP,hi] at hsz;exact hsz
 have hiby:i.bytes=by_:=by simp[hi] at hby;exact hby
 obtain⟨xb,xc,news,hxv,hnl,hnr,hnc⟩:=slElems_run (P:=P) I.ok (I.look hx) ex hk.symm
 have V:=I.look hs
 rw[es] at V
 generalize hsv:a.eval s=sv at V
 obtain⟨⟨b,o1,m⟩,hA⟩:=I.ok.live _ _ hst (by simp)
 obtain⟨hbl,ho1,hcl,hm0,C⟩:=I.ok.blk _ _ _ _ _ hA hst
 subst ho1
 have hm:=C.2.1
 have htl:(cs.take (len*sz)).length=len*sz:=by simp;omega
 cases V with
 | row _ _ _ _ b' j cap hlt hlc hh=>
   obtain⟨rfl,hj,hcap⟩:=hh _ _ _ hA
   obtain rfl:j=0:=by omega
   rw[Nat.zero_add] at hcap
   have hcell:∀q,q<len*sz->w.cell? ⟨b',q,Option.none⟩=some (cv w b' q):=fun q hq=>by
    have:=C.cell I.ok.wf (k:=q) (by omega)
    rwa [Nat.zero_add] at this
   have hol:∀w':World,w'.heap=w.heap->(Builtin.firstCells sz len (.slice (some ⟨b',0,Option.none⟩) len cap)).run P w' = .ok ((List.range (len*sz)).map fun i=>cv w b' i).toArray w':=fun w' hw=>by
    refine run_firstCells_some w' sz len _ len cap _ (by simp) fun j v hj=>?_
    rw[addr_add,Nat.zero_add]
    obtain⟨hlt,rfl⟩:=List.getElem?_eq_some_iff.1 hj
    simp only[List.length_map,List.length_range] at hlt
    have:=hcell j hlt
    simp only[World.cell?,hw] at this ⊢
    simpa using this
   have hrun:=run_app (ty:=o.type) (z:=v) w ht hi hzv (base:=some ⟨b',0,Option.none⟩) (len:=len) (cap:=cap) (m:=k) (xb:=xb) (xc:=xc) (by rw[hisz];exact hol) (fun w' hw=>by
    have:=hnr k w' (Nat.le_refl _) hw
    rwa [hxv,take_self (by omega),←hisz] at this) (by rw[hiby];exact hb) hl
   have hop':(execOp a.eval o).run P w=((Builtin.append_ #[t,t] o.type #[.slice (some ⟨b',0,Option.none⟩) len cap,.slice xb k xc]).run P w).andThen fun v w'=>.ok (.value v) w':=by
    simp[execOp,hop,resolve,invoke,builtin,hsv,hxv]
   have hkl:(cs.take (len*sz)++new).length=(len+k)*sz:=by rw[List.length_append,htl,←hk,Nat.add_mul]
   have hkl2:(cs.take (len*sz)++new).length=len*sz+new.length:=by rw[List.length_append,htl]
   have hnlen:news.length=k*sz:=by omega
   unfold HStep Oper.wp
   rw[hop',hrun]
   by_cases hroom:len+k<=cap
   ·
    rw[if_pos hroom]
    simp only[addr_add,Nat.zero_add,hisz]
    have hcap2:(len+k)*sz<=cap*sz:=Nat.mul_le_mul_right _ hroom
    rw[Nat.add_mul] at hcap2
    have hones:∀v∈news,v.oneCell'=true:=fun v hv=>by
     obtain⟨q,hq,rfl⟩:=List.getElem_of_mem hv
     have hq':q<new.length:=by omega
     have:=(hnc q hq').one (by simpa using (List.all_eq_true.1 hone) _ (List.getElem_mem hq'))
     rwa [getD_getElem hq] at this
    have hex:∃c t fr,w.heap[b']? = some (.cells c t fr)/\len*sz+0+news.length<=c.size:=by
     obtain⟨v9,hv9⟩:=I.ok.wf.ex b' (0+(m-1)) (by rw[C.1 _ (by omega)];simp)
     simp only[World.cell?] at hv9
     split at hv9
     ·rename_i c t fr hc
      refine⟨c,t,fr,hc,?_⟩
      have:0+(m-1)<c.size:=by
       rcases Nat.lt_or_ge (0+(m-1)) c.size with h|h
       ·exact h
       ·rw[Array.getElem?_eq_none h] at hv9;cases hv9
      omega
     ·cases hv9
    obtain⟨w',hst',W⟩:=run_storeCells (P:=P) news 0 w hex (fun q hq=>by
     have:=C.1 (len*sz+q) (by omega)
     rw[Nat.zero_add] at this
     rw[Nat.add_zero]
     exact I.ok.wf.thaw _ _ _ _ _ this) hones
    rw[Nat.add_zero] at W
    have W':Wrote w w' b' (0+len*sz) news:=by rwa [Nat.zero_add]
    rw[hst']
    simp only[Result.andThen_ok,Oper.upon,ho]
    obtain⟨I1,E1⟩:=I.wrote hn (k:=.row sz n0 cs) (k':=.row sz (len+k) (cs.take (len*sz)++new)) (cs:=cs) (cs':=cs.take (len*sz)++new) (lo:=len*sz) hA hst (.inr ⟨sz,n0,len+k,rfl,rfl,hkl⟩) W' (by omega) (by omega) fun q hq=>by
     by_cases h:q<len*sz
     ·refine .inr ⟨.inl h,by omega,?_⟩
      rw[List.getElem_append_left (by omega),List.getElem_take]
     ·refine .inl ⟨by omega,by omega,?_⟩
      rw[List.getElem_append_right (by omega)]
      simp only[htl]
      exact hnc (q-len*sz) (by omega)
    have il:r<st.length:=(List.getElem?_eq_some_iff.1 hst).1
    obtain⟨L2,I2,E2⟩:=I1.rename hn (i:=r) (k:=.row sz (len+k) (cs.take (len*sz)++new)) hA (by rw[getElem?_setI,if_pos ⟨rfl,il⟩]) (by simp)
    have I3:=I2.put hn hd I2.ok (.refl _ _ _) (.refl _ _ _) (v:=.row st.length 0 (len+k) sz) (u:=.slice (some ⟨b',0,Option.none⟩) (len+k) cap) (.inl (by
     rw[←I.ok.len]
     refine .row _ _ _ _ _ _ _ (by simp) hroom fun b o' m' e=>?_
     rw[getElem?_snoc] at e
     simp only[List.length_set,if_true,Option.some.injEq,Prod.mk.injEq] at e
     obtain⟨rfl,rfl,rfl⟩:=e
     exact⟨rfl,rfl,by omega⟩))
    refine⟨L2,_,?_,E1.tr I.ok E2⟩
    have es:(st.set r (.row sz (len+k) (cs.take (len*sz)++new))).set r .dead=st.set r .dead:=by simp
    rw[es] at I3
    exact I3
   ·rw[if_neg hroom]
    simp only[Result.andThen_ok,Oper.upon,ho]
    have hge:=grownCap_ge w (len+k) cap et
    have hzsz:v.cells.size=sz:=by rw[HZ.sz,hzl]
    generalize hcapn:grownCap w (len+k) cap et=ncap at hge
    have hvs:(((List.range (len*sz)).map fun i=>cv w b' i).toArray++news.toArray++Builtin.zeroCells v.cells (ncap-(len+k))).size=ncap*sz:=by
     simp only[Array.size_append,List.size_toArray,List.length_map,List.length_range,size_zeroCells,hzsz,hnlen,←Nat.add_mul]
     congr 1;omega
    have hcapge:(len+k)*sz<=ncap*sz:=Nat.mul_le_mul_right _ hge
    have hpos:0<(len+k)*sz:=Nat.mul_pos hpos0 hz0
    have hget1:∀q,q<len*sz->(((List.range (len*sz)).map fun i=>cv w b' i).toArray++news.toArray++Builtin.zeroCells v.cells (ncap-(len+k))).getD q undef=cv w b' q:=fun q hq=>by
     have h1:q<len*sz+news.length+(ncap-(len+k))*v.cells.size:=by omega
     have h2:q<len*sz+news.length:=by omega
     simp[Array.getD,h1,Array.getElem_append,h2,hq,size_zeroCells]
    have hget2:∀q (hq:q<news.length),(((List.range (len*sz)).map fun i=>cv w b' i).toArray++news.toArray++Builtin.zeroCells v.cells (ncap-(len+k))).getD (len*sz+q) undef=news[q]:=fun q hq=>by
     have h1:len*sz+q<len*sz+news.length+(ncap-(len+k))*v.cells.size:=by omega
     have h2:len*sz+q<len*sz+news.length:=by omega
     simp[Array.getD,h1,Array.getElem_append,h2,hq,size_zeroCells]
    obtain⟨I1,E1⟩:=I.drew hn
    obtain⟨L2,A2,I2,E2⟩:=I1.newBlk hn hd (((List.range (len*sz)).map fun i=>cv w b' i).toArray++news.toArray++Builtin.zeroCells v.cells (ncap-(len+k))) et (k:=.row sz (len+k) (cs.take (len*sz)++new)) (cs:=cs.take (len*sz)++new) (.inr ⟨sz,len+k,rfl,hkl⟩) (by omega) (by omega) (fun q hq=>by
     by_cases h:q<len*sz
     ·rw[List.getElem_append_left (by omega),hget1 q h,List.getElem_take]
      have:=C.2.2 q (by omega)
      rw[Nat.zero_add] at this
      exact this.evo E1 I.ok.wf
     ·rw[List.getElem_append_right (by omega)]
      simp only[htl]
      have h2:=hget2 (q-len*sz) (by omega)
      rw[show len*sz+(q-len*sz)=q by omega] at h2
      rw[h2]
      have h1:=hnc (q-len*sz) (by omega)
      rw[getD_getElem (by omega)] at h1
      exact h1.evo E1 I.ok.wf) (v:=.row st.length 0 (len+k) sz) (u:=.slice (some ⟨w.heap.size,0,Option.none⟩) (len+k) ncap) fun w' L' A' e1 e2=>by
     rw[←I.ok.len]
     refine .row _ _ _ _ _ _ _ e1 hge fun b o m e=>?_
     rw[e2] at e
     simp only[Option.some.injEq,Prod.mk.injEq] at e
     exact⟨e.1,by omega,by omega⟩
    obtain⟨I3,E3⟩:=I2.kill hn r
    refine⟨_,_,?_,E1.tr I.ok (E2.tr I1.ok E3)⟩
    have il:r<st.length:=(List.getElem?_eq_some_iff.1 hst).1
    rw[List.set_append_left _ _ il] at I3
    exact I3
theorem stepCopy(I:HInv n w L A st a g)(hn:n<=HK)(hdn:∀d,o.dst=some d->d<n){c:Call}{d s:Operand}{d' s':XO}{t et:TypeId}{sz:Nat}(hop:o.op = .call c)(hcal:c.callee = .builtin .copy)(hargs:c.args=#[d,s])(htys:c.argTypes=#[t,t])
 (hd':trO d=some d')(hs':trO s=some s')(ht:sliceP P t=some et)(hsz:szP P et=some sz)(hz0:0<sz){r off len n0 m:Nat}{cs new:List HV}(ed:lookHG g d' = .row r off len sz)(hst:st[r]? = some (.row sz n0 cs))(hle:off+len*sz<=cs.length)
 (ex:slElems st (lookHG g s')=some (m,new))(hk:m*sz=new.length)(hone:new.all HV.one=true):
 HStep P n o a w L A (fun t=>if o.dst=some t then .p (.int .i64 ((min len m:Nat):Int)) else g t) (st.set r (.row sz n0 (setCellsH cs off (new.take (min len m*sz))))) Q:=by
 obtain⟨xb,xc,news,hxv,hnl,hnr,hnc⟩:=slElems_run (P:=P) I.ok (I.look hs') ex hk.symm
 have V:=I.look hd'
 rw[ed] at V
 generalize hdv:a.eval d=dv at V
 obtain⟨⟨b,o1,mm⟩,hA⟩:=I.ok.live _ _ hst (by simp)
 obtain⟨hbl,ho1,hcl,hm0,C⟩:=I.ok.blk _ _ _ _ _ hA hst
 subst ho1
 have hm:=C.2.1
 have hmin:min len m*sz<=len*sz:=Nat.mul_le_mul_right _ (Nat.min_le_left _ _)
 have hmin2:min len m*sz<=m*sz:=Nat.mul_le_mul_right _ (Nat.min_le_right _ _)
 cases V with
 | row _ _ _ _ b' j cap hlt hlc hh=>
   obtain⟨rfl,hj,hcap⟩:=hh _ _ _ hA
   obtain rfl:j=off:=by omega
   have hus:(news.take (min len m*sz)).length=min len m*sz:=by simp;omega
   have hys:(new.take (min len m*sz)).length=min len m*sz:=by simp;omega
   have hex:∃c t fr,w.heap[b']? = some (.cells c t fr)/\j+0+(news.take (min len m*sz)).length<=c.size:=by
    obtain⟨v9,hv9⟩:=I.ok.wf.ex b' (0+(mm-1)) (by rw[C.1 _ (by omega)];simp)
    simp only[World.cell?] at hv9
    split at hv9
    ·rename_i c t fr hc
     refine⟨c,t,fr,hc,?_⟩
     have:0+(mm-1)<c.size:=by
      rcases Nat.lt_or_ge (0+(mm-1)) c.size with h|h
      ·exact h
      ·rw[Array.getElem?_eq_none h] at hv9;cases hv9
     omega
    ·cases hv9
   obtain⟨w',hrun,W⟩:=run_storeCells (P:=P) (news.take (min len m*sz)) 0 w hex (fun q hq=>by
    have:=C.1 (j+q) (by omega)
    rw[Nat.zero_add] at this
    rw[Nat.add_zero]
    exact I.ok.wf.thaw _ _ _ _ _ this) fun v hv=>by
    obtain⟨q,hq,rfl⟩:=List.getElem_of_mem hv
    rw[List.getElem_take]
    have hq':q<new.length:=by omega
    have:=(hnc q hq').one (by simpa using (List.all_eq_true.1 hone) _ (List.getElem_mem hq'))
    rwa [getD_getElem (by omega)] at this
   rw[Nat.add_zero] at W
   have W':Wrote w w' b' (0+j) (news.take (min len m*sz)):=by rwa [Nat.zero_add]
   have hle':j+(new.take (min len m*sz)).length<=cs.length:=by omega
   obtain⟨I',E⟩:=I.wrote hn (k:=.row sz n0 cs) (k':=.row sz n0 (setCellsH cs j (new.take (min len m*sz)))) (cs:=cs) (cs':=setCellsH cs j (new.take (min len m*sz))) hA hst (.inr ⟨sz,n0,n0,rfl,rfl,by rw[setCellsH_length];exact hcl⟩) W' (by omega) (by rw[setCellsH_length];exact hm) fun q hq=>by
    rcases setCellsH_cases hle' hq with⟨h4,hq',h5⟩|⟨h4,hq',h5⟩
    ·left
     refine⟨h4,by omega,?_⟩
     rw[h5,List.getElem_take]
     have h6:q-j<new.length:=by omega
     have:=hnc (q-j) h6
     have e:(news.take (min len m*sz)).getD (q-j) undef=news.getD (q-j) undef:=by
      simp[List.getD,List.getElem?_take,show q-j<min len m*sz by omega]
     rw[e];exact this
    ·right;exact⟨by omega,hq',h5⟩
   have hr:(execOp a.eval o).run P w = .ok (.value (goInt (min len m:Nat))) w':=by
    refine run_builtin (o:=o) (c:=c) hop hcal fun ks=>?_
    have h1:=hnr (min len m) w (Nat.min_le_right _ _) rfl
    rw[hxv] at h1
    have hmm:Nat.min m len=min len m:=Nat.min_comm m len
    simp only[Go.builtin,hargs,htys,Builtin.copy_,List.map_toArray,List.map_cons,List.map_nil,hdv,hxv,List.getElem?_toArray,List.getElem?_cons_zero,List.getElem?_cons_succ,Sem.run_bind,run_underlying' (sliceP_some ht),Result.andThen_ok,Builtin.lenOf,Sem.run_pure,run_sizeOf' hsz,hmm,h1,hrun]
   unfold HStep Oper.wp
   rw[hr]
   simp only[Oper.upon]
   refine⟨L,A,?_,E⟩
   cases ho:o.dst with
   | none=>simpa[Act.put] using I'
   | some dd=>
     exact (I'.put hn (hdn dd ho) I'.ok (.refl _ _ _) (.refl _ _ _) (.inl (.p _ _ rfl (.int _ _ _)))).congr fun t=>by
      by_cases h:t=dd
      ·subst h;simp
      ·simp[h,Ne.symm h]
end
open Go
def HRetOk(w:World)(L:LM)(A:AM)(r:HV)(st':HSt)(v:Value)(w':World):Prop:=
 ∃L' A',HOk w' L' A' st'/\(∀b j q p i,L' b j = .own q p i->HK<=q)/\RepH w' L' A' r v/\Evo w L A w' L' A'
def HCallOk1(P:Program)(f:Nat)(F:List HV->HSt->Option (HV×HSt)):Prop:=
 ∀ ws st r st', F ws st = some (r, st') → (∃ fn, P.funcs[f]? = some fn ∧ (fn.name == "runtime.NumGoroutine") = false ∧ fn.body.isNone = false) ∧
  ∀(args:Array Value) (w:World) (L:LM) (A:AM),args.size=ws.length->HOk w L A st->(∀b j q p i,L b j = .own q p i->HK<=q) ->
   (∀i (hi:i<ws.length),RepH w L A ws[i] (args.getD i undef))->Calls P f args w (retPost (HRetOk w L A r st'))
def HCallOk(P:Program)(H:HCalls):Prop:=∀f,HCallOk1 P f (H f)
def cutL:Lab->Lab
 | .own r p i=>if r<HK then .out else .own r p i
 | l=>l
theorem cutL_own{l:Lab}{r:Nat}{p:List Nat}{i:Nat}(h:cutL l = .own r p i):l = .own r p i/\HK<=r:=by
 cases l with
 | out=>cases h
 | sh=>cases h
 | own r' p' i'=>
   simp only[cutL] at h
   split at h
   ·cases h
   ·simp only[Lab.own.injEq] at h;obtain⟨rfl,rfl,rfl⟩:=h;exact⟨rfl,by omega⟩
def Lab.small:Lab->Prop
 | .own r _ _=>r<HK
 | _=>False
theorem RepH.relab{w:World}{L L':LM}{A:AM}{v:HV}{u:Value}(H:RepH w L A v u)(h:∀b j,L b j = .sh->L' b j = .sh):RepH w L' A v u:=by
 induction H with
 | p v u hl H=>exact .p _ _ hl (H.frame (fun b j hr=>by rw[h b j hr.shared,hr.shared]) (fun q hq=>by rw[loose_refs hl] at hq;cases hq) fun _ _ _=>rfl)
 | ptr a i b j ha h=>exact .ptr _ _ _ _ ha h
 | row a off len sz b j cap ha hl h=>exact .row _ _ _ _ _ _ _ ha hl h
 | mp a b ha h=>exact .mp _ _ ha h
 | nilm=>exact .nilm
 | agg cs vs hz hc ih=>exact .agg _ _ hz ih
 | tup cs vs hz hc ih=>exact .tup _ _ hz ih
 | fn f caps vs hz hc ih=>exact .fn _ _ _ hz ih
 | bm f caps vs hz hc ih=>exact .bm _ _ _ hz ih
theorem RepV.relab{w:World}{L L':LM}{v:PV}{u:Value}(H:RepV w L Option.none v u)(hv:v.free=true)(h:∀b j,L b j = .sh->L' b j = .sh):RepV w L' Option.none v u:=
 H.frame (fun b j hr=>by rw[h b j hr.shared,hr.shared]) (fun q hq=>by rw[free_refs hv] at hq;cases hq) fun _ _ _=>rfl
section
variable {P:Program} {n:Nat} {w:World} {L:LM} {A:AM} {st:HSt} {a:Act} {g:Nat->HV} {o:Oper} {Q:Exit->Act->World->Prop}
theorem HOk.relab(O:HOk w L A st){L':LM}(W:WF w L')(hs:∀b j,L b j = .sh->L' b j = .sh)(hb:∀b j r p i,L b j = .own r p i->HK<=r->L' b j = .own r p i)(hb':∀b j r p i,L' b j = .own r p i->HK<=r->L b j = .own r p i):HOk w L' A st where
 wf:=W
 len:=O.len
 lab b j r p i h hr:=O.lab b j r p i (hb' b j r p i h hr) hr
 live:=O.live
 blk a b o m k h1 h2:=by
  obtain⟨h3,h4⟩:=O.blk a b o m k h1 h2
  exact⟨h3,h4.mono (fun i hi=>by rw[h4.big hi];exact hb _ _ _ _ _ (h4.big hi) (Nat.le_add_left _ _)) (fun _ _=>rfl) (fun _ _ h=>h) (fun v _ u H=>H.relab hs) fun v u hf H=>H.relab hf hs⟩
 uniq:=O.uniq
theorem HOk.cut(O:HOk w L A st):HOk w (fun b j=>cutL (L b j)) A st/\Evo w L A w (fun b j=>cutL (L b j)) A:=by
 refine⟨O.relab (O.wf.relabel rfl rfl fun l l' r p i h h'=>?_) (fun b j h=>by rw[h];rfl) (fun b j r p i h hr=>by rw[h];simp only[cutL];rw[if_neg (by omega)]) (fun b j r p i h _=>(cutL_own h).1),rfl,rfl,rfl,Nat.le_refl _,fun b j _ h=>by rcases h with h|h <;> rw[h]<;>rfl,fun _ _=>.inr (.refl _ _ _),Nat.le_refl _,fun _ _=>.inl rfl,fun a b o m h _=>.inl ⟨a,o,m,h⟩⟩
 obtain⟨rfl,_⟩:=cutL_own h
 obtain⟨rfl,_⟩:=cutL_own h'
 exact⟨rfl,_,_,_,rfl⟩
open Classical in
noncomputable def mendL(L L':LM):LM:=fun b j=>if (L b j).small then L b j else L' b j
theorem Evo.outs{w':World}{L L':LM}{A A':AM}(E:Evo w L A w' L' A'){b j:Nat}(hb:b<w.heap.size)(hl:L b j = .out){v:Value}(hv:w.cell? ⟨b,j,Option.none⟩=some v):
 w'.cell? ⟨b,j,Option.none⟩=w.cell? ⟨b,j,Option.none⟩/\w'.frozen? ⟨b,j,Option.none⟩=w.frozen? ⟨b,j,Option.none⟩:=by
 rcases E.blk b hb with⟨_,_,_,es,c,_,h⟩|h
 ·simp[World.cell?,h] at hv
 ·cases e:w.heap[b]? with
  | none=>simp[World.cell?,e] at hv
  | some o=>
    rw[e] at h
    cases o with
    | cells c t fr=>
      cases e':w'.heap[b]? with
      | none=>rw[e'] at h;cases h
      | some o'=>
        rw[e'] at h
        cases o' with
        | cells c' t' fr'=>
          obtain⟨rfl,rfl,h3,h4⟩:=h
          refine⟨?_,?_⟩
          ·have:=h4 j (.inl hl)
           simp only[World.cell?,e,e']
           simpa using this
          ·simp[World.frozen?,e,e']
        | _=>cases h
    | _=>simp[World.cell?,e] at hv
theorem HInv.back(I:HInv n w L A st a g)(hn:n<=HK){r:HV}{st':HSt}{v:Value}{w':World}(h:HRetOk w (fun b j=>cutL (L b j)) A r st' v w'):
 ∃L' A',HOk w' L' A' st'/\RepH w' L' A' r v/\Evo w L A w' L' A'/\Keep Option.none w L w' L':=by
 classical
 obtain⟨L',A',O',bd,H,E⟩:=h
 obtain⟨Oc,Ec⟩:=I.ok.cut
 have smallOut:∀b j,(L b j).small->cutL (L b j) = .out:=fun b j h=>by
  cases e:L b j with
  | out=>rfl
  | sh=>rw[e] at h;exact h.elim
  | own r p i=>
    rw[e] at h
    have h:r<HK:=h
    simp only[cutL];rw[if_pos h]
 have smallNe:∀b j,(L b j).small->L b j ≠ .out:=fun b j h e=>by rw[e] at h;exact h
 have smallL:∀b j,(L b j).small->L' b j = .out:=fun b j h=>by
  have hb:=I.ok.wf.lt (smallNe b j h)
  have:=E.lab b j hb (.inl (smallOut b j h))
  rw[this];exact smallOut b j h
 have mpos:∀{b j},(L b j).small->mendL L L' b j=L b j:=fun {b j} h=>by unfold mendL;rw[if_pos h]
 have mneg:∀{b j},¬(L b j).small->mendL L L' b j=L' b j:=fun {b j} h=>by unfold mendL;rw[if_neg h]
 have cellS:∀b j,(L b j).small->∃v,w.cell? ⟨b,j,Option.none⟩=some v/\w'.cell? ⟨b,j,Option.none⟩=some v/\w'.frozen? ⟨b,j,Option.none⟩=w.frozen? ⟨b,j,Option.none⟩:=fun b j h=>by
  obtain⟨v,hv⟩:=I.ok.wf.ex b j (smallNe b j h)
  obtain⟨h1,h2⟩:=E.outs (I.ok.wf.lt (smallNe b j h)) (smallOut b j h) hv
  exact⟨v,hv,by rw[h1,hv],h2⟩
 have ownCase:∀b j q p i,mendL L L' b j = .own q p i->(L b j = .own q p i/\q<HK)\/(L' b j = .own q p i/\HK<=q):=fun b j q p i h=>by
  by_cases hs:(L b j).small
  ·rw[mpos hs] at h;exact .inl ⟨h,by rw[h] at hs;exact hs⟩
  ·rw[mneg hs] at h;exact .inr ⟨h,bd _ _ _ _ _ h⟩
 have W:WF w' (mendL L L'):=by
  refine⟨fun b j b' j' q p i h h'=>?_,fun b j h=>?_,fun b j q p i h=>?_⟩
  ·rcases ownCase _ _ _ _ _ h with⟨h1,h2⟩|⟨h1,h2⟩ <;> rcases ownCase _ _ _ _ _ h' with⟨h3,h4⟩|⟨h3,h4⟩
   ·exact I.ok.wf.inj _ _ _ _ _ _ _ h1 h3
   ·omega
   ·omega
   ·exact O'.wf.inj _ _ _ _ _ _ _ h1 h3
  ·by_cases hs:(L b j).small
   ·obtain⟨v,_,hv,_⟩:=cellS b j hs;exact⟨v,hv⟩
   ·rw[mneg hs] at h;exact O'.wf.ex b j h
  ·rcases ownCase _ _ _ _ _ h with⟨h1,h2⟩|⟨h1,h2⟩
   ·obtain⟨_,_,_,hf⟩:=cellS b j (by rw[h1];exact h2)
    rw[hf];exact I.ok.wf.thaw _ _ _ _ _ h1
   ·exact O'.wf.thaw _ _ _ _ _ h1
 have hs':∀b j,L' b j = .sh->mendL L L' b j = .sh:=fun b j h=>by
  rw[mneg fun hs=>by rw[smallL b j hs] at h;cases h];exact h
 have O:HOk w' (mendL L L') A' st':=O'.relab W hs' (fun b j q p i h hr=>by
  rw[mneg fun hs=>by rw[smallL b j hs] at h;cases h];exact h) fun b j q p i h hr=>by
  rcases ownCase _ _ _ _ _ h with⟨h1,h2⟩|⟨h1,h2⟩
  ·omega
  ·exact h1
 refine⟨mendL L L',A',O,H.relab hs',⟨E.os,E.tape,E.output,E.size,fun b j hb h=>?_,fun b hb=>?_,E.len,E.mono,fun a' b o m h hb=>?_⟩,⟨fun b j q p i h hr _=>mpos (by rw[h];exact hr),fun b j q p i h hr _=>?_⟩⟩
 ·have hns:¬(L b j).small:=fun hs=>by rcases h with h|h <;> rw[h] at hs <;> exact hs
  rw[mneg hns]
  have hc:cutL (L b j)=L b j:=by rcases h with h|h <;> rw[h]<;>rfl
  have:=E.lab b j hb (by rw[hc];exact h)
  rw[this,hc]
 ·rcases E.blk b hb with h|h
  ·exact .inl h
  ·right
   cases e:w.heap[b]? with
   | none=>rw[e] at h;exact h
   | some ob=>
     rw[e] at h
     cases ob with
     | cells c t fr=>
       cases e':w'.heap[b]? with
       | none=>rw[e'] at h;cases h
       | some ob'=>
         rw[e'] at h
         cases ob' with
         | cells c' t' fr'=>
           obtain⟨h1,h2,h3,h4⟩:=h
           exact⟨h1,h2,h3,fun j hj=>h4 j (by rcases hj with hj|hj <;> simp only[hj] <;> simp[cutL])⟩
         | _=>cases h
     | _=>exact h
 ·rcases E.sub a' b o m h hb with h1|⟨j,q,p,i,h1,h2⟩
  ·exact .inl h1
  ·exact absurd (cutL_own h1).2 (by omega)
 ·obtain⟨v,h1,h2,_⟩:=cellS b j (by rw[h];exact hr)
  rw[h1,h2]
theorem stepEnter(I:HInv n w L A st a g)(hn:n<=HK)(hdn:∀d,o.dst=some d->d<n){H:HCalls}(hH:HCallOk P H){f:Nat}{ws:List HV}{r:HV}{st':HSt}(h:H f ws st=some (r,st')){args:Array Value}(hr:(execOp a.eval o).run P w = .ok (.enter f args) w)
 (hsz:args.size=ws.length)(hargs:∀i (hi:i<ws.length),RepH w L A ws[i] (args.getD i undef)):
 HStep P n o a w L A (fun t=>if o.dst=some t then r else g t) st' Q:=by
 obtain⟨_,hcalls⟩:=hH f ws st r st' h
 obtain⟨Oc,Ec⟩:=I.ok.cut
 unfold HStep Oper.wp
 rw[hr]
 simp only[Oper.upon]
 refine Calls.mono (hcalls args w _ A hsz Oc (fun b j q p i h=>(cutL_own h).2) fun i hi=>(hargs i hi).evo Ec I.ok.wf) fun en w'' he=>?_
 cases en with
 | returned v=>
   obtain⟨L',A',O,Hr,E,K⟩:=I.back hn he
   refine⟨L',A',?_,E⟩
   cases ho:o.dst with
   | none=>
     have:=I.stay hn O E K
     simpa[Act.put] using this
   | some d=>
     have K':Keep (some d) w L w'' L':=⟨fun b j q p i h hr _=>K.lab b j q p i h hr (by simp),fun b j q p i h hr _=>K.cell b j q p i h hr (by simp)⟩
     exact (I.put hn (hdn d ho) O E K' (.inl Hr)).congr fun t=>by
      by_cases h:t=d
      ·subst h;simp
      ·simp[h,Ne.symm h]
 | panicked=>exact he.elim
 | outgrown=>exact he.elim
theorem run_callH{H:HCalls}(hH:HCallOk P H){f:Nat}{c:Call}(hop:o.op = .call c)(hcal:c.callee = .value (.func f)){ws:List HV}{r:HV}{st':HSt}(h:H f ws st=some (r,st')):
 (execOp a.eval o).run P w = .ok (.enter f (c.args.map a.eval)) w:=by
 obtain⟨⟨fn,h1,h2,h3⟩,_⟩:=hH f ws st r st' h
 have h2' : ¬ fn.name = "runtime.NumGoroutine" := by simpa using h2
 simp[execOp,hop,resolve,hcal,Deferred.ofValue,invoke,Act.eval,callFunc,h1,h2',h3]
 intro hb
 rw[hb] at h3;cases h3
theorem run_callvH{H:HCalls}(hH:HCallOk P H){f:Nat}{c:Call}{y:Operand}(hop:o.op = .call c)(hcal:c.callee = .value y){us vs:Array Value}(hy:a.eval y = .func (.func f) us vs){ws:List HV}{r:HV}{st':HSt}(h:H f ws st=some (r,st')):
 (execOp a.eval o).run P w = .ok (.enter f (us++c.args.map a.eval++vs)) w:=by
 obtain⟨⟨fn,h1,h2,h3⟩,_⟩:=hH f ws st r st' h
 have h2' : ¬ fn.name = "runtime.NumGoroutine" := by simpa using h2
 simp only[execOp,hop,resolve,hcal,Deferred.ofValue,hy]
 simp[invoke,callFunc,h1,h2',h3]
 intro hb
 rw[hb] at h3;cases h3
theorem argsH(I:HInv n w L A st a g){l:Array Operand}{l':List XO}(h:trOs l.toList=some l'):(l.map a.eval).size=(l'.map (lookHG g)).length/\∀i (hi:i<(l'.map (lookHG g)).length),RepH w L A (l'.map (lookHG g))[i] ((l.map a.eval).getD i undef):=by
 obtain⟨h1,h2⟩:=I.looks h
 refine⟨by rw[h1];simp,fun i hi=>?_⟩
 have:=h2 i hi
 simpa using this
theorem append_repH{xs ys:List HV}{us vs:Array Value}(h1:us.size=xs.length)(h2:vs.size=ys.length)(H1:∀i (hi:i<xs.length),RepH w L A xs[i] (us.getD i undef))(H2:∀i (hi:i<ys.length),RepH w L A ys[i] (vs.getD i undef)):
 (us++vs).size=(xs++ys).length/\∀i (hi:i<(xs++ys).length),RepH w L A (xs++ys)[i] ((us++vs).getD i undef):=by
 refine⟨by simp[h1,h2],fun i hi=>?_⟩
 rw[append_getD,h1]
 by_cases hlt:i<xs.length
 ·rw[if_pos hlt,List.getElem_append_left hlt];exact H1 i hlt
 ·rw[if_neg hlt,List.getElem_append_right (by omega)]
  exact H2 _ (by simp at hi;omega)
theorem stepCall(I:HInv n w L A st a g)(hn:n<=HK)(hdn:∀d,o.dst=some d->d<n){H:HCalls}(hH:HCallOk P H){c:Call}{f:Nat}{az:List XO}(hop:o.op = .call c)(hcal:c.callee = .value (.func f))(hargs:trOs c.args.toList=some az)
 {r:HV}{st':HSt}(h:H f (az.map (lookHG g)) st=some (r,st')):HStep P n o a w L A (fun t=>if o.dst=some t then r else g t) st' Q:=by
 obtain⟨h1,h2⟩:=argsH I hargs
 exact stepEnter I hn hdn hH h (run_callH hH hop hcal h) h1 h2
theorem stepCallv(I:HInv n w L A st a g)(hn:n<=HK)(hdn:∀d,o.dst=some d->d<n){H:HCalls}(hH:HCallOk P H){c:Call}{t:Nat}{az:List XO}(hop:o.op = .call c)(hcal:c.callee = .value (.tmp t))(hargs:trOs c.args.toList=some az)
 {r:HV}{st':HSt}(h:evHS H (lookHG g) st (.x (.callv (.t t) az))=some (r,st')):HStep P n o a w L A (fun t=>if o.dst=some t then r else g t) st' Q:=by
 obtain⟨h1,h2⟩:=argsH I hargs
 have HF:=I.look (x:=.tmp t) (x':=.t t) rfl
 simp only[evHS] at h
 split at h
 ·rename_i f caps hx
  rw[hx] at HF
  generalize hu:a.eval (.tmp t)=u at HF
  cases HF with
  | fn _ _ vs hz hc=>
    obtain⟨h3,h4⟩:=append_repH h1 hz h2 hc
    have:=run_callvH (w:=w) hH hop hcal hu h
    rw[show (#[]:Array Value)++c.args.map a.eval=c.args.map a.eval by simp] at this
    exact stepEnter I hn hdn hH h this h3 h4
 ·rename_i f first hx
  rw[hx] at HF
  generalize hu:a.eval (.tmp t)=u at HF
  cases HF with
  | bm _ _ vs hz hc=>
    obtain⟨h3,h4⟩:=append_repH hz h1 hc h2
    have:=run_callvH (w:=w) hH hop hcal hu h
    rw[Array.append_empty] at this
    exact stepEnter I hn hdn hH h this h3 h4
 ·rename_i f caps hx
  rw[hx] at HF
  obtain⟨hl,HF⟩:=HF.pv
  generalize hu:a.eval (.tmp t)=u at HF
  cases HF with
  | fn _ _ _ vs hz hc=>
    have hcs:∀c∈caps,c.loose=true:=fun c hc=>by
     simp only[PV.loose,noOwn,refs,Bool.and_eq_true,List.isEmpty_iff] at hl
     obtain⟨i,hi,rfl⟩:=List.getElem_of_mem hc
     simp only[PV.loose,noOwnL_get hl.1 i hi,Bool.true_and,List.isEmpty_iff]
     exact List.eq_nil_iff_forall_not_mem.2 fun q hq=>by have:=mem_refsL i hi hq;rw[hl.2] at this;cases this
    obtain⟨h3,h4⟩:=append_repH (w:=w) (L:=L) (A:=A) (ys:=caps.map HV.p) h1 (by simpa using hz) h2 fun i hi=>by
     simp only[List.getElem_map]
     exact .p _ _ (hcs _ (List.getElem_mem _)) (hc i (by simpa using hi))
    have:=run_callvH (w:=w) hH hop hcal hu h
    rw[show (#[]:Array Value)++c.args.map a.eval=c.args.map a.eval by simp] at this
    exact stepEnter I hn hdn hH h this h3 h4
 ·cases h
end
open Go
def dstH:HOp->Option Nat->Bool
 | .x (.store ..),d=>d.isNone
 | .x (.call ..),_=>true
 | .x (.callv ..),_=>true
 | .copy ..,_=>true
 | _,d=>d.isSome
section
variable {P:Program} {n:Nat} {w:World} {L:LM} {A:AM} {st:HSt} {a:Act} {g:Nat->HV} {o:Oper} {Q:Exit->Act->World->Prop} {H:HCalls}
theorem HStep.dst{d:Nat}{v:HV}{st':HSt}(ho:o.dst=some d)(h:HStep P n o a w L A (fun t=>if t=d then v else g t) st' Q):HStep P n o a w L A (fun t=>if o.dst=some t then v else g t) st' Q:=by
 have:(fun t=>if o.dst=some t then v else g t) = fun t=>if t=d then v else g t:=by
  funext t
  rw[ho]
  by_cases h:t=d
  ·subst h;simp
  ·simp[h,Ne.symm h]
 rw[this];exact h
theorem evHS_step(I:HInv n w L A st a g)(hn:n<=HK)(hdn:∀d,o.dst=some d->d<n)(hH:HCallOk P H){y:HOp}(ht:trH P o.op=some y)(hds:dstH y o.dst=true){v:HV}{st':HSt}(h:evHS H (lookHG g) st y=some (v,st')):
 HStep P n o a w L A (fun t=>if o.dst=some t then v else g t) st' Q:=by
 have some_:o.dst.isSome=true->∃d,o.dst=some d:=fun h=>Option.isSome_iff_exists.1 h
 rcases trH_some ht with h2|⟨x,rfl,hx⟩
 ·cases y with
  | x x=>exact absurd h2 trH2_x
  | copy sz d' s'=>
    have key:∃c d s t et,o.op = .call c/\c.callee = .builtin .copy/\c.args=#[d,s]/\c.argTypes=#[t,t]/\trO d=some d'/\trO s=some s'/\sliceP P t=some et/\szP P et=some sz/\0<sz:=by
     cases hop:o.op <;> rw[hop] at h2 <;> simp only[trH2,reduceCtorEq] at h2
     case call c=>
      split at h2
      ·rename_i d s t t' hcal hargs htys
       split at h2
       ·rename_i htt
        subst htt
        simp only[Option.bind_eq_some_iff] at h2
        obtain⟨et,het,sz0,hsz,h2⟩:=h2
        split at h2
        ·rename_i hz
         simp only[Option.bind_eq_some_iff,Option.map_eq_some_iff] at h2
         obtain⟨d1,hd1,s1,hs1,h3⟩:=h2
         simp only[HOp.copy.injEq] at h3
         obtain⟨rfl,rfl,rfl⟩:=h3
         exact⟨c,d,s,t,et,rfl,hcal,by rw[←Array.toList_inj];simpa using hargs,by rw[←Array.toList_inj];simpa using htys,hd1,hs1,het,hsz,hz⟩
        ·cases h2
       ·cases h2
      ·cases h2
     case makeFunc fn fi cs=>
      split at h2
      ·simp only[Option.map_eq_some_iff] at h2;obtain⟨_,_,h2⟩:=h2;cases h2
      ·cases h2
     case binOp op xt x y' yt=>
      cases op <;> simp only[reduceCtorEq] at h2
      all_goals
       simp only[Option.bind_eq_some_iff] at h2
       obtain⟨_,_,h2⟩:=h2
       split at h2
       ·simp only[Option.map_eq_some_iff] at h2;obtain⟨_,_,h2⟩:=h2;cases h2
       ·cases h2
     case slice t x lo hi mx=>
      cases hi with
      | none=>cases h2
      | some hi=>
        cases mx with
        | none=>cases h2
        | some mx=>
          simp only[Option.bind_eq_some_iff] at h2
          obtain⟨_,_,_,_,h2⟩:=h2
          split at h2
          ·simp only[Option.map_eq_some_iff] at h2;obtain⟨_,_,h2⟩:=h2;cases h2
          ·cases h2
    obtain⟨c,d,s,t,et,hop,hcal,hargs,htys,hd',hs',het,hsz,hz0⟩:=key
    simp only[evHS] at h
    split at h
    ·rename_i r off len z ed
     split at h
     ·rename_i sz' n0 cs hst
      split at h
      ·rename_i m new ex
       split at h
       ·rename_i hc
        obtain⟨rfl,rfl,h3,h4,h5,h6⟩:=hc
        simp only[Option.some.injEq,Prod.mk.injEq] at h
        obtain⟨rfl,rfl⟩:=h
        exact stepCopy I hn hdn hop hcal hargs htys hd' hs' het hsz hz0 ed hst h3 ex h4 h6
       ·cases h
      ·cases h
     ·cases h
    ·cases h
  | bm f first=>simp[evHS] at h
  | snil neg x=>simp[evHS] at h
  | slc0 x=>simp[evHS] at h
 ·cases hop:o.op <;> rw[hop] at hx <;> simp only[trOp] at hx
  case buildSlice t len parts=>
   simp only[Option.bind_eq_some_iff] at hx
   obtain⟨et,het,z,hz,sz,hsz,hx⟩:=hx
   split at hx
   ·simp only[Option.map_eq_some_iff] at hx
    obtain⟨ps,hps,rfl⟩:=hx
    simp[evHS] at h
   ·cases hx
  case store t y z=>
   simp only[Option.bind_eq_some_iff,Option.map_eq_some_iff] at hx
   obtain⟨sz,hsz,y',hy,z',hz,rfl⟩:=hx
   have ho:o.dst=Option.none:=by simpa[dstH] using hds
   have hg:(fun t=>if o.dst=some t then v else g t)=g:=by funext t;rw[ho];simp
   rw[hg]
   simp only[evHS] at h
   split at h
   ·rename_i b i ea
    split at h
    ·rename_i hc
     obtain⟨h1,h2,h3⟩:=hc
     split at h
     ·rename_i cs hst
      split at h
      ·rename_i hle
       simp only[Option.some.injEq,Prod.mk.injEq] at h
       obtain⟨rfl,rfl⟩:=h
       exact stepStore I hn ho hop hy hz hsz ea h1 h2 h3 hst (.inl ⟨rfl,rfl⟩) hle
      ·cases h
     ·rename_i z1 n1 cs hst
      split at h
      ·rename_i hle
       simp only[Option.some.injEq,Prod.mk.injEq] at h
       obtain⟨rfl,rfl⟩:=h
       exact stepStore I hn ho hop hy hz hsz ea h1 h2 h3 hst (.inr ⟨z1,n1,rfl,rfl⟩) hle
      ·cases h
     ·cases h
    ·cases h
   ·cases h
  case call c=>
   have hx0:trOp P (.call c)=some x:=by simpa only[trOp] using hx
   by_cases hcall:isCall x=true
   ·rcases trOp_call hx0 hcall with⟨c',f,az,e1,hcal,has,rfl⟩|⟨c',t,az,e1,hcal,has,rfl⟩
    ·cases e1
     simp only[evHS] at h
     exact stepCall I hn hdn hH hop hcal has h
    ·cases e1
     exact stepCallv I hn hdn hH hop hcal has h
   ·unfold trCall at hx
    split at hx
    ·split at hx
     ·simp only[Option.map_eq_some_iff] at hx;obtain⟨_,_,rfl⟩:=hx;simp[evHS] at h
     ·simp only[Option.map_eq_some_iff] at hx;obtain⟨_,_,rfl⟩:=hx;simp[evHS] at h
     ·obtain rfl:=Option.some.inj hx;simp[evHS] at h
     ·cases hx
    ·rename_i s x1 t t' hcal hargs htys
     split at hx
     ·rename_i htt
      subst htt
      simp only[Option.bind_eq_some_iff] at hx
      obtain⟨et,het,z,hz,sz,hsz,i,hi,hx⟩:=hx
      split at hx
      ·rename_i hcond
       simp only[Option.bind_eq_some_iff,Option.map_eq_some_iff] at hx
       obtain⟨s',hs,x',hx',rfl⟩:=hx
       obtain⟨d,ho⟩:=some_ (by simpa[dstH] using hds)
       have hc:c={ callee:=.builtin .append,args:=#[s,x1],argTypes:=#[t,t] }:=by
        cases c
        simp only[Call.mk.injEq]
        exact⟨hcal,by rw[←Array.toList_inj];simpa using hargs,by rw[←Array.toList_inj];simpa using htys⟩
       rw[hc] at hop
       have hby:(P.info? et).map (·.bytes)=some i.bytes:=by rw[hi];rfl
       simp only[evHS] at h
       split at h
       ·rename_i es
        split at h
        ·rename_i k new ex
         split at h
         ·rename_i hcc
          obtain⟨h1,h2,h3,h4,h5,_⟩:=hcc
          simp only[Option.some.injEq,Prod.mk.injEq] at h
          obtain⟨rfl,rfl⟩:=h
          exact (stepAppNil I hn (hdn d ho) ho hop hs hx' (sliceP_some het) hz hsz hcond.1 hcond.2 hby es ex h1 h2 h3 h5).dst ho
         ·cases h
        ·cases h
       ·rename_i r off len z1 es
        split at h
        ·rename_i sz' n0 cs hst
         split at h
         ·rename_i m new ex
          split at h
          ·rename_i hcc
           obtain⟨rfl,rfl,rfl,h1,h2,h3,h4,h5,h6,h7⟩:=hcc
           simp only[Option.some.injEq,Prod.mk.injEq] at h
           obtain⟨rfl,rfl⟩:=h
           exact (stepApp I hn (hdn d ho) ho hop hs hx' (sliceP_some het) hz hsz hcond.1 hcond.2 hby es hst ex h1 h2 h3 h4 h6 h7).dst ho
          ·cases h
         ·cases h
        ·cases h
       ·cases h
      ·cases hx
     ·cases hx
    ·simp only[Option.bind_eq_some_iff,Option.map_eq_some_iff] at hx;obtain⟨_,_,_,_,rfl⟩:=hx;simp[evHS] at h
    ·simp only[Option.bind_eq_some_iff,Option.map_eq_some_iff] at hx;obtain⟨_,_,_,_,rfl⟩:=hx;simp[evHS] at h
    ·simp only[Option.map_eq_some_iff] at hx;obtain⟨_,_,rfl⟩:=hx;exact absurd rfl hcall
    ·simp only[Option.map_eq_some_iff] at hx;obtain⟨_,_,rfl⟩:=hx;exact absurd rfl hcall
    ·cases hx
  case binOp op xt y z yt=>
   exfalso
   simp only[Option.bind_eq_some_iff] at hx
   obtain⟨y',hy,z',hz,hx⟩:=hx
   cases op <;> simp only[trBin] at hx
   case eql=>
    split at hx
    ·obtain rfl:=Option.some.inj hx;simp[evHS] at h
    ·obtain rfl:=Option.some.inj hx;simp[evHS] at h
    ·simp only[Option.map_eq_some_iff] at hx;obtain⟨_,_,rfl⟩:=hx;simp[evHS] at h
    ·simp only[Option.map_eq_some_iff] at hx;obtain⟨_,_,rfl⟩:=hx;simp[evHS] at h
    ·obtain rfl:=Option.some.inj hx;simp[evHS] at h
   case neq=>
    split at hx
    ·obtain rfl:=Option.some.inj hx;simp[evHS] at h
    ·obtain rfl:=Option.some.inj hx;simp[evHS] at h
    ·simp only[Option.map_eq_some_iff] at hx;obtain⟨_,_,rfl⟩:=hx;simp[evHS] at h
    ·simp only[Option.map_eq_some_iff] at hx;obtain⟨_,_,rfl⟩:=hx;simp[evHS] at h
    ·obtain rfl:=Option.some.inj hx;simp[evHS] at h
   all_goals (obtain rfl:=Option.some.inj hx;simp[evHS] at h)
  case build t parts=>
   split at hx
   ·simp only[Option.bind_eq_some_iff,Option.map_eq_some_iff] at hx;obtain⟨_,_,_,_,_,_,rfl⟩:=hx;simp[evHS] at h
   ·simp only[Option.bind_eq_some_iff,Option.map_eq_some_iff] at hx;obtain⟨_,_,_,_,_,_,rfl⟩:=hx;simp[evHS] at h
   ·cases hx
  case load t y=>
   simp only[Option.bind_eq_some_iff] at hx
   obtain⟨_,_,_,_,hx⟩:=hx
   split at hx
   ·simp only[Option.map_eq_some_iff] at hx;obtain⟨_,_,rfl⟩:=hx;simp[evHS] at h
   ·cases hx
  case convert s d y=>
   split at hx
   ·simp only[Option.map_eq_some_iff] at hx;obtain⟨_,_,rfl⟩:=hx;simp[evHS] at h
   ·simp only[Option.bind_eq_some_iff,Option.map_eq_some_iff] at hx;obtain⟨_,_,_,_,_,_,rfl⟩:=hx;simp[evHS] at h
  case makeFunc fn fi cs=>
   split at hx
   ·simp only[Option.map_eq_some_iff] at hx;obtain⟨_,_,rfl⟩:=hx;simp[evHS] at h
   ·cases hx
  case makeSlice t l c=>
   simp only[Option.bind_eq_some_iff] at hx
   obtain⟨_,_,_,_,_,_,_,_,hx⟩:=hx
   split at hx
   ·simp only[Option.bind_eq_some_iff,Option.map_eq_some_iff] at hx;obtain⟨_,_,_,_,rfl⟩:=hx;simp[evHS] at h
   ·cases hx
  case slice t y lo hi mx=>
   cases mx with
   | some m=>simp at hx
   | none=>
     simp only at hx
     split at hx
     ·simp only[Option.bind_eq_some_iff,Option.map_eq_some_iff] at hx;obtain⟨_,_,_,_,_,_,rfl⟩:=hx;simp[evHS] at h
     ·simp only[Option.bind_eq_some_iff] at hx
      obtain⟨_,_,hx⟩:=hx
      split at hx
      ·simp only[Option.bind_eq_some_iff,Option.map_eq_some_iff] at hx;obtain⟨_,_,_,_,_,_,rfl⟩:=hx;simp[evHS] at h
      ·cases hx
     ·cases hx
  case fieldAddr s y f=>
   simp only[Option.bind_eq_some_iff] at hx
   obtain⟨_,_,_,_,hx⟩:=hx
   split at hx
   ·simp only[Option.map_eq_some_iff] at hx;obtain⟨_,_,rfl⟩:=hx;simp[evHS] at h
   ·cases hx
  case indexAddr t y i=>
   split at hx
   ·simp only[Option.bind_eq_some_iff] at hx
    obtain⟨_,_,hx⟩:=hx
    split at hx
    ·simp only[Option.bind_eq_some_iff,Option.map_eq_some_iff] at hx;obtain⟨_,_,_,_,rfl⟩:=hx;simp[evHS] at h
    ·cases hx
   ·simp only[Option.bind_eq_some_iff] at hx
    obtain⟨_,_,hx⟩:=hx
    split at hx
    ·simp only[Option.bind_eq_some_iff,Option.map_eq_some_iff] at hx;obtain⟨_,_,_,_,rfl⟩:=hx;simp[evHS] at h
    ·cases hx
   ·cases hx
  case index t y i=>
   split at hx
   ·simp only[Option.bind_eq_some_iff,Option.map_eq_some_iff] at hx;obtain⟨_,_,_,_,rfl⟩:=hx;simp[evHS] at h
   ·simp only[Option.bind_eq_some_iff,Option.map_eq_some_iff] at hx;obtain⟨_,_,_,_,_,_,_,_,rfl⟩:=hx;simp[evHS] at h
   ·cases hx
  all_goals first
   | (cases hx;done)
   | (simp only[Option.map_eq_some_iff] at hx;obtain⟨_,_,rfl⟩:=hx;simp[evHS] at h;done)
   | (simp only[Option.bind_eq_some_iff,Option.map_eq_some_iff] at hx;obtain⟨_,_,_,_,_,_,rfl⟩:=hx;simp[evHS] at h;done)
   | (simp only[Option.bind_eq_some_iff,Option.map_eq_some_iff] at hx;obtain⟨_,_,_,_,_,_,_,_,rfl⟩:=hx;simp[evHS] at h;done)
end
open Go
abbrev GS:=(Nat->HV)×HSt
def land1G(s:GS)(t:Nat):GS:=
 match s.1 t with
 | .p (.box cs)=>if fresh (.box cs) then (fun t'=>if t'=t then .ptr s.2.length 0 else s.1 t',s.2++[.box (cs.map .p)]) else s
 | .p (.own sz len cs)=>if fresh (.own sz len cs) then (fun t'=>if t'=t then .row s.2.length 0 len sz else s.1 t',s.2++[.row sz len (cs.map .p)]) else s
 | .nbox cs=>(fun t'=>if t'=t then .ptr s.2.length 0 else s.1 t',s.2++[.box cs])
 | .nrow sz len cs=>(fun t'=>if t'=t then .row s.2.length 0 len sz else s.1 t',s.2++[.row sz len cs])
 | _=>s
def hlandG:GS->List Nat->GS
 | s,[]=>s
 | s,t::r=>hlandG (land1G s t) r
theorem land1_G(s:HS)(t:Nat):(land1 s t).1.get=(land1G (s.1.get,s.2) t).1/\(land1 s t).2=(land1G (s.1.get,s.2) t).2:=by
 unfold land1 land1G
 simp only
 generalize s.1.get t=v
 cases v with
 | p pv=>
   cases pv with
   | box cs=>
     simp only
     by_cases hf:fresh (.box cs)=true
     ·rw[if_pos hf,if_pos hf]
      exact⟨funext fun t'=>hget_set _ _ _ _,rfl⟩
     ·rw[if_neg hf,if_neg hf]
      exact⟨rfl,rfl⟩
   | own sz len cs=>
     simp only
     by_cases hf:fresh (.own sz len cs)=true
     ·rw[if_pos hf,if_pos hf]
      exact⟨funext fun t'=>hget_set _ _ _ _,rfl⟩
     ·rw[if_neg hf,if_neg hf]
      exact⟨rfl,rfl⟩
   | _=>exact⟨rfl,rfl⟩
 | nbox cs=>exact⟨funext fun t'=>hget_set _ _ _ _,rfl⟩
 | nrow sz len cs=>exact⟨funext fun t'=>hget_set _ _ _ _,rfl⟩
 | _=>exact⟨rfl,rfl⟩
theorem hland_G:∀(l:List Nat) (s:HS),(hland s l).1.get=(hlandG (s.1.get,s.2) l).1/\(hland s l).2=(hlandG (s.1.get,s.2) l).2
 | [],s=>⟨rfl,rfl⟩
 | t::r,s=>by
   obtain⟨h1,h2⟩:=land1_G s t
   obtain⟨h3,h4⟩:=hland_G r (land1 s t)
   rw[h1,h2] at h3 h4
   exact⟨h3,h4⟩
theorem land1G_congr{T:Nat->Prop}{g g':Nat->HV}{st:HSt}{t:Nat}(ht:T t)(h:∀t,T t->g t=g' t):
 (land1G (g,st) t).2=(land1G (g',st) t).2/\(∀q,T q->(land1G (g,st) t).1 q=(land1G (g',st) t).1 q)/\(∀q,q≠t->(land1G (g,st) t).1 q=g q):=by
 unfold land1G
 simp only[←h t ht]
 generalize g t=v
 have new:∀(x:HV) (b:HB),((fun t'=>if t'=t then x else g t',st++[b]):GS).2=((fun t'=>if t'=t then x else g' t',st++[b]):GS).2/\(∀q,T q->((fun t'=>if t'=t then x else g t',st++[b]):GS).1 q=((fun t'=>if t'=t then x else g' t',st++[b]):GS).1 q)/\(∀q,q≠t->((fun t'=>if t'=t then x else g t',st++[b]):GS).1 q=g q):=
  fun x b=>⟨rfl,fun q hq=>by simp only;rw[h q hq],fun q hq=>by simp[hq]⟩
 have same:((g,st):GS).2=((g',st):GS).2/\(∀q,T q->((g,st):GS).1 q=((g',st):GS).1 q)/\(∀q,q≠t->((g,st):GS).1 q=g q):=⟨rfl,h,fun _ _=>rfl⟩
 cases v with
 | p pv=>
   cases pv with
   | box cs=>
     simp only
     by_cases hf:fresh (.box cs)=true
     ·rw[if_pos hf,if_pos hf];exact new _ _
     ·rw[if_neg hf,if_neg hf];exact same
   | own sz len cs=>
     simp only
     by_cases hf:fresh (.own sz len cs)=true
     ·rw[if_pos hf,if_pos hf];exact new _ _
     ·rw[if_neg hf,if_neg hf];exact same
   | _=>exact same
 | nbox cs=>exact new _ _
 | nrow sz len cs=>exact new _ _
 | _=>exact same
theorem hlandG_congr{T:Nat->Prop}:∀(l:List Nat) {g g':Nat->HV} {st:HSt},(∀t∈l,T t)->(∀t,T t->g t=g' t) ->
 (hlandG (g,st) l).2=(hlandG (g',st) l).2/\(∀q,T q->(hlandG (g,st) l).1 q=(hlandG (g',st) l).1 q)/\(∀q,q∉l->(hlandG (g,st) l).1 q=g q)
 | [],g,g',st,_,h=>⟨rfl,h,fun _ _=>rfl⟩
 | t::r,g,g',st,hl,h=>by
   obtain⟨h1,h2,h3⟩:=land1G_congr (st:=st) (hl t (by simp)) h
   have e:land1G (g',st) t=((land1G (g',st) t).1,(land1G (g,st) t).2):=by rw[h1]
   obtain⟨h4,h5,h6⟩:=hlandG_congr r (st:=(land1G (g,st) t).2) (fun t ht=>hl t (by simp[ht])) h2
   simp only[hlandG]
   rw[show hlandG (land1G (g',st) t) r=hlandG ((land1G (g',st) t).1,(land1G (g,st) t).2) r by rw[←e]]
   exact⟨h4,h5,fun q hq=>by
    simp only[List.mem_cons,not_or] at hq
    rw[h6 q hq.2,h3 q hq.1]⟩
theorem hlandG_keep:∀(l:List Nat) {g:Nat->HV} {st:HSt} {t:Nat},isFresh (g t)=false->(hlandG (g,st) l).1 t=g t
 | [],g,st,t,h=>rfl
 | q::r,g,st,t,h=>by
   have h1:(land1G (g,st) q).1 t=g t:=by
    by_cases hq:t=q
    ·subst hq
     unfold land1G
     simp only
     split
     ·rename_i cs e
      rw[e] at h
      rw[if_neg (by simpa[isFresh] using h)]
     ·rename_i sz len cs e
      rw[e] at h
      rw[if_neg (by simpa[isFresh] using h)]
     ·rename_i cs e;rw[e] at h;simp[isFresh] at h
     ·rename_i sz len cs e;rw[e] at h;simp[isFresh] at h
     ·rfl
    ·exact (land1G_congr (T:=fun _=>True) (g:=g) (g':=g) (st:=st) (t:=q) trivial (fun _ _=>rfl)).2.2 t hq
   simp only[hlandG]
   rw[show land1G (g,st) q=((land1G (g,st) q).1,(land1G (g,st) q).2) from rfl,hlandG_keep r (by rw[h1];exact h),h1]
def stepGL(C:Calls')(H:HCalls)(s:GS)(o:HI):Option (HV×HSt):=
 match evHP C (lookHG s.1) (lookPG s.1) s.2 o.op with
 | some v=>match o.dst with
   | some _=>some (v,s.2)
   | Option.none=>Option.none
 | Option.none=>evHS H (lookHG s.1) s.2 o.op
def stepG(C:Calls')(H:HCalls)(s:GS)(o:HI):Option GS:=
 match wantsG (fun t=>toP (s.1 t)) o.guard with
 | some true=>(stepGL C H (hlandG s o.op.temps) o).map fun r=>(fun t=>if o.dst=some t then r.1 else (hlandG s o.op.temps).1 t,r.2)
 | some false=>some (fun t=>if o.dst=some t then .p (.tup []) else s.1 t,s.2)
 | Option.none=>Option.none
theorem setH_get(e:HEnv)(d:Option Nat)(v:HV)(t:Nat):(setH e d v).get t = if d=some t then v else e.get t:=by
 cases d with
 | none=>simp[setH]
 | some d=>
   simp only[setH,hget_set]
   by_cases h:t=d
   ·subst h;simp
   ·simp[h,Ne.symm h]
theorem stepH_G{C:Calls'}{H:HCalls}{s s':HS}{o:HI}(h:stepH C H s o=some s'):stepG C H (s.1.get,s.2) o=some (s'.1.get,s'.2):=by
 unfold stepH at h
 unfold stepG
 split at h
 ·rename_i hw
  obtain⟨h1,h2⟩:=hland_G o.op.temps s
  try simp only[hw]
  unfold stepHL at h
  unfold stepGL
  rw[h1,h2] at h
  split at h
  ·rename_i v hv
   try simp only[hv]
   split at h
   ·rename_i d hd
    obtain rfl:=Option.some.inj h
    simp only[hd,Option.map_some,Option.some.injEq,Prod.mk.injEq,and_true]
    funext t
    rw[hget_set,h1]
    by_cases h:t=d
    ·subst h;simp
    ·simp[h,Ne.symm h]
   ·cases h
  ·rename_i hv
   try simp only[hv]
   split at h
   ·rename_i v st hs
    obtain rfl:=Option.some.inj h
    simp only[hs,Option.map_some,Option.some.injEq,Prod.mk.injEq,and_true]
    funext t
    rw[setH_get,h1]
   ·cases h
 ·rename_i hw
  obtain rfl:=Option.some.inj h
  simp only[hw,Option.some.injEq,Prod.mk.injEq,and_true]
  funext t
  rw[setH_get]
 ·cases h
structure HCtx where
 n:Nat
 w0:World
 L0:LM
 A0:AM
 st0:HSt
def HCtx.Good(X:HCtx):Prop:=X.n<=HK/\HOk X.w0 X.L0 X.A0 X.st0
def HCtx.St(X:HCtx)(s:GS)(a:Act)(w:World):Prop:=∃L A,HInv X.n w L A s.2 a s.1/\Evo X.w0 X.L0 X.A0 w L A
theorem HCtx.St.congr{X:HCtx}{g g':Nat->HV}{st:HSt}{a:Act}{w:World}(h:X.St (g,st) a w)(e:∀t,g' t=g t):X.St (g',st) a w:=by
 obtain⟨L,A,I,E⟩:=h
 exact⟨L,A,I.congr e,E⟩
theorem HCtx.St.forget{X:HCtx}{g g':Nat->HV}{st:HSt}{a:Act}{w:World}(h:X.St (g,st) a w)(e:∀t,g' t=g t\/g' t = .p .none):X.St (g',st) a w:=by
 obtain⟨L,A,I,E⟩:=h
 exact⟨L,A,I.forget e,E⟩
theorem HCtx.St.drew{X:HCtx}(hX:X.Good){s:GS}{a:Act}{w:World}(h:X.St s a w):X.St s a w.drew:=by
 obtain⟨L,A,I,E⟩:=h
 obtain⟨I1,E1⟩:=I.drew hX.1
 exact⟨L,A,I1,E.tr hX.2 E1⟩
theorem HCtx.St.land1{X:HCtx}(hX:X.Good){s:GS}{a:Act}{w:World}(h:X.St s a w)(t:Nat):X.St (land1G s t) a w:=by
 obtain⟨L,A,I,E⟩:=h
 by_cases ht:t<X.n
 ·let e:HEnv:=(List.range X.n).map fun i=>(i,s.1 i)
  have he:∀i,e.get i=s.1 i:=fun i=>by
   have key:∀(l:List Nat) (f:Nat->HV),HEnv.get (l.map fun i=>(i,f i)) i = if i∈l then f i else .p .none:=fun l f=>by
    induction l with
    | nil=>simp[HEnv.get]
    | cons x l ih=>
      simp only[List.map_cons,HEnv.get,ih,List.mem_cons]
      by_cases h:i=x
      ·subst h;simp
      ·simp[h]
   rw[key]
   by_cases h:i∈List.range X.n
   ·rw[if_pos h]
   ·rw[if_neg h,I.dom i (by simpa using h)]
  obtain⟨L1,A1,I1,E1⟩:=land1_sound (e:=e) (st:=s.2) (I.congr he) hX.1 t
  obtain⟨h1,h2⟩:=land1_G (e,s.2) t
  rw[h1,h2] at I1
  have hee:e.get=s.1:=funext he
  simp only[hee] at I1
  exact⟨L1,A1,I1,E.tr hX.2 E1⟩
 ·have:land1G s t=s:=by
   unfold land1G
   rw[I.dom t (by omega)]
  rw[this];exact⟨L,A,I,E⟩
theorem HCtx.St.land{X:HCtx}(hX:X.Good){a:Act}{w:World}:∀(l:List Nat) {s:GS},X.St s a w->X.St (hlandG s l) a w
 | [],s,h=>h
 | t::r,s,h=>HCtx.St.land hX r (h.land1 hX t)
def trHI(P:Program)(okD:Nat->Bool)(ops:Array Oper)(o:Oper)(bar:Bool×List Nat):Option HI:=
 match trH P o.op,trG ops o.guard with
 | some x,some g=>if dstH x o.dst&&dstOk okD o.dst then some ⟨o.dst,x,g,bar.1,bar.2⟩ else Option.none
 | _,_=>Option.none
theorem trHI_some{P:Program}{okD:Nat->Bool}{ops:Array Oper}{o:Oper}{bar:Bool×List Nat}{x:HI}(h:trHI P okD ops o bar=some x):
 trH P o.op=some x.op/\trG ops o.guard=some x.guard/\x.dst=o.dst/\x.bar=bar.1/\(∀d,o.dst=some d->okD d=true)/\dstH x.op o.dst=true:=by
 unfold trHI at h
 split at h
 ·rename_i y g h1 h2
  split at h
  ·rename_i hc
   simp only[Bool.and_eq_true] at hc
   obtain rfl:=Option.some.inj h
   refine⟨h1,h2,rfl,rfl,fun d hd=>by have:=hc.2;rw[hd] at this;exact this,hc.1⟩
  ·cases h
 ·cases h
section
variable {P:Program} {X:HCtx} {a:Act} {w:World} {o:Oper} {ops:Array Oper} {Q:Exit->Act->World->Prop} {C:Calls'} {H:HCalls} {okD:Nat->Bool}
theorem St_step{s':GS}(hX:X.Good){L:LM}{A:AM}(I:HOk X.w0 X.L0 X.A0 X.st0)(E:Evo X.w0 X.L0 X.A0 w L A)(h:HStep P X.n o a w L A s'.1 s'.2 Q):o.wp P a w (fun a' w'=>X.St s' a' w') Q:=
 Oper.wp_mono (fun a' w' hh=>by
  obtain⟨L',A',I',E'⟩:=hh
  exact⟨L',A',I',E.tr I E'⟩) h
theorem stepG_sound(hX:X.Good)(hC:CallOk P C)(hH:HCallOk P H)(hok:∀d,okD d=true->d<X.n){s s':GS}(S:X.St s a w){bar:Bool×List Nat}{x:HI}(ht:trHI P okD ops o bar=some x)(h:stepG C H s x=some s'):
 (Region.wanted o (yielded ops a.tmps)=true/\o.wp P a w (fun a' w'=>X.St s' a' w') Q)\/(Region.wanted o (yielded ops a.tmps)=false/\X.St s' (a.put o.dst undef) w):=by
 obtain⟨h1,h2,h3,h4,h5,h6⟩:=trHI_some ht
 have hd:∀d,o.dst=some d->d<X.n:=fun d hd=>hok d (h5 d hd)
 unfold stepG at h
 split at h
 ·rename_i hw
  have hwant:Region.wanted o (yielded ops a.tmps)=true:=by
   obtain⟨L,A,I,E⟩:=S
   exact wants_sound (o:=o) (ops:=ops) I.inv h2 (b:=true) hw
  refine .inl ⟨hwant,?_⟩
  obtain⟨L,A,I,E⟩:=S.land hX x.op.temps
  simp only[Option.map_eq_some_iff] at h
  obtain⟨⟨v,st⟩,hv,rfl⟩:=h
  unfold stepGL at hv
  split at hv
  ·rename_i v' hev
   split at hv
   ·rename_i d hxd
    simp only[Option.some.injEq,Prod.mk.injEq] at hv
    obtain⟨rfl,rfl⟩:=hv
    rw[h3] at hxd
    have:=evHP_step (Q:=Q) hC I hX.1 h1 hxd (hd d hxd) hev
    rw[h3]
    exact St_step hX hX.2 E (this.dst hxd)
   ·cases hv
  ·have:=evHS_step (Q:=Q) I hX.1 hd hH h1 h6 hv
   rw[h3]
   exact St_step hX hX.2 E this
 ·rename_i hw
  obtain⟨L,A,I,E⟩:=S
  have hwant:=wants_sound (o:=o) (ops:=ops) I.inv h2 (b:=false) hw
  refine .inr ⟨hwant,?_⟩
  obtain rfl:=Option.some.inj h
  rw[h3]
  cases ho:o.dst with
  | none=>
    refine⟨L,A,?_,E⟩
    have:a.put Option.none undef=a:=by simp[Act.put]
    rw[this]
    exact I.congr fun t=>by simp
  | some d=>
    refine⟨L,A,?_,E⟩
    exact (I.put hX.1 (hd d ho) I.ok (.refl _ _ _) (.refl _ _ _) (.inl (.p _ _ rfl (.tup _ [] _ rfl (by simp))))).congr fun t=>by
     by_cases h:t=d
     ·subst h;simp
     ·simp[h,Ne.symm h]
 ·cases h
def trHIs(P:Program)(okD:Nat->Bool)(ops:Array Oper)(bars:Nat->Bool×List Nat):Nat->List Oper->Option (List HI)
 | _,[]=>some []
 | i,o::r=>match trHI P okD ops o (bars i),trHIs P okD ops bars (i+1) r with
   | some x,some xs=>some (x::xs)
   | _,_=>Option.none
theorem stepsH_sound(hX:X.Good)(hC:CallOk P C)(hH:HCallOk P H)(hok:∀d,okD d=true->d<X.n){bars:Nat->Bool×List Nat}:∀(l:List Oper) (i:Nat) (xs:List HI) (s s':HS) (a:Act) (w:World),trHIs P okD ops bars i l=some xs->stepsH C H s xs=some s'->X.St (s.1.get,s.2) a w ->
 (∀a' w',X.St (s'.1.get,s'.2) a' w'->Q .normal a' w')->wpList P ops Q l a w
 | [],i,xs,s,s',a,w,ht,h,S,hQ=>by
   simp only[trHIs,Option.some.injEq] at ht
   subst ht
   simp only[stepsH,Option.some.injEq] at h
   subst h
   exact hQ _ _ S
 | o::l,i,xs,s,s',a,w,ht,h,S,hQ=>by
   simp only[trHIs] at ht
   split at ht
   ·rename_i x ys hx hys
    obtain rfl:=Option.some.inj ht
    simp only[stepsH] at h
    split at h
    ·rename_i s1 h1
     simp only[wpList]
     rcases stepG_sound (Q:=Q) hX hC hH hok S hx (stepH_G h1) with⟨hw,hs⟩|⟨hw,hs⟩
     ·rw[if_pos hw]
      exact .inl (Oper.wp_mono (fun a' w' hh=>stepsH_sound hX hC hH hok l (i+1) ys s1 s' a' w' hys h hh hQ) hs)
     ·rw[if_neg (by rw[hw];simp)]
      exact stepsH_sound hX hC hH hok l (i+1) ys s1 s' _ w hys h hs hQ
    ·cases h
   ·cases ht
end
open Go
def HOp.reads:HOp->Bool
 | .x (.load ..)=>true
 | _=>false
def HI.temps(x:HI):List Nat:=(match x.guard with | some (d,_)=>[d] | Option.none=>[])++x.op.temps
def dstAtH(xs:List HI)(j:Nat):Option Nat:=(xs[j]?).bind (·.dst)
def drawOkH(ops:List Oper)(xs:List HI):Bool:=
 let B:=masksGo ops []
 (List.range ops.length).all fun i=>
   match ops[i]?,xs[i]? with
   | some o,some x=>
     (B.getD i 0==maskE B o)&&o.after.toList.all (fun e=>!Region.binds .any e||decide (e.on<i)) &&
     (List.range i).all (fun j=>match xs[j]? with
       | some y=>
         (match x.dst with | some d=>dstAtH xs j != some d|Option.none=>true) &&
         ((x.temps.all fun t=>y.dst != some t||(B.getD i 0).testBit j)&&(y.temps.all fun t=>x.dst != some t||(B.getD i 0).testBit j)) &&
         (if x.bar then !(y.bar||(y.op.reads && !y.loose.contains i))||(B.getD i 0).testBit j else !(x.op.reads&&y.bar && !x.loose.contains j)||(B.getD i 0).testBit j) &&
         (if x.bar && !y.bar then x.op.temps.all fun t=>!y.temps.contains t || !((List.range ops.length).any fun k=>dstAtH xs k==some t)||(B.getD i 0).testBit j else true) &&
         (if !x.bar&&y.bar then y.op.temps.all fun t=>!x.temps.contains t || !((List.range ops.length).any fun k=>dstAtH xs k==some t)||(B.getD i 0).testBit j else true)
       | Option.none=>false) &&
     (x.bar||x.dst.isSome)
   | _,_=>false
structure HHint where
 keep:List Nat
 bars:List (Bool×List Nat)
 bad:Bool:=false
def HC.no:HC:=.cond (.k .none) .skip .skip []
def trHC(P:Program)(okD:Nat->Bool):Code->List HHint->Option (HC×List HHint)
 | .skip,hs=>some (.skip,hs)
 | .region _ ops draw,h::hs=>
   if h.bad=true then some (.no,hs) else
   match trHIs P okD ops (fun i=>h.bars.getD i (false,[])) 0 ops.toList with
   | some xs=>if (!draw||drawOkH ops.toList xs)=true then some (.reg xs draw h.keep,hs) else Option.none
   | Option.none=>Option.none
 | .seq a b,hs=>(trHC P okD a hs).bind fun r=>(trHC P okD b r.2).map fun q=>(.seq r.1 q.1,q.2)
 | .cond c a b,hs=>(trO c).bind fun c'=>(trHC P okD a hs).bind fun r=>(trHC P okD b r.2).bind fun q=>match q.2 with
   | h::hs'=>some (.cond c' r.1 q.1 h.keep,hs')
   | []=>Option.none
 | .block id b,hs=>(trHC P okD b hs).bind fun r=>match r.2 with
   | h::hs'=>some (.block id r.1 h.keep,hs')
   | []=>Option.none
 | .loop b,hs=>(trHC P okD b hs).bind fun r=>match r.2 with
   | h::hs'=>some (.loop r.1 h.keep,hs')
   | []=>Option.none
 | .exit id,h::hs=>some (.exit id h.keep,hs)
 | .ret,hs=>some (.ret,hs)
 | _,_=>Option.none
section
variable {P:Program} {X:HCtx} {C:Calls'} {H:HCalls} {okD:Nat->Bool}
def DrawOkH(P:Program)(X:HCtx)(C:Calls')(H:HCalls)(okD:Nat->Bool):Prop:=
 ∀(ops:Array Oper) (xs:List HI) (bars:Nat->Bool×List Nat) (s s':HS) (a:Act) (w:World) (Q:Exit->Act->World->Prop),trHIs P okD ops bars 0 ops.toList=some xs->drawOkH ops.toList xs=true->regHD C H s xs=some s'->X.St (s.1.get,s.2) a w ->
  (∀a' w',X.St (s'.1.get,s'.2) a' w'->Q .normal a' w')->wpAny P .any ops Q ops.size (Array.replicate ops.size false) a w
theorem fgtH_some{k:List Nat}{x:Option (Ex×HS)}{ex:Ex}{s':HS}(h:fgtH k x=some (ex,s')):∃s1,x=some (ex,s1)/\(ex = .norm->s'=(s1.1.keep k,s1.2))/\(ex ≠ .norm->s'=s1):=by
 unfold fgtH at h
 split at h
 ·rename_i e
  simp only[Option.some.injEq,Prod.mk.injEq] at h
  obtain⟨rfl,rfl⟩:=h
  exact⟨e,rfl,fun _=>rfl,fun hn=>absurd rfl hn⟩
 ·rename_i hno
  exact⟨s',h,fun hn=>absurd (hn▸h) (hno _),fun _=>rfl⟩
theorem HCtx.St.keepK{s:HS}{a:Act}{w:World}(h:X.St (s.1.get,s.2) a w)(k:List Nat):X.St ((s.1.keep k).get,s.2) a w:=h.forget fun t=>by
 rw[hget_keep]
 by_cases hk:k.contains t=true
 ·exact .inl (by simp only[hk,if_true])
 ·exact .inr (by simp only[hk];rfl)
theorem HCtx.St.fgtK{k:List Nat}{ex:Ex}{s1 s':HS}{a:Act}{w:World}(h:X.St (s1.1.get,s1.2) a w)(h1:ex = .norm->s'=(s1.1.keep k,s1.2))(h2:ex ≠ .norm->s'=s1):X.St (s'.1.get,s'.2) a w:=by
 by_cases hn:ex = .norm
 ·rw[h1 hn];exact h.keepK k
 ·rw[h2 hn];exact h
theorem evHC_sound(hX:X.Good)(hC:CallOk P C)(hH:HCallOk P H)(hm:P.follows .mixedOrders=true)(hok:∀d,okD d=true->d<X.n)(hD:DrawOkH P X C H okD):
 ∀(fuel:Nat) (c:Code) (hs hs':List HHint) (xc:HC) (s s':HS) (ex:Ex) (a:Act) (w:World) (Q:Exit->Act->World->Prop),trHC P okD c hs=some (xc,hs')->evHC C H fuel xc s=some (ex,s')->X.St (s.1.get,s.2) a w ->
  (∀a' w',X.St (s'.1.get,s'.2) a' w'->Q (exOf ex) a' w')->c.wp P Q a w/\∀b,c = .loop b->LoopWp P b Q a w
 | 0,c,hs,hs',xc,e,e',ex,a,w,Q,ht,h,S,hQ=>by simp[evHC] at h
 | fuel+1,c,hs,hs',xc,e,e',ex,a,w,Q,ht,h,S,hQ=>by
   have ih:=evHC_sound hX hC hH hm hok hD fuel
   cases c<;>try simp only[trHC] at ht
   case skip=>
    simp only[Option.some.injEq,Prod.mk.injEq] at ht
    obtain⟨rfl,rfl⟩:=ht
    simp only[evHC,Option.some.injEq,Prod.mk.injEq] at h
    obtain⟨rfl,rfl⟩:=h
    exact⟨wp_skip (hQ _ _ S),fun b hb=>by cases hb⟩
   case region id ops draw=>
    refine⟨?_,fun b hb=>by cases hb⟩
    cases hs with
    | nil=>cases ht
    | cons hh hs=>
      simp only[trHC] at ht
      split at ht
      ·simp only[Option.some.injEq,Prod.mk.injEq] at ht
       obtain⟨rfl,rfl⟩:=ht
       simp[evHC,HC.no,lookHG,fgtH] at h
      split at ht
      ·rename_i xs hxs
       split at ht
       ·rename_i hdr
        simp only[Option.some.injEq,Prod.mk.injEq] at ht
        obtain⟨rfl,rfl⟩:=ht
        simp only[evHC,Option.map_eq_some_iff,Prod.mk.injEq] at h
        obtain⟨e1,h1,rfl,rfl⟩:=h
        have hQ':∀a' w',X.St (e1.1.get,e1.2) a' w'->Q .normal a' w':=fun a' w' S'=>hQ a' w' (S'.keepK hh.keep)
        cases draw with
        | false=>
          simp only[Bool.false_eq_true,if_false] at h1
          exact wp_region_list (stepsH_sound hX hC hH hok ops.toList 0 xs e e1 a w hxs h1 S hQ')
        | true=>
          simp only[if_true] at h1
          simp only[Bool.not_true,Bool.false_or] at hdr
          exact wp_region_any hm (hD ops xs _ e e1 a _ Q hxs hdr h1 (S.drew hX) hQ')
       ·cases ht
      ·cases ht
   case seq x y=>
    refine⟨?_,fun b hb=>by cases hb⟩
    simp only[Option.bind_eq_some_iff,Option.map_eq_some_iff] at ht
    obtain⟨⟨x',h1⟩,hx,⟨y',h2⟩,hy,h3⟩:=ht
    simp only[Prod.mk.injEq] at h3
    obtain⟨rfl,rfl⟩:=h3
    simp only[evHC] at h
    split at h
    ·rename_i e1 he1
     exact wp_seq (ih x _ _ _ _ _ _ a w _ hx he1 S fun a' w' S'=>(ih y _ _ _ _ _ _ a' w' Q hy h S' hQ).1).1
    ·rename_i hno
     refine wp_seq (ih x _ _ _ _ _ _ a w _ hx h S fun a' w' S'=>?_).1
     cases ex with
     | norm=>exact absurd h (hno _)
     | exit id=>exact hQ _ _ S'
     | ret=>exact hQ _ _ S'
   case cond c x y=>
    refine⟨?_,fun b hb=>by cases hb⟩
    simp only[Option.bind_eq_some_iff] at ht
    obtain⟨c',hc,⟨x',h1⟩,hx,⟨y',h2⟩,hy,h3⟩:=ht
    split at h3
    case h_2=>cases h3
    rename_i hh hs2 heq
    simp only at heq;subst heq
    simp only[Option.some.injEq,Prod.mk.injEq] at h3
    obtain⟨rfl,rfl⟩:=h3
    simp only[evHC] at h
    obtain⟨e1,h,hk1,hk2⟩:=fgtH_some h
    have hb:∀b,lookHG e.1.get c' = .p (.bool b)->a.eval c = .bool b:=fun b hb=>by
     obtain⟨L,A,I,_⟩:=S
     exact bool_of (I.look hc) hb
    split at h
    ·rename_i hl;exact wp_cond_true (hb _ hl) (ih x _ _ _ _ _ _ a w Q hx h S fun a' w' S'=>hQ _ _ (S'.fgtK hk1 hk2)).1
    ·rename_i hl;exact wp_cond_false (hb _ hl) (ih y _ _ _ _ _ _ a w Q hy h S fun a' w' S'=>hQ _ _ (S'.fgtK hk1 hk2)).1
    ·cases h
   case block id x=>
    refine⟨?_,fun b hb=>by cases hb⟩
    simp only[Option.bind_eq_some_iff] at ht
    obtain⟨⟨x',h1⟩,hx,h3⟩:=ht
    split at h3
    case h_2=>cases h3
    rename_i hh hs2 heq
    simp only at heq;subst heq
    simp only[Option.some.injEq,Prod.mk.injEq] at h3
    obtain⟨rfl,rfl⟩:=h3
    simp only[evHC] at h
    obtain⟨e2,h,hk1,hk2⟩:=fgtH_some h
    split at h
    ·rename_i id' e1 he1
     refine wp_block (ih x _ _ _ _ _ _ a w _ hx he1 S fun a' w' S'=>?_).1
     split at h
     ·rename_i hid
      simp only[Option.some.injEq,Prod.mk.injEq] at h
      obtain⟨rfl,rfl⟩:=h
      simp only[exOf,Exit.inBlock,hid,if_true]
      exact hQ _ _ (S'.fgtK hk1 hk2)
     ·rename_i hid
      simp only[Option.some.injEq,Prod.mk.injEq] at h
      obtain⟨rfl,rfl⟩:=h
      simp only[exOf,Exit.inBlock,hid,if_false]
      exact hQ _ _ (S'.fgtK hk1 hk2)
    ·rename_i hno
     refine wp_block (ih x _ _ _ _ _ _ a w _ hx h S fun a' w' S'=>?_).1
     cases ex with
     | norm=>exact hQ _ _ (S'.fgtK hk1 hk2)
     | exit id=>exact absurd h (hno _ _)
     | ret=>exact hQ _ _ (S'.fgtK hk1 hk2)
   case loop x=>
    have ht0:=ht
    simp only[Option.bind_eq_some_iff] at ht
    obtain⟨⟨x',h1⟩,hx,h3⟩:=ht
    split at h3
    case h_2=>cases h3
    rename_i hh hs2 heq
    simp only at heq;subst heq
    simp only[Option.some.injEq,Prod.mk.injEq] at h3
    obtain⟨rfl,rfl⟩:=h3
    have key:LoopWp P x Q a w:=by
     simp only[evHC] at h
     split at h
     ·rename_i e1 he1
      obtain⟨e2,he2,hk1,hk2⟩:=fgtH_some he1
      refine LoopWp.round (ih x _ _ _ _ _ _ a w _ hx he2 S fun a' w' S'=>?_).1
      exact (ih (.loop x) hs hs2 (.loop x' hh.keep) _ _ _ a' w' Q ht0 h (S'.fgtK hk1 hk2) hQ).2 x rfl
     ·rename_i hno
      obtain⟨e2,he2,hk1,hk2⟩:=fgtH_some h
      refine LoopWp.round (ih x _ _ _ _ _ _ a w _ hx he2 S fun a' w' S'=>?_).1
      cases ex with
      | norm=>exact absurd h (hno _)
      | exit id=>exact hQ _ _ (S'.fgtK hk1 hk2)
      | ret=>exact hQ _ _ (S'.fgtK hk1 hk2)
    exact⟨key.wp,fun b hb=>by cases hb;exact key⟩
   case exit id=>
    refine⟨?_,fun b hb=>by cases hb⟩
    cases hs with
    | nil=>simp[trHC] at ht
    | cons hh hs=>
      simp only[trHC,Option.some.injEq,Prod.mk.injEq] at ht
      obtain⟨rfl,rfl⟩:=ht
      simp only[evHC,Option.some.injEq,Prod.mk.injEq] at h
      obtain⟨rfl,rfl⟩:=h
      exact wp_exit (hQ _ _ (S.keepK _))
   case ret=>
    simp only[Option.some.injEq,Prod.mk.injEq] at ht
    obtain⟨rfl,rfl⟩:=ht
    simp only[evHC,Option.some.injEq,Prod.mk.injEq] at h
    obtain⟨rfl,rfl⟩:=h
    exact⟨wp_ret (hQ _ _ S),fun b hb=>by cases hb⟩
   all_goals (cases ht)
end
open Go
theorem fillH_congr{L L':XO->HV}:∀(ps:List (Nat×Nat×XO)) (cs:List HV),(∀x∈partsO ps,L x=L' x)->fillH L cs ps=fillH L' cs ps
 | [],cs,_=>rfl
 | (off,sz,x)::r,cs,h=>by
   have h1:=h x (by simp[partsO])
   have h2:∀cs,fillH L cs r=fillH L' cs r:=fun cs=>fillH_congr r cs fun y hy=>h y (by simp[partsO,hy])
   simp only[fillH,h1,h2]
theorem evHX_congr{st:HSt}{L L':XO->HV}{x:XOp}(h:∀y∈x.opds,L y=L' y):evHX L st x=evHX L' st x:=by
 cases x <;> simp only[XOp.opds] at h
 case build z ps=>simp only[evHX,fillH_congr ps _ h]
 case slc sz y lo hi=>
  have h1:=h y (by simp)
  have h2:∀n d,bnd (fun y=>toP (L y)) n lo d=bnd (fun y=>toP (L' y)) n lo d:=fun n d=>bnd_congr fun z hz=>by
   rw[h z (by simp[hz])]
  have h3:∀n d,bnd (fun y=>toP (L y)) n hi d=bnd (fun y=>toP (L' y)) n hi d:=fun n d=>bnd_congr fun z hz=>by rw[h z (by simp[hz])]
  simp only[evHX,h1,h2,h3]
 case mkfn f az=>
  have h1:az.map L=az.map L':=List.map_congr_left h
  simp only[evHX,h1]
 all_goals first
  | (simp only[evHX];done)
  | (have h1:=h _ (by simp);simp only[evHX,h1];done)
  | (simp only[List.mem_cons,List.not_mem_nil,or_false,forall_eq_or_imp,forall_eq] at h;simp only[evHX,h];done)
theorem evHV_congr{st:HSt}{L L':XO->HV}{x:HOp}(h:∀y∈x.opds,L y=L' y):evHV L st x=evHV L' st x:=by
 cases x with
 | x o=>simp only[evHV];exact evHX_congr h
 | bm f cs=>
   have h1:cs.map L=cs.map L':=List.map_congr_left h
   simp only[evHV,h1]
 | copy sz d s=>simp only[evHV]
 | snil neg y=>have h1:=h y (by simp[HOp.opds]);simp only[evHV,h1]
 | slc0 y=>have h1:=h y (by simp[HOp.opds]);simp only[evHV,h1]
theorem evHS_congr{H:HCalls}{st:HSt}{L L':XO->HV}{x:HOp}(h:∀y∈x.opds,L y=L' y):evHS H L st x=evHS H L' st x:=by
 cases x with
 | x o=>
   cases o <;> simp only[HOp.opds,XOp.opds] at h
   case call f az ms=>
    have h1:az.map L=az.map L':=List.map_congr_left h
    simp only[evHS,h1]
   case callv f az=>
    have h1:az.map L=az.map L':=List.map_congr_left fun y hy=>h y (by simp[hy])
    have h2:=h f (by simp)
    simp only[evHS,h1,h2]
   all_goals first
    | (simp only[evHS];done)
    | (have h1:=h _ (by simp);simp only[evHS,h1];done)
    | (simp only[List.mem_cons,List.not_mem_nil,or_false,forall_eq_or_imp,forall_eq] at h;simp only[evHS,h];done)
 | bm f cs=>simp only[evHS]
 | copy sz d s=>
   have h1:=h d (by simp[HOp.opds])
   have h2:=h s (by simp[HOp.opds])
   simp only[evHS,h1,h2]
 | snil neg y=>simp only[evHS]
 | slc0 y=>simp only[evHS]
theorem evHN_congr{L L':XO->HV}{x:XOp}(h:∀y∈x.opds,L y=L' y):evHN L x=evHN L' x:=by
 cases x <;> first | rfl|skip
 case box y=>have h1:=h y (by simp[XOp.opds]);simp only[evHN,h1]
 case bsl sz len z ps=>simp only[evHN,fillH_congr ps _ h]
theorem evHP_congr{C:Calls'}{st:HSt}{L L':XO->HV}{LP LP':XO->PV}{x:HOp}(h:∀y∈x.opds,L y=L' y)(h':∀y∈x.opds,LP y=LP' y):evHP C L LP st x=evHP C L' LP' st x:=by
 cases x with
 | x o=>
   have e1:evP C LP (fun _ _=>.none) o=evP C LP' (fun _ _=>.none) o:=evP_congr h'
   have e2:evHX L st o=evHX L' st o:=evHX_congr h
   have e3:evHN L o=evHN L' o:=evHN_congr h
   simp only[evHP,e1,e2,e3]
 | bm f cs=>simp only[evHP];exact evHV_congr h
 | copy sz d s=>simp only[evHP];exact evHV_congr h
 | snil neg y=>simp only[evHP];exact evHV_congr h
 | slc0 y=>simp only[evHP];exact evHV_congr h
theorem evHP_store{C:Calls'}{st st':HSt}{L:XO->HV}{LP:XO->PV}{x:HOp}(h:readAt st L x=readAt st' L x):evHP C L LP st x=evHP C L LP st' x:=by
 cases x with
 | x o=>
   have e:evHX L st o=evHX L st' o:=by
    cases o <;> first | rfl|exact h
   simp only[evHP,e]
 | _=>rfl
theorem readAt_none{st:HSt}{L:XO->HV}{x:HOp}(h:x.reads=false):readAt st L x=Option.none:=by
 cases x with
 | x o=>cases o <;> first | rfl | (simp[HOp.reads] at h;done)
 | _=>rfl
mutual
theorem eqPV_eq:∀(a b:PV),eqPV a b=true->a=b
 | .none,b,h=>by cases b <;> simp[eqPV] at h;rfl
 | .bool a,b,h=>by cases b <;> simp[eqPV] at h;rw[h]
 | .int k a,b,h=>by cases b <;> simp[eqPV] at h;rw[h.1,h.2]
 | .str a,b,h=>by cases b <;> simp[eqPV] at h;rw[h]
 | .nilp,b,h=>by cases b <;> simp[eqPV] at h;rfl
 | .nils,b,h=>by cases b <;> simp[eqPV] at h;rfl
 | .nilf,b,h=>by cases b <;> simp[eqPV] at h;rfl
 | .ref ..,b,h=>by simp[eqPV] at h
 | .view ..,b,h=>by simp[eqPV] at h
 | .box _,b,h=>by simp[eqPV] at h
 | .own ..,b,h=>by simp[eqPV] at h
 | .sl n cs,b,h=>by cases b <;> simp[eqPV] at h;rw[h.1,eqPVL_eq _ _ h.2]
 | .sp cs,b,h=>by cases b <;> simp[eqPV] at h;rw[eqPVL_eq _ _ h]
 | .agg cs,b,h=>by cases b <;> simp[eqPV] at h;rw[eqPVL_eq _ _ h]
 | .tup cs,b,h=>by cases b <;> simp[eqPV] at h;rw[eqPVL_eq _ _ h]
 | .fn f cs,b,h=>by cases b <;> simp[eqPV] at h;rw[h.1,eqPVL_eq _ _ h.2]
theorem eqPVL_eq:∀(a b:List PV),eqPVL a b=true->a=b
 | [],b,h=>by cases b <;> simp[eqPVL] at h;rfl
 | c::cs,b,h=>by cases b <;> simp[eqPVL] at h;rw[eqPV_eq _ _ h.1,eqPVL_eq _ _ h.2]
end
mutual
theorem eqHV_eq:∀(a b:HV),eqHV a b=true->a=b
 | .p a,b,h=>by cases b <;> simp[eqHV] at h;rw[eqPV_eq _ _ h]
 | .ptr a i,b,h=>by cases b <;> simp[eqHV] at h;rw[h.1,h.2]
 | .row a o n z,b,h=>by cases b <;> simp[eqHV] at h;obtain⟨⟨⟨h1,h2⟩,h3⟩,h4⟩:=h;rw[h1,h2,h3,h4]
 | .mp a,b,h=>by cases b <;> simp[eqHV] at h;rw[h]
 | .nilm,b,h=>by cases b <;> simp[eqHV] at h;rfl
 | .agg cs,b,h=>by cases b <;> simp[eqHV] at h;rw[eqHVL_eq _ _ h]
 | .tup cs,b,h=>by cases b <;> simp[eqHV] at h;rw[eqHVL_eq _ _ h]
 | .fn f cs,b,h=>by cases b <;> simp[eqHV] at h;rw[h.1,eqHVL_eq _ _ h.2]
 | .bm f cs,b,h=>by cases b <;> simp[eqHV] at h;rw[h.1,eqHVL_eq _ _ h.2]
theorem eqHVL_eq:∀(a b:List HV),eqHVL a b=true->a=b
 | [],b,h=>by cases b <;> simp[eqHVL] at h;rfl
 | c::cs,b,h=>by cases b <;> simp[eqHVL] at h;rw[eqHV_eq _ _ h.1,eqHVL_eq _ _ h.2]
end
theorem eqHO_eq{a b:Option HV}(h:eqHO a b=true):a=b:=by
 unfold eqHO at h
 split at h
 ·rw[eqHV_eq _ _ h]
 ·rfl
 ·cases h
theorem looks_of{g g':Nat->HV}{x:HOp}(h:∀t∈x.temps,g t=g' t):(∀y∈x.opds,lookHG g y=lookHG g' y)/\∀y∈x.opds,lookPG g y=lookPG g' y:=by
 have key:∀y∈x.opds,∀n,y = .t n->g n=g' n:=fun y hy n e=>by
  subst e;exact h n (tempsO_mem hy)
 refine⟨fun y hy=>?_,fun y hy=>?_⟩
 ·cases y with
  | t n=>simp only[lookHG,key _ hy n rfl]
  | k v=>rfl
  | f n=>rfl
 ·exact lookG_congr fun n hn=>by rw[key y hy n hn]
theorem wantsG_congr{g g':Nat->HV}{q:Option (Nat×Bool)}(h:∀d b,q=some (d,b)->g d=g' d):wantsG (fun t=>toP (g t)) q=wantsG (fun t=>toP (g' t)) q:=by
 cases q with
 | none=>rfl
 | some q=>obtain⟨d,b⟩:=q;simp only[wantsG,h d b rfl]
theorem HI.temps_guard{x:HI}{d:Nat}{b:Bool}(h:x.guard=some (d,b)):d∈x.temps:=by simp[HI.temps,h]
theorem HI.temps_op{x:HI}{t:Nat}(h:t∈x.op.temps):t∈x.temps:=by simp[HI.temps,h]
theorem stepG_congr{C:Calls'}{H:HCalls}{g g' h:Nat->HV}{st st':HSt}{x:HI}(hg:∀t∈x.temps,g t=g' t)(hs:stepG C H (g,st) x=some (h,st')):
 ∃h',stepG C H (g',st) x=some (h',st')/\(∀t,(x.dst=some t\/t∈x.op.temps)->h' t=h t)/\∀t,x.dst≠some t->t∉x.op.temps->h' t=g' t:=by
 unfold stepG at hs ⊢
 have hw:wantsG (fun t=>toP (g t)) x.guard=wantsG (fun t=>toP (g' t)) x.guard:=wantsG_congr fun d b e=>hg d (HI.temps_guard e)
 simp only[←hw]
 split at hs
 ·rename_i hw1
  simp only[Option.map_eq_some_iff] at hs
  obtain⟨⟨v,st1⟩,hv,he⟩:=hs
  simp only[Prod.mk.injEq] at he
  obtain⟨rfl,rfl⟩:=he
  obtain⟨e1,e2,e3⟩:=hlandG_congr (T:=fun t=>t∈x.op.temps) x.op.temps (g:=g) (g':=g') (st:=st) (fun t ht=>ht) fun t ht=>hg t (HI.temps_op ht)
  obtain⟨_,_,e4⟩:=hlandG_congr (T:=fun t=>t∈x.op.temps) x.op.temps (g:=g') (g':=g') (st:=st) (fun t ht=>ht) fun t ht=>rfl
  have hv':stepGL C H (hlandG (g',st) x.op.temps) x=some (v,st1):=by
   unfold stepGL at hv ⊢
   obtain⟨l1,l2⟩:=looks_of (g:=(hlandG (g,st) x.op.temps).1) (g':=(hlandG (g',st) x.op.temps).1) (x:=x.op) e2
   rw[←e1,←evHP_congr l1 l2,←evHS_congr l1]
   exact hv
  refine⟨fun t=>if x.dst=some t then v else (hlandG (g',st) x.op.temps).1 t,by simp only[show wantsG (fun t=>toP (g t)) x.guard=some true from hw1,hv',Option.map_some],fun t ht=>?_,fun t h1 h2=>?_⟩
  ·by_cases hd:x.dst=some t
   ·simp only[hd,if_true]
   ·simp only[hd,if_false]
    rcases ht with ht|ht
    ·exact absurd ht hd
    ·exact (e2 t ht).symm
  ·simp only[h1,if_false];exact e4 t h2
 ·rename_i hw1
  simp only[Option.some.injEq,Prod.mk.injEq] at hs
  obtain⟨rfl,rfl⟩:=hs
  refine⟨fun t=>if x.dst=some t then .p (.tup []) else g' t,by simp only[show wantsG (fun t=>toP (g t)) x.guard=some false from hw1],fun t ht=>?_,fun t h1 h2=>by simp only[h1,if_false]⟩
  by_cases hd:x.dst=some t
  ·simp only[hd,if_true]
  ·simp only[hd,if_false]
   rcases ht with ht|ht
   ·exact absurd ht hd
   ·exact (hg t (HI.temps_op ht)).symm
 ·cases hs
theorem traceHD_spec{C:Calls'}{H:HCalls}:∀{xs:List HI} {s:HS} {tr:List HS},traceHD C H s xs=some tr ->
 ∃(E:Nat->HS) (V:Nat->HV),E 0=s/\tr.length=xs.length+1/\(∀k,k<=xs.length->tr[k]? = some (E k))/\lastO tr=some (E xs.length)/\∀k x,xs[k]? = some x->(x.bar=true->stepH C H (E k) x=some (E (k+1))) /\
  (x.bar=false->∃d,x.dst=some d/\stepHD C (E k).2 (E k).1 x=some (d,V k)/\E (k+1)=((E k).1.set d (V k),(E k).2))
 | [],s,tr,h=>by
   simp only[traceHD,Option.some.injEq] at h
   subst h
   refine⟨fun _=>s,fun _=>.p .none,rfl,rfl,fun k hk=>?_,rfl,fun k x hx=>by simp at hx⟩
   simp only[List.length_nil,Nat.le_zero_eq] at hk
   subst hk;rfl
 | y::r,s,tr,h=>by
   have lastCons:∀(t:List HS) (z:HS),lastO t=some z->lastO (s::t)=some z:=fun t z hz=>by
    cases t with
    | nil=>cases hz
    | cons a b=>exact hz
   simp only[traceHD] at h
   split at h
   ·rename_i hb
    split at h
    ·rename_i s1 h1
     simp only[Option.map_eq_some_iff] at h
     obtain⟨t,ht,rfl⟩:=h
     obtain⟨E,V,h0,hl,hat,hn,hs⟩:=traceHD_spec ht
     refine⟨fun k=>match k with | 0=>s|k+1=>E k,fun k=>match k with | 0=>.p .none | k+1=>V k,rfl,by simp[hl],fun k hk=>?_,lastCons _ _ hn,fun k x hx=>?_⟩
     ·cases k with
      | zero=>rfl
      | succ k=>simpa using hat k (by simpa using hk)
     ·cases k with
      | zero=>
        simp only[List.getElem?_cons_zero,Option.some.injEq] at hx
        subst hx
        exact⟨fun _=>by rw[h1];simp only[h0],fun h=>by rw[hb] at h;cases h⟩
      | succ k=>exact hs k x (by simpa using hx)
    ·cases h
   ·rename_i hb
    split at h
    ·rename_i d v h1
     simp only[Option.map_eq_some_iff] at h
     obtain⟨t,ht,rfl⟩:=h
     obtain⟨E,V,h0,hl,hat,hn,hs⟩:=traceHD_spec ht
     refine⟨fun k=>match k with | 0=>s|k+1=>E k,fun k=>match k with | 0=>v|k+1=>V k,rfl,by simp[hl],fun k hk=>?_,lastCons _ _ hn,fun k x hx=>?_⟩
     ·cases k with
      | zero=>rfl
      | succ k=>simpa using hat k (by simpa using hk)
     ·cases k with
      | zero=>
        simp only[List.getElem?_cons_zero,Option.some.injEq] at hx
        subst hx
        refine⟨fun h=>absurd h hb,fun _=>⟨d,?_,h1,h0⟩⟩
        unfold stepHD at h1
        cases hd:y.dst with
        | none=>rw[hd] at h1;cases h1
        | some d'=>
          rw[hd] at h1
          simp only at h1
          split at h1
          ·simp only[Option.map_eq_some_iff,Prod.mk.injEq] at h1;obtain⟨_,_,h1,_⟩:=h1;rw[h1]
          ·simp only[Option.some.injEq,Prod.mk.injEq] at h1;rw[h1.1]
          ·cases h1
      | succ k=>exact hs k x (by simpa using hx)
    ·cases h
theorem stableAll_at{tr:List HS}:∀{ss:List HS} {os:List HI},stableAll tr ss os=true->∀(k:Nat) (s:HS) (o:HI),ss[k]? = some s->os[k]? = some o->stableOp tr s o=true
 | [],os,h,k,s,o,hs,ho=>by simp at hs
 | s0::ss,[],h,k,s,o,hs,ho=>by simp at ho
 | s0::ss,o0::os,h,k,s,o,hs,ho=>by
   simp only[stableAll,Bool.and_eq_true] at h
   cases k with
   | zero=>
     simp only[List.getElem?_cons_zero,Option.some.injEq] at hs ho
     subst hs;subst ho;exact h.1
   | succ k=>exact stableAll_at h.2 k s o (by simpa using hs) (by simpa using ho)
structure DrawFactsH (ops:List Oper) (xs:List HI) (B:List Nat):Prop where
 mask:∀i o,ops[i]? = some o->B.getD i 0=maskE B o
 low:∀i o,ops[i]? = some o->∀e∈o.after.toList,Region.binds .any e=true->e.on<i
 dst:∀(i:Nat) (x:HI),xs[i]? = some x->x.bar=true\/∃d,x.dst=some d
 uniq:∀i j d,j<i->i<ops.length->dstAtH xs i=some d->dstAtH xs j≠some d
 see:∀(i j:Nat) (x y:HI) (t:Nat),j<i->xs[i]? = some x->xs[j]? = some y->t∈x.temps->y.dst=some t->(B.getD i 0).testBit j=true
 seen:∀(i j:Nat) (x y:HI) (t:Nat),j<i->xs[i]? = some x->xs[j]? = some y->t∈y.temps->x.dst=some t->(B.getD i 0).testBit j=true
 row:∀(i j:Nat) (x y:HI),j<i->xs[i]? = some x->xs[j]? = some y->x.bar=true->(y.bar=true\/(y.op.reads=true/\i∉y.loose))->(B.getD i 0).testBit j=true
 rd:∀(i j:Nat) (x y:HI),j<i->xs[i]? = some x->xs[j]? = some y->x.bar=false->x.op.reads=true->y.bar=true->j∉x.loose->(B.getD i 0).testBit j=true
 both:∀(i j:Nat) (x y:HI) (t k:Nat),j<i->xs[i]? = some x->xs[j]? = some y->x.bar=true->y.bar=false->t∈x.op.temps->t∈y.temps->k<ops.length->dstAtH xs k=some t->(B.getD i 0).testBit j=true
 both':∀(i j:Nat) (x y:HI) (t k:Nat),j<i->xs[i]? = some x->xs[j]? = some y->x.bar=false->y.bar=true->t∈x.temps->t∈y.op.temps->k<ops.length->dstAtH xs k=some t->(B.getD i 0).testBit j=true
theorem drawOkH_facts{ops:List Oper}{xs:List HI}(h:drawOkH ops xs=true)(hlen:xs.length=ops.length):DrawFactsH ops xs (masksGo ops []):=by
 simp only[drawOkH,List.all_eq_true,List.mem_range] at h
 have at_:∀i,i<ops.length->∃o x,ops[i]? = some o/\xs[i]? = some x:=fun i hi=>⟨ops[i],xs[i],by simp[hi],by simp[show i<xs.length by omega]⟩
 have lt:∀{i x},xs[i]? = some x->i<ops.length:=fun {i x} hx=>by have:=(List.getElem?_eq_some_iff.1 hx).1;omega
 have key:∀i o x,ops[i]? = some o->xs[i]? = some x->((masksGo ops []).getD i 0=maskE (masksGo ops []) o)/\(∀e∈o.after.toList,Region.binds .any e=true->e.on<i)/\(x.bar=true\/x.dst.isSome=true) /\
  ∀j y,j<i->xs[j]? = some y->((∀d,x.dst=some d->dstAtH xs j≠some d)/\(∀t∈x.temps,y.dst=some t->((masksGo ops []).getD i 0).testBit j=true)/\(∀t∈y.temps,x.dst=some t->((masksGo ops []).getD i 0).testBit j=true) /\
   (x.bar=true->(y.bar=true\/(y.op.reads=true/\i∉y.loose))->((masksGo ops []).getD i 0).testBit j=true)/\(x.bar=false->x.op.reads=true->y.bar=true->j∉x.loose->((masksGo ops []).getD i 0).testBit j=true) /\
   (x.bar=true->y.bar=false->∀t∈x.op.temps,t∈y.temps->∀k,k<ops.length->dstAtH xs k=some t->((masksGo ops []).getD i 0).testBit j=true) /\
   (x.bar=false->y.bar=true->∀t∈x.temps,t∈y.op.temps->∀k,k<ops.length->dstAtH xs k=some t->((masksGo ops []).getD i 0).testBit j=true)):=by
  intro i o x ho hx
  have:=h i (lt hx)
  rw[ho,hx] at this
  simp only[Bool.and_eq_true,beq_iff_eq,List.all_eq_true,Bool.or_eq_true,Bool.not_eq_true',decide_eq_true_eq,List.mem_range] at this
  obtain⟨⟨⟨h1,h2⟩,h3⟩,h4⟩:=this
  refine⟨h1,fun e he hb=>?_,h4,fun j y hj hy=>?_⟩
  ·rcases h2 e he with h|h
   ·rw[hb] at h;cases h
   ·exact h
  ·have:=h3 j hj
   rw[hy] at this
   simp only[Bool.and_eq_true] at this
   obtain⟨⟨⟨⟨h5,h6,h7⟩,h8⟩,h9⟩,h10⟩:=this
   refine⟨fun d hd=>?_,fun t ht hd=>?_,fun t ht hd=>?_,fun hb hy'=>?_,fun hb hr hy' hl=>?_,fun hb hy' t ht ht' k hk hkd=>?_,fun hb hy' t ht ht' k hk hkd=>?_⟩
   ·rw[hd] at h5;simpa using h5
   ·simp only[List.all_eq_true,Bool.or_eq_true,bne_iff_ne,ne_eq] at h6
    rcases h6 t ht with h|h
    ·exact absurd hd h
    ·exact h
   ·simp only[List.all_eq_true,Bool.or_eq_true,bne_iff_ne,ne_eq] at h7
    rcases h7 t ht with h|h
    ·exact absurd hd h
    ·exact h
   ·rw[hb] at h8
    simp only[if_true,Bool.or_eq_true,Bool.not_eq_true',Bool.or_eq_false_iff,Bool.and_eq_false_iff,List.contains_eq_mem,Bool.not_eq_false',decide_eq_true_eq] at h8
    rcases h8 with h|h
    ·rcases hy' with h'|⟨h',h''⟩
     ·rw[h.1] at h';cases h'
     ·rcases h.2 with h3|h3
      ·rw[h3] at h';cases h'
      ·exact absurd h3 h''
    ·exact h
   ·rw[hb] at h8
    simp only[Bool.false_eq_true,if_false,Bool.or_eq_true,Bool.not_eq_true',Bool.and_eq_false_iff,List.contains_eq_mem,Bool.not_eq_false',decide_eq_true_eq] at h8
    rcases h8 with ((h|h) | h) | h
    ·rw[h] at hr;cases hr
    ·rw[h] at hy';cases hy'
    ·exact absurd h hl
    ·exact h
   ·rw[hb,hy'] at h9
    rw[if_pos (by simp)] at h9
    simp only[List.all_eq_true,Bool.or_eq_true,Bool.not_eq_true',List.contains_eq_mem,decide_eq_false_iff_not,List.any_eq_false,List.mem_range,beq_iff_eq] at h9
    rcases h9 t ht with (h|h) | h
    ·exact absurd ht' h
    ·exact absurd hkd (h k hk)
    ·exact h
   ·rw[hb,hy'] at h10
    rw[if_pos (by simp)] at h10
    simp only[List.all_eq_true,Bool.or_eq_true,Bool.not_eq_true',List.contains_eq_mem,decide_eq_false_iff_not,List.any_eq_false,List.mem_range,beq_iff_eq] at h10
    rcases h10 t ht' with (h|h) | h
    ·exact absurd ht h
    ·exact absurd hkd (h k hk)
    ·exact h
 refine⟨fun i o ho=>?_,fun i o ho=>?_,fun i x hx=>?_,fun i j d hj hi hd=>?_,fun i j x y t hj hx hy=>?_,fun i j x y t hj hx hy=>?_,fun i j x y hj hx hy=>?_,fun i j x y hj hx hy=>?_,fun i j x y t k hj hx hy hb hb' ht ht' hk hkd=>?_,fun i j x y t k hj hx hy hb hb' ht ht' hk hkd=>?_⟩
 ·obtain⟨_,x,_,hx⟩:=at_ i (List.getElem?_eq_some_iff.1 ho).1
  exact (key i o x ho hx).1
 ·obtain⟨_,x,_,hx⟩:=at_ i (List.getElem?_eq_some_iff.1 ho).1
  exact (key i o x ho hx).2.1
 ·obtain⟨o,_,ho,_⟩:=at_ i (lt hx)
  rcases (key i o x ho hx).2.2.1 with h|h
  ·exact .inl h
  ·exact .inr (Option.isSome_iff_exists.1 h)
 ·obtain⟨o,x,ho,hx⟩:=at_ i hi
  obtain⟨_,y,_,hy⟩:=at_ j (by omega)
  simp only[dstAtH,hx,Option.bind_some] at hd
  exact ((key i o x ho hx).2.2.2 j y hj hy).1 d hd
 ·obtain⟨o,_,ho,_⟩:=at_ i (lt hx)
  exact fun ht=>((key i o x ho hx).2.2.2 j y hj hy).2.1 t ht
 ·obtain⟨o,_,ho,_⟩:=at_ i (lt hx)
  exact fun ht=>((key i o x ho hx).2.2.2 j y hj hy).2.2.1 t ht
 ·obtain⟨o,_,ho,_⟩:=at_ i (lt hx)
  exact ((key i o x ho hx).2.2.2 j y hj hy).2.2.2.1
 ·obtain⟨o,_,ho,_⟩:=at_ i (lt hx)
  exact ((key i o x ho hx).2.2.2 j y hj hy).2.2.2.2.1
 ·obtain⟨o,_,ho,_⟩:=at_ i (lt hx)
  exact ((key i o x ho hx).2.2.2 j y hj hy).2.2.2.2.2.1 hb hb' t ht ht' k hk hkd
 ·obtain⟨o,_,ho,_⟩:=at_ i (lt hx)
  exact ((key i o x ho hx).2.2.2 j y hj hy).2.2.2.2.2.2 hb hb' t ht ht' k hk hkd
theorem DrawFactsH.reach{ops:List Oper}{xs:List HI}{B:List Nat}(F:DrawFactsH ops xs B){lst:Nat->Prop}
 (hcl:∀i o,lst i->ops[i]? = some o->∀e∈o.after.toList,Region.binds .any e=true->lst e.on):
 ∀(k i:Nat) (o:Oper),i<k->ops[i]? = some o->(∀e∈o.after.toList,Region.binds .any e=true->lst e.on)->∀j,(B.getD i 0).testBit j=true->lst j
 | 0,i,o,hi,_,_,j,_=>by omega
 | k+1,i,o,hi,ho,he,j,hj=>by
   rw[F.mask i o ho] at hj
   obtain⟨e,hm,hb,h⟩:=maskE_bit hj
   rcases h with rfl|h
   ·exact he e hm hb
   ·have hlow:=F.low i o ho e hm hb
    obtain⟨hi',_⟩:=List.getElem?_eq_some_iff.1 ho
    have ho':ops[e.on]? = some (ops[e.on]'(by omega)):=by simp[show e.on<ops.length by omega]
    exact F.reach hcl k e.on _ (by omega) ho' (hcl e.on _ (he e hm hb) ho') j h
theorem trHIs_get{P:Program}{okD:Nat->Bool}{ops:Array Oper}{bars:Nat->Bool×List Nat}:∀{l:List Oper} {i:Nat} {xs:List HI},trHIs P okD ops bars i l=some xs->xs.length=l.length/\∀k (hk:k<l.length) (hk':k<xs.length),trHI P okD ops l[k] (bars (i+k))=some xs[k]
 | [],i,xs,h=>by simp[trHIs] at h;subst h;exact⟨rfl,fun k hk=>by simp at hk⟩
 | o::l,i,xs,h=>by
   simp only[trHIs] at h
   split at h
   ·rename_i x ys hx hys
    obtain rfl:=Option.some.inj h
    obtain⟨h1,h2⟩:=trHIs_get hys
    refine⟨by simp[h1],fun k hk hk'=>?_⟩
    cases k with
    | zero=>simpa using hx
    | succ k=>
      have:=h2 k (by simpa using hk) (by simpa using hk')
      rw[show i+1+k=i+(k+1) by omega] at this
      simpa using this
   ·cases h
open Go
open Classical in
noncomputable def GH(n:Nat)(D:Nat->Option Nat)(V:Nat->HV)(gc g0:Nat->HV)(c:Nat)(lst:Nat->Bool)(t:Nat):HV:=
 if h:∃k,k<n/\D k=some t then (if lst (Classical.choose h)=true then (if Classical.choose h<c then gc t else V (Classical.choose h)) else g0 t) else gc t
section
variable {n:Nat} {D:Nat->Option Nat} {V:Nat->HV} {gc g0:Nat->HV} {c:Nat} {lst:Nat->Bool}
theorem GH_at(uniq:∀k j t,k<n->j<n->D k=some t->D j=some t->k=j){k t:Nat}(hk:k<n)(hD:D k=some t):GH n D V gc g0 c lst t = if lst k=true then (if k<c then gc t else V k) else g0 t:=by
 have h:∃k,k<n/\D k=some t:=⟨k,hk,hD⟩
 have e:Classical.choose h=k:=uniq _ _ t (Classical.choose_spec h).1 hk (Classical.choose_spec h).2 hD
 simp only[GH,h,dif_pos,e]
theorem GH_not{t:Nat}(h:¬∃k,k<n/\D k=some t):GH n D V gc g0 c lst t=gc t:=by
 simp only[GH,h,dif_neg,not_false_iff]
end
section
variable {P:Program} {X:HCtx} {C:Calls'} {H:HCalls} {okD:Nat->Bool}
theorem stepHD_sound{ops:Array Oper}{o:Oper}{x:HI}{g:Nat->HV}{E:HEnv}{st st':HSt}{d:Nat}{v:HV}{a:Act}{w:World}{Q:Exit->Act->World->Prop}{bar:Bool×List Nat}
 (hX:X.Good)(hC:CallOk P C)(hok:∀d,okD d=true->d<X.n)(S:X.St (g,st) a w)(ht:trHI P okD ops o bar=some x)(hag:∀t∈x.temps,g t=E.get t)(hst:readAt st (lookHG E.get) x.op=readAt st' (lookHG E.get) x.op)(h:stepHD C st' E x=some (d,v)):
 x.dst=some d/\((Region.wanted o (yielded ops a.tmps)=true/\o.wp P a w (fun a' w'=>X.St (fun t=>if t=d then v else g t,st) a' w') Q) \/
  (Region.wanted o (yielded ops a.tmps)=false/\X.St (fun t=>if t=d then v else g t,st) (a.put o.dst undef) w)):=by
 obtain⟨h1,h2,h3,h4,h5,h6⟩:=trHI_some ht
 have hwants:wantsG (fun t=>toP (g t)) x.guard=wantsG (fun t=>toP (E.get t)) x.guard:=wantsG_congr fun d b e=>hag d (HI.temps_guard e)
 obtain⟨L,A,I,E0⟩:=S
 unfold stepHD at h
 split at h
 ·rename_i d' hxd
  have hodst:o.dst=some d':=by rw[←h3];exact hxd
  have hdn:d'<X.n:=hok d' (h5 d' hodst)
  split at h
  ·rename_i hw
   rw[←hwants] at hw
   have hwant:=wants_sound (o:=o) (ops:=ops) I.inv h2 hw
   simp only[Option.map_eq_some_iff,Prod.mk.injEq] at h
   obtain⟨v',hv,rfl,rfl⟩:=h
   obtain⟨l1,l2⟩:=looks_of (g:=g) (g':=E.get) (x:=x.op) fun t ht=>hag t (HI.temps_op ht)
   have hv':evHP C (lookHG g) (lookPG g) st x.op=some v':=by
    rw[evHP_congr l1 l2,evHP_store hst]
    exact hv
   exact⟨hxd,.inl ⟨hwant,St_step (s':=(fun t=>if t=d' then v' else g t,st)) hX hX.2 E0 (evHP_step (Q:=Q) hC I hX.1 h1 hodst hdn hv')⟩⟩
  ·rename_i hw
   rw[←hwants] at hw
   have hwant:=wants_sound (o:=o) (ops:=ops) I.inv h2 hw
   simp only[Option.some.injEq,Prod.mk.injEq] at h
   obtain⟨rfl,rfl⟩:=h
   refine⟨hxd,.inr ⟨hwant,L,A,?_,E0⟩⟩
   rw[hodst]
   exact I.put hX.1 hdn I.ok (.refl _ _ _) (.refl _ _ _) (.inl (.p _ _ rfl (.tup _ [] _ rfl (by simp))))
  ·cases h
 ·cases h
theorem all_fresh:∀(e:HEnv),e.all (fun x=>!isFresh x.2)=true->∀t,isFresh (e.get t)=false
 | [],_,t=>rfl
 | (k,v)::r,h,t=>by
   simp only[List.all_cons,Bool.and_eq_true,Bool.not_eq_true'] at h
   simp only[HEnv.get]
   split
   ·exact h.1
   ·exact all_fresh r h.2 t
theorem draw_okH(hX:X.Good)(hC:CallOk P C)(hH:HCallOk P H)(hok:∀d,okD d=true->d<X.n):DrawOkH P X C H okD:=by
 intro ops xs bars s s' a0 w0 Q ht hdr h St0 hQ
 obtain⟨hlen,hget⟩:=trHIs_get ht
 have F:=drawOkH_facts hdr hlen
 generalize hB:masksGo ops.toList []=B at F
 have hsz:ops.toList.length=ops.size:=by simp
 have hxl:xs.length=ops.size:=by rw[hlen];simp
 have hoat:∀i,i<ops.size->∃o,ops[i]? = some o/\ops.toList[i]? = some o:=fun i hi=>⟨ops[i],by simp[hi],by simp[hi]⟩
 have hxat:∀i,i<ops.size->∃x,xs[i]? = some x:=fun i hi=>⟨xs[i]'(by omega),by simp[show i<xs.length by omega]⟩
 have htr:∀i o x,ops[i]? = some o->xs[i]? = some x->trHI P okD ops o (bars i)=some x:=fun i o x ho hx=>by
  obtain⟨hi,rfl⟩:=List.getElem?_eq_some_iff.1 hx
  have hi2:i<ops.size:=by omega
  have:=hget i (by simpa using hi2) hi
  simp only[Nat.zero_add,Array.getElem_toList] at this
  simp only[hi2,getElem?_pos,Option.some.injEq] at ho
  rw[←ho];exact this
 unfold regHD at h
 split at h
 case isFalse=>cases h
 rename_i hfr
 have hfr:=all_fresh _ hfr
 split at h
 case h_2=>cases h
 rename_i tr htr0
 split at h
 case isFalse=>cases h
 rename_i hstab
 obtain⟨E,V,hE0,htl,hEat,hElast,hE⟩:=traceHD_spec htr0
 have hEn:E xs.length=s':=by rw[hElast] at h;exact Option.some.inj h
 have St1:X.St ((E 0).1.get,(E 0).2) a0 w0:=by
  obtain⟨h1,h2⟩:=hland_G (s.1.map (·.1)) s
  rw[hE0,h1,h2]
  exact HCtx.St.land hX _ St0
 rw[←hE0] at hfr
 rw[hxl] at hEn
 let isB:Nat->Bool:=fun i=>match xs[i]? with | some x=>x.bar|Option.none=>false
 have isBat:∀{i:Nat} {x:HI},xs[i]? = some x->isB i=x.bar:=fun {i x} hx=>by simp only[isB,hx]
 let D:Nat->Option Nat:=dstAtH xs
 have Dat:∀{i:Nat} {x:HI},xs[i]? = some x->D i=x.dst:=fun {i x} hx=>by simp only[D,dstAtH,hx,Option.bind_some]
 have uniq:∀k j t,k<ops.size->j<ops.size->D k=some t->D j=some t->k=j:=by
  intro k j t hk hj h1 h2
  rcases Nat.lt_trichotomy k j with hlt|heq|hlt
  ·exact absurd h1 (F.uniq j k t hlt (by simpa using hj) h2)
  ·exact heq
  ·exact absurd h2 (F.uniq k j t hlt (by simpa using hk) h1)
 have one:∀(k t:Nat),k<ops.size->D k≠some t->(∀(x:HI),xs[k]? = some x->x.bar=true->t∈x.op.temps->isFresh ((E k).1.get t)=false)->(E (k+1)).1.get t=(E k).1.get t:=by
  intro k t hk hd hu
  obtain⟨x,hx⟩:=hxat k hk
  have hd':x.dst≠some t:=by rw[←Dat hx];exact hd
  obtain⟨h1,h2⟩:=hE k x hx
  cases hb:x.bar with
  | true=>
    have h3:=stepH_G (h1 hb)
    unfold stepG at h3
    split at h3
    ·simp only[Option.map_eq_some_iff,Prod.mk.injEq] at h3
     obtain⟨r,_,h4,_⟩:=h3
     rw[←h4]
     simp only[hd',if_false]
     by_cases htt:t∈x.op.temps
     ·exact hlandG_keep _ (hu x hx hb htt)
     ·exact (hlandG_congr (T:=fun _=>True) x.op.temps (g:=(E k).1.get) (g':=(E k).1.get) (st:=(E k).2) (fun _ _=>trivial) fun _ _=>rfl).2.2 t htt
    ·simp only[Option.some.injEq,Prod.mk.injEq] at h3
     rw[←h3.1]
     simp only[hd',if_false]
    ·cases h3
  | false=>
    obtain⟨d,h3,_,h4⟩:=h2 hb
    rw[h4,hget_set]
    rw[h3] at hd'
    rw[if_neg fun e=>hd' (by rw[e])]
 have stay:∀(m k t:Nat),k+m<=ops.size->(∀q,k<=q->q<k+m->D q≠some t/\∀(x:HI),xs[q]? = some x->x.bar=true->t∉x.op.temps)->(E (k+m)).1.get t=(E k).1.get t:=by
  intro m
  induction m with
  | zero=>intro k t _ _;rfl
  | succ m ih=>
    intro k t hk hq
    rw[←Nat.add_assoc,one (k+m) t (by omega) (hq (k+m) (by omega) (by omega)).1 fun x hx hb htt=>absurd htt ((hq (k+m) (by omega) (by omega)).2 x hx hb)]
    exact ih k t (by omega) fun q h1 h2=>hq q h1 (by omega)
 have stay':∀(k k' t:Nat),k<=k'->k'<=ops.size->(∀q,k<=q->q<k'->D q≠some t/\∀(x:HI),xs[q]? = some x->x.bar=true->t∉x.op.temps)->(E k').1.get t=(E k).1.get t:=fun k k' t h1 h2 hq=>by
  have:=stay (k'-k) k t (by omega) fun q h3 h4=>hq q h3 (by omega)
  rwa [show k+(k'-k)=k' by omega] at this
 have early:∀(k t:Nat),k<=ops.size->(∀q,q<k->D q≠some t)->(E k).1.get t=(E 0).1.get t:=by
  intro k
  induction k with
  | zero=>intro t _ _;rfl
  | succ k ih=>
    intro t hk hq
    have h1:=ih t (by omega) fun q hq'=>hq q (by omega)
    rw[one k t (by omega) (hq k (by omega)) fun x _ _ _=>by rw[h1];exact hfr t,h1]
 have notMade:∀(k t:Nat),k<=ops.size->(¬∃q,q<ops.size/\D q=some t)->(E k).1.get t=(E 0).1.get t:=fun k t hk hn=>early k t hk fun q hq h=>hn ⟨q,by omega,h⟩
 have blk1:∀k,k<ops.size->isB k=false->(E (k+1)).2=(E k).2:=fun k hk hb=>by
  obtain⟨x,hx⟩:=hxat k hk
  rw[isBat hx] at hb
  obtain⟨d,_,_,h4⟩:=(hE k x hx).2 hb
  rw[h4]
 have blkS:∀m k,k+m<=ops.size->(∀q,k<=q->q<k+m->isB q=false)->(E (k+m)).2=(E k).2:=by
  intro m
  induction m with
  | zero=>intro k _ _;rfl
  | succ m ih=>
    intro k hk hq
    rw[←Nat.add_assoc,blk1 (k+m) (by omega) (hq _ (by omega) (by omega))]
    exact ih k (by omega) fun q h1 h2=>hq q h1 (by omega)
 have blkSame:∀k k',k<=k'->k'<=ops.size->(∀q,k<=q->q<k'->isB q=false)->(E k').2=(E k).2:=fun k k' h1 h2 hq=>by
  have:=blkS (k'-k) k (by omega) fun q h3 h4=>hq q h3 (by omega)
  rwa [show k+(k'-k)=k' by omega] at this
 have made:∀(j t:Nat),j<ops.size->D j=some t->isB j=false->(E (j+1)).1.get t=V j:=fun j t hj hd hb=>by
  obtain⟨x,hx⟩:=hxat j hj
  rw[isBat hx] at hb
  obtain⟨d,h3,_,h4⟩:=(hE j x hx).2 hb
  rw[Dat hx,h3] at hd
  rw[h4,hget_set,if_pos (Option.some.inj hd).symm]
 let G:=fun c lst=>GH ops.size D V (E c).1.get (E 0).1.get c lst
 let cnt:=fun (listed:Array Bool)=>(List.range ops.size).countP fun i=>!listed.getD i false
 have cnt_set:∀(listed:Array Bool) (i:Nat),listed.size=ops.size->i<ops.size->listed.getD i false=false->cnt (listed.setIfInBounds i true)<cnt listed:=fun listed i hs hi hl=>by
  refine cnt_lt _ (fun k hk=>?_) (List.mem_range.2 hi) (by simp[hl]) (by rw[getD_set (by omega)];simp)
  rw[getD_set (by omega)] at hk
  split at hk
  ·simp at hk
  ·exact hk
 have cnt_zero:∀(listed:Array Bool),cnt listed=0->∀i,i<ops.size->listed.getD i false=true:=fun listed h0 i hi=>by
  have:=List.countP_eq_zero.1 h0 i (List.mem_range.2 hi)
  simpa using this
 have fin:∀(listed:Array Bool) (c:Nat) (a:Act) (w:World),(∀i,i<ops.size->listed.getD i false=true)->c<=ops.size->(∀k,k<ops.size->isB k=true->(listed.getD k false=true↔k<c))->X.St (G c (fun j=>listed.getD j false),(E c).2) a w->Q .normal a w:=by
  intro listed c a w hall hc hcb S
  have nb:∀q,c<=q->q<ops.size->isB q=false:=fun q h1 h2=>by
   cases hb:isB q
   ·rfl
   ·have:=(hcb q h2 hb).1 (hall q h2);omega
  rw[←hEn] at hQ
  refine hQ a w ?_
  rw[blkSame c ops.size hc (Nat.le_refl _) nb]
  refine S.congr fun t=>?_
  have useFree:∀(k:Nat),c<=k->∀(q:Nat),k<=q->q<ops.size->∀(x:HI),xs[q]? = some x->x.bar=true->t∉x.op.temps:=fun k hk q h1 h2 x hx hb=>by
   have:=nb q (by omega) h2
   rw[isBat hx,hb] at this;cases this
  by_cases hx:∃k,k<ops.size/\D k=some t
  ·obtain⟨j,hj,hd⟩:=hx
   rw[show G c (fun j=>listed.getD j false) t=_ from GH_at uniq hj hd,if_pos (hall j hj)]
   split
   ·rename_i hjc
    exact stay' c ops.size t hc (Nat.le_refl _) fun q h1 h2=>⟨fun h3=>by have:=uniq q j t h2 hj h3 hd;omega,useFree c (Nat.le_refl _) q h1 h2⟩
   ·rename_i hjc
    rw[←made j t hj hd (nb j (by omega) hj)]
    exact stay' (j+1) ops.size t (by omega) (Nat.le_refl _) fun q h1 h2=>⟨fun h3=>by have:=uniq q j t h2 hj h3 hd;omega,useFree (j+1) (by omega) q h1 h2⟩
  ·rw[show G c (fun j=>listed.getD j false) t=_ from GH_not hx,notMade _ t (Nat.le_refl _) hx,notMade _ t hc hx]
 have main:∀(fuel:Nat) (listed:Array Bool) (c:Nat) (a:Act) (w:World),listed.size=ops.size->(∀i o,listed.getD i false=true->ops.toList[i]? = some o->∀ed∈o.after.toList,Region.binds .any ed=true->listed.getD ed.on false=true) ->
  c<=ops.size->(∀k,k<ops.size->isB k=true->(listed.getD k false=true↔k<c))->cnt listed<=fuel->X.St (G c (fun j=>listed.getD j false),(E c).2) a w->wpAny P .any ops Q fuel listed a w:=by
  intro fuel
  induction fuel with
  | zero=>
    intro listed c a w hs hcl hc hcb hcnt S
    have hz:=cnt_zero listed (by omega)
    refine⟨?_,fin listed c a w hz hc hcb S⟩
    cases hr:Region.ready .any ops listed with
    | nil=>rfl
    | cons i r=>
      have:i∈Region.ready .any ops listed:=by rw[hr];simp
      obtain⟨h1,h2,_⟩:=ready_iff.1 this
      rw[getD_tf (by omega),hz i h1] at h2;cases h2
  | succ fuel ih=>
    intro listed c a w hs hcl hc hcb hcnt S
    refine⟨fun hr=>?_,fun i hi=>?_⟩
    ·
     have hall:∀m,m<ops.size->listed.getD m false=true:=by
      intro m
      induction m using Nat.strongRecOn with
      | _ m ihm=>
        intro hm
        cases hh:listed.getD m false with
        | true=>rfl
        | false=>
          exfalso
          obtain⟨o,ho,ho2⟩:=hoat m hm
          have:m∈Region.ready .any ops listed:=ready_iff.2 ⟨hm,by rw[getD_tf (by omega)];exact hh,o,ho,fun ed he hb=>ihm ed.on (F.low m o ho2 ed he hb) (by have:=F.low m o ho2 ed he hb;omega)⟩
          rw[hr] at this;cases this
     exact fin listed c a w hall hc hcb S
    ·obtain⟨h1,h2,o,ho,hed⟩:=ready_iff.1 hi
     obtain⟨o',ho',ho2⟩:=hoat i h1
     rw[ho] at ho'
     obtain rfl:=Option.some.inj ho'
     rw[getD_tf (by omega)] at h2
     obtain⟨x,hx⟩:=hxat i h1
     have hreach:∀j,(B.getD i 0).testBit j=true->listed.getD j false=true:=F.reach (lst:=fun k=>listed.getD k false=true) (fun k ok hk hok=>hcl k ok hk hok) (i+1) i o (by omega) ho2 hed
     have hreach':∀k,listed.getD k false=true->k<ops.size->∀j,(B.getD k 0).testBit j=true->listed.getD j false=true:=fun k hk hk2 j hj=>by
      obtain⟨ok,_,hok⟩:=hoat k hk2
      exact F.reach (lst:=fun k=>listed.getD k false=true) (fun k ok hk hok=>hcl k ok hk hok) (k+1) k ok (by omega) hok (hcl k ok hk hok) j hj
     have nolist:∀k,k<ops.size->(B.getD k 0).testBit i=true->listed.getD k false=false:=fun k hk hb=>by
      cases hh:listed.getD k false with
      | false=>rfl
      | true=>have:=hreach' k hh hk i hb;rw[h2] at this;cases this
     have useB:∀t∈x.temps,x.bar=false->(∃k,k<ops.size/\D k=some t)->∀(q:Nat) (y:HI),xs[q]? = some y->y.bar=true->t∈y.op.temps->(q<i->q<c)/\(i<q->c<=q):=fun t htx hxb hpr q y hy hyb hty=>by
      have hq:q<ops.size:=by have:=(List.getElem?_eq_some_iff.1 hy).1;omega
      obtain⟨k,hk,hkd⟩:=hpr
      refine⟨fun hqi=>?_,fun hqi=>?_⟩
      ·have:=hreach q (F.both' i q x y t k hqi hx hy hxb hyb htx hty (by simpa using hk) hkd)
       exact (hcb q hq (by rw[isBat hy];exact hyb)).1 this
      ·have:=nolist q hq (F.both q i y x t k hqi hy hx hyb hxb hty htx (by simpa using hk) hkd)
       rcases Nat.lt_or_ge q c with hlt|hge
       ·have h3:=(hcb q hq (by rw[isBat hy];exact hyb)).2 hlt
        rw[h3] at this;cases this
       ·exact hge
     have barNext:x.bar=true->c<=i/\∀q,c<=q->q<i->isB q=false:=fun hxb=>by
      refine⟨?_,fun q h3 h4=>?_⟩
      ·rcases Nat.lt_or_ge i c with hlt|hge
       ·have:=(hcb i h1 (by rw[isBat hx];exact hxb)).2 hlt
        rw[h2] at this;cases this
       ·exact hge
      ·cases hb:isB q with
       | false=>rfl
       | true=>
         obtain⟨y,hy⟩:=hxat q (by omega)
         have hyb:y.bar=true:=by rw[←isBat hy];exact hb
         have:=(hcb q (by omega) hb).1 (hreach q (F.row i q x y h4 hx hy hxb (.inl hyb)))
         omega
     have looks:∀t∈x.temps,G c (fun j=>listed.getD j false) t=(E i).1.get t:=by
      intro t htx
      by_cases hpr:∃k,k<ops.size/\D k=some t
      ·have hpr':=hpr
       obtain⟨j,hj,hd⟩:=hpr
       obtain⟨y,hy⟩:=hxat j hj
       have hyd:y.dst=some t:=by rw[←Dat hy];exact hd
       rw[show G c (fun j=>listed.getD j false) t=_ from GH_at uniq hj hd]
       have notYet:listed.getD j false=false->i<=j->(if listed.getD j false=true then (if j<c then (E c).1.get t else V j) else (E 0).1.get t)=(E i).1.get t:=fun h3 h4=>by
        rw[if_neg (by rw[h3];simp)]
        exact (early i t (by omega) fun q hq h5=>by have:=uniq q j t (by omega) hj h5 hd;omega).symm
       rcases Nat.lt_trichotomy j i with hji|hji|hji
       ·have hlj:=hreach j (F.see i j x y t hji hx hy htx hyd)
        rw[if_pos hlj]
        have range:∀(k k':Nat),j<k->k<=k'->k'<=ops.size->(∀q,k<=q->q<k'->∀(y:HI),xs[q]? = some y->y.bar=true->t∉y.op.temps)->(E k').1.get t=(E k).1.get t:=fun k k' h3 h4 h5 h6=>
         stay' k k' t h4 h5 fun q h7 h8=>⟨fun h9=>by have:=uniq q j t (by omega) hj h9 hd;omega,h6 q h7 h8⟩
        cases hxb:x.bar with
        | true=>
          obtain⟨hci,hnb⟩:=barNext hxb
          have free:∀(q:Nat),c<=q->q<i->∀(y:HI),xs[q]? = some y->y.bar=true->t∉y.op.temps:=fun q h3 h4 y hy hyb=>by
           have:=hnb q h3 h4
           rw[isBat hy,hyb] at this;cases this
          split
          ·rename_i hjc;exact (range c i hjc hci (by omega) free).symm
          ·rename_i hjc
           rw[←made j t hj hd (hnb j (by omega) hji)]
           exact (range (j+1) i (by omega) (by omega) (by omega) fun q h3 h4=>free q (by omega) h4).symm
        | false=>
          have hu:=useB t htx hxb hpr'
          have free:∀(q:Nat),c<=q->q<i->∀(y:HI),xs[q]? = some y->y.bar=true->t∉y.op.temps:=fun q h3 h4 y hy hyb hty=>by
           have:=(hu q y hy hyb hty).1 h4;omega
          split
          ·rename_i hjc
           rcases Nat.le_total c i with h3|h3
           ·exact (range c i hjc h3 (by omega) free).symm
           ·refine range i c hji h3 hc fun q h4 h5 y hy hyb hty=>?_
            by_cases hqi:q=i
            ·subst hqi
             rw[hx] at hy
             simp only[Option.some.injEq] at hy
             subst hy
             rw[hxb] at hyb;cases hyb
            ·have:=(hu q y hy hyb hty).2 (by omega);omega
          ·rename_i hjc
           have hjb:isB j=false:=by
            cases hb:isB j with
            | false=>rfl
            | true=>have:=(hcb j hj hb).1 hlj;omega
           rw[←made j t hj hd hjb]
           exact (range (j+1) i (by omega) (by omega) (by omega) fun q h3 h4=>free q (by omega) h4).symm
       ·subst hji;exact notYet h2 (Nat.le_refl _)
       ·exact notYet (nolist j hj (F.seen j i y x t hji hy hx htx hyd)) (by omega)
      ·rw[show G c (fun j=>listed.getD j false) t=_ from GH_not hpr,notMade c t hc hpr,notMade i t (by omega) hpr]
     have hcl':∀k ok,(listed.setIfInBounds i true).getD k false=true->ops.toList[k]? = some ok->∀ed∈ok.after.toList,Region.binds .any ed=true->(listed.setIfInBounds i true).getD ed.on false=true:=fun k ok hk hok ed he hb=>by
      rw[getD_set (by omega)] at hk ⊢
      by_cases hkk:k=i
      ·subst hkk
       rw[ho2] at hok
       obtain rfl:=Option.some.inj hok
       rw[if_neg (by have:=F.low k _ ho2 ed he hb;omega)]
       exact hed ed he hb
      ·rw[if_neg hkk] at hk
       split
       ·rfl
       ·exact hcl k ok hk hok ed he hb
     have hcnt':cnt (listed.setIfInBounds i true)<=fuel:=by have:=cnt_set listed i hs h1 h2;omega
     unfold wpOp
     rw[ho]
     simp only
     cases hxb:x.bar with
     | false=>
       obtain⟨d,hxd,hsd,hEi⟩:=(hE i x hx).2 hxb
       have hcb':∀k,k<ops.size->isB k=true->((listed.setIfInBounds i true).getD k false=true↔k<c):=fun k hk hb=>by
        rw[getD_set (by omega),if_neg (fun e=>by subst e;rw[isBat hx,hxb] at hb;cases hb)]
        exact hcb k hk hb
       have hst:readAt (E c).2 (lookHG (E i).1.get) x.op=readAt (E i).2 (lookHG (E i).1.get) x.op:=by
        by_cases hr:x.op.reads=true
        case neg=>rw[readAt_none (by simpa using hr),readAt_none (by simpa using hr)]
        have hso:=stableAll_at hstab i (E i) x (hEat i (by omega)) hx
        have loose:∀q,q∈x.loose->q<ops.size->readAt (E (q+1)).2 (lookHG (E i).1.get) x.op=readAt (E q).2 (lookHG (E i).1.get) x.op:=fun q hq hq2=>by
         simp only[stableOp,List.all_eq_true] at hso
         have:=hso q hq
         rw[hEat q (by omega),hEat (q+1) (by omega)] at this
         exact (eqHO_eq this).symm
        have below:∀q,q<i->isB q=true->q∉x.loose->q<c:=fun q hq hb hl=>by
         obtain⟨y,hy⟩:=hxat q (by omega)
         have hyb:y.bar=true:=by rw[←isBat hy];exact hb
         exact (hcb q (by omega) hb).1 (hreach q (F.rd i q x y hq hx hy hxb hr hyb hl))
        have above:∀q,i<q->q<ops.size->isB q=true->q∉x.loose->c<=q:=fun q hq hq2 hb hl=>by
         obtain⟨y,hy⟩:=hxat q hq2
         have hyb:y.bar=true:=by rw[←isBat hy];exact hb
         have:=nolist q hq2 (F.row q i y x hq hy hx hyb (.inr ⟨hr,hl⟩))
         rcases Nat.lt_or_ge q c with hlt|hge
         ·have h3:=(hcb q hq2 hb).2 hlt;rw[h3] at this;cases this
         ·exact hge
        have go:∀(m k:Nat),k+m<=ops.size->(∀q,k<=q->q<k+m->isB q=true->q∈x.loose)->readAt (E (k+m)).2 (lookHG (E i).1.get) x.op=readAt (E k).2 (lookHG (E i).1.get) x.op:=by
         intro m
         induction m with
         | zero=>intro k _ _;rfl
         | succ m ih=>
           intro k hk hq
           rw[←ih k (by omega) fun q h1 h2=>hq q h1 (by omega),←Nat.add_assoc]
           cases hb:isB (k+m) with
           | false=>rw[blk1 (k+m) (by omega) hb]
           | true=>exact loose (k+m) (hq _ (by omega) (by omega) hb) (by omega)
        rcases Nat.le_total c i with h3|h3
        ·have:=go (i-c) c (by omega) fun q h4 h5 hb=>by
          apply Classical.byContradiction
          intro hl
          have:=below q (by omega) hb hl;omega
         rw[show c+(i-c)=i by omega] at this
         exact this.symm
        ·have:=go (c-i) i (by omega) fun q h4 h5 hb=>by
          apply Classical.byContradiction
          intro hl
          by_cases hqi:q=i
          ·subst hqi;rw[isBat hx,hxb] at hb;cases hb
          ·have:=above q (by omega) (by omega) hb hl;omega
         rw[show i+(c-i)=c by omega] at this
         exact this
       have hnew:∀t,G c (fun j=>(listed.setIfInBounds i true).getD j false) t = if t=d then V i else G c (fun j=>listed.getD j false) t:=fun t=>by
        by_cases htd:t=d
        ·subst htd
         have hDi:D i=some t:=by rw[Dat hx];exact hxd
         rw[if_pos rfl,show G c (fun j=>(listed.setIfInBounds i true).getD j false) t=_ from GH_at uniq h1 hDi,if_pos (by rw[getD_set (by omega)];simp)]
         split
         ·rename_i hic
          rw[←made i t h1 hDi (by rw[isBat hx];exact hxb)]
          refine stay' (i+1) c t (by omega) hc fun q h3 h4=>⟨fun h5=>by have:=uniq q i t (by omega) h1 h5 hDi;omega,fun y hy hyb hty=>?_⟩
          have:=nolist q (by omega) (F.see q i y x t (by omega) hy hx (HI.temps_op hty) hxd)
          have h6:=(hcb q (by omega) (by rw[isBat hy];exact hyb)).2 h4
          rw[h6] at this;cases this
         ·rfl
        ·rw[if_neg htd]
         by_cases hpr:∃k,k<ops.size/\D k=some t
         ·obtain⟨j,hj,hd⟩:=hpr
          have hji:j≠i:=by
           rintro rfl
           rw[Dat hx,hxd] at hd
           exact htd (Option.some.inj hd).symm
          rw[show G c (fun j=>(listed.setIfInBounds i true).getD j false) t=_ from GH_at uniq hj hd,show G c (fun j=>listed.getD j false) t=_ from GH_at uniq hj hd]
          simp only[getD_set (show i<listed.size by omega),if_neg hji]
         ·rw[show G c (fun j=>(listed.setIfInBounds i true).getD j false) t=_ from GH_not hpr,show G c (fun j=>listed.getD j false) t=_ from GH_not hpr]
       have next:∀a' w',X.St (fun t=>if t=d then V i else G c (fun j=>listed.getD j false) t,(E c).2) a' w'->wpAny P .any ops Q fuel (listed.setIfInBounds i true) a' w':=fun a' w' S'=>
        ih _ c a' w' (by simpa using hs) hcl' hc hcb' hcnt' (S'.congr hnew)
       obtain⟨_,hsd⟩:=stepHD_sound (Q:=Q) hX hC hok S (htr i o x ho hx) looks hst hsd
       rcases hsd with⟨hw,hss⟩|⟨hw,hss⟩
       ·rw[if_pos hw];exact .inl (Oper.wp_mono (fun a' w' hh=>next a' w' hh) hss)
       ·rw[if_neg (by rw[hw];simp)];exact next _ _ hss
     | true=>
       obtain⟨hci,hnb⟩:=barNext hxb
       have hst:(E i).2=(E c).2:=blkSame c i hci (by omega) hnb
       have hs1:=stepH_G ((hE i x hx).1 hxb)
       rw[hst] at hs1
       obtain⟨g',hs2,hg1,hg2⟩:=stepG_congr (g':=G c (fun j=>listed.getD j false)) (fun t ht=>(looks t ht).symm) hs1
       have hcb':∀k,k<ops.size->isB k=true->((listed.setIfInBounds i true).getD k false=true↔k<i+1):=fun k hk hb=>by
        rw[getD_set (by omega)]
        by_cases hki:k=i
        ·subst hki;simp
        ·rw[if_neg hki,hcb k hk hb]
         refine⟨fun h3=>by omega,fun h3=>?_⟩
         rcases Nat.lt_or_ge k c with hlt|hge
         ·exact hlt
         ·have:=hnb k hge (by omega);rw[this] at hb;cases hb
       have hnew:∀t,G (i+1) (fun j=>(listed.setIfInBounds i true).getD j false) t=g' t:=fun t=>by
        by_cases hin:x.dst=some t\/t∈x.op.temps
        ·rw[hg1 t hin]
         by_cases hpr:∃k,k<ops.size/\D k=some t
         ·obtain⟨j,hj,hd⟩:=hpr
          obtain⟨y,hy⟩:=hxat j hj
          have hyd:y.dst=some t:=by rw[←Dat hy];exact hd
          rw[show G (i+1) (fun j=>(listed.setIfInBounds i true).getD j false) t=_ from GH_at uniq hj hd]
          have hji:j<=i\/((listed.setIfInBounds i true).getD j false=false/\i<j):=by
           rcases Nat.lt_or_ge i j with hlt|hge
           ·right
            refine⟨?_,hlt⟩
            rw[getD_set (by omega),if_neg (by omega)]
            rcases hin with hin|hin
            ·have:=uniq i j t h1 hj (by rw[Dat hx];exact hin) hd;omega
            ·exact nolist j hj (F.seen j i y x t hlt hy hx (HI.temps_op hin) hyd)
           ·exact .inl hge
          rcases hji with hji|⟨hji,hji2⟩
          ·have hlj:(listed.setIfInBounds i true).getD j false=true:=by
            rw[getD_set (by omega)]
            split
            ·rfl
            ·rename_i hne
             rcases hin with hin|hin
             ·have:=uniq i j t h1 hj (by rw[Dat hx];exact hin) hd;omega
             ·exact hreach j (F.see i j x y t (by omega) hx hy (HI.temps_op hin) hyd)
           rw[if_pos hlj,if_pos (by omega)]
          ·rw[if_neg (by rw[hji];simp)]
           exact (early (i+1) t (by omega) fun q hq h5=>by have:=uniq q j t (by omega) hj h5 hd;omega).symm
         ·exact GH_not hpr
        ·have hn1:x.dst≠some t:=fun h=>hin (.inl h)
         have hn2:t∉x.op.temps:=fun h=>hin (.inr h)
         rw[hg2 t hn1 hn2]
         have free:∀(q:Nat),c<=q->q<i+1->∀(y:HI),xs[q]? = some y->y.bar=true->t∉y.op.temps:=fun q h3 h4 y hy hyb=>by
          by_cases hqi:q=i
          ·subst hqi
           rw[hx] at hy
           simp only[Option.some.injEq] at hy
           subst hy;exact hn2
          ·have:=hnb q h3 (by omega)
           rw[isBat hy,hyb] at this;cases this
         by_cases hpr:∃k,k<ops.size/\D k=some t
         ·obtain⟨j,hj,hd⟩:=hpr
          have hji:j≠i:=by
           rintro rfl
           rw[Dat hx] at hd
           exact hn1 hd
          rw[show G (i+1) (fun j=>(listed.setIfInBounds i true).getD j false) t=_ from GH_at uniq hj hd,show G c (fun j=>listed.getD j false) t=_ from GH_at uniq hj hd]
          simp only[getD_set (show i<listed.size by omega),if_neg hji]
          split
          ·rename_i hlj
           have range:∀(k k':Nat),j<k->k<=k'->k'<=ops.size->(∀q,k<=q->q<k'->∀(y:HI),xs[q]? = some y->y.bar=true->t∉y.op.temps)->(E k').1.get t=(E k).1.get t:=fun k k' h3 h4 h5 h6=>
            stay' k k' t h4 h5 fun q h7 h8=>⟨fun h9=>by have:=uniq q j t (by omega) hj h9 hd;omega,h6 q h7 h8⟩
           by_cases hjc:j<c
           ·rw[if_pos (by omega),if_pos hjc]
            exact range c (i+1) hjc (by omega) (by omega) free
           ·rw[if_neg hjc]
            split
            ·rename_i hji2
             rw[←made j t hj hd (hnb j (by omega) (by omega))]
             exact range (j+1) (i+1) (by omega) (by omega) (by omega) fun q h3 h4=>free q (by omega) h4
            ·rfl
          ·rfl
         ·rw[show G (i+1) (fun j=>(listed.setIfInBounds i true).getD j false) t=_ from GH_not hpr,show G c (fun j=>listed.getD j false) t=_ from GH_not hpr,notMade c t hc hpr,notMade (i+1) t (by omega) hpr]
       have next:∀a' w',X.St (g',(E (i+1)).2) a' w'->wpAny P .any ops Q fuel (listed.setIfInBounds i true) a' w':=fun a' w' S'=>
        ih _ (i+1) a' w' (by simpa using hs) hcl' (by omega) hcb' hcnt' (S'.congr hnew)
       rcases stepG_sound (Q:=Q) hX hC hH hok S (htr i o x ho hx) hs2 with⟨hw,hss⟩|⟨hw,hss⟩
       ·rw[if_pos hw];exact .inl (Oper.wp_mono (fun a' w' hh=>next a' w' hh) hss)
       ·rw[if_neg (by rw[hw];simp)];exact next _ _ hss
 refine main ops.size (Array.replicate ops.size false) 0 a0 w0 (by simp) (fun i o hl=>?_) (Nat.zero_le _) (fun k hk hb=>?_) ?_ (St1.congr fun t=>?_)
 ·exfalso
  have:(Array.replicate ops.size false).getD i false=false:=by
   simp only[Array.getD]
   split <;> simp
  rw[this] at hl;cases hl
 ·have:(Array.replicate ops.size false).getD k false=false:=by
   simp only[Array.getD]
   split <;> simp
  rw[this];simp
 ·have:∀(l:List Nat) (p:Nat->Bool),l.countP p<=l.length:=fun l p=>List.countP_le_length
  exact Nat.le_trans (this _ _) (by simp)
 ·have hf:∀i,(Array.replicate ops.size false).getD i false=false:=fun i=>by
   simp only[Array.getD]
   split <;> simp
  by_cases hpr:∃k,k<ops.size/\D k=some t
  ·obtain⟨j,hj,hd⟩:=hpr
   rw[show G 0 (fun j=>(Array.replicate ops.size false).getD j false) t=_ from GH_at uniq hj hd,if_neg (by rw[hf];simp)]
  ·exact GH_not hpr
end
end Go.Ab
