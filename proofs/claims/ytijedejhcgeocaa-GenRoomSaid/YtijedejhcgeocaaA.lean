/-
  Texts of this seat: lemmas on the way to the statement.
-/
import Derived.Calls
import Derived.Laws.Cells
import Derived.Laws.Slices
import Derived.ChangeKeysEq
import Derived.Laws.AppendOwn
set_option linter.unusedVariables false
set_option linter.unusedSimpArgs false
namespace Go.Ab
open Go
inductive PV where
 | none
 | bool (b:Bool)
 | int (k:IntKind) (n:Int)
 | str (s:List UInt8)
 | nilp
 | nils
 | nilf
 | ref (r:Nat) (p:List Nat) (i n:Nat)
 | view (r:Nat) (p:List Nat) (off len sz:Nat)
 | box (cs:List PV)
 | own (sz len:Nat) (cs:List PV)
 | sl (len:Nat) (cs:List PV)
 | sp (cs:List PV)
 | agg (cs:List PV)
 | tup (vs:List PV)
 | fn (f:Nat) (caps:List PV)
 deriving Inhabited
inductive XO where
 | t (n:Nat)
 | k (v:PV)
 | f (n:Nat)
 deriving Inhabited
inductive XOp where
 | mv (x:XO)
 | asg (x:XO)
 | pick (c a b:XO)
 | alloc (zero:List PV)
 | box (x:XO)
 | build (zero:List PV) (parts:List (Nat×Nat×XO))
 | bsl (sz len:Nat) (zero:List PV) (parts:List (Nat×Nat×XO))
 | load (agg:Bool) (sz:Nat) (x:XO)
 | store (sz:Nat) (a v:XO)
 | bin (op:BinOp) (x y:XO)
 | beq (neg:Bool) (x y:XO)
 | peq (neg:Bool) (x y:XO)
 | aeq (neg:Bool) (z:List PV) (x y:XO)
 | un (op:UnOp) (x:XO)
 | conv (k:IntKind) (x:XO)
 | mksl (sz bytes:Nat) (zero:List PV) (len cap:XO)
 | slc (sz:Nat) (x:XO) (lo hi:Option XO)
 | fadr (off:Nat) (x:XO)
 | fld (agg:Bool) (off sz:Nat) (x:XO)
 | iadr (sz:Nat) (arr:Option Nat) (x i:XO)
 | idx (agg:Bool) (sz n:Nat) (x i:XO)
 | idxs (x i:XO)
 | len (str:Bool) (x:XO)
 | lenk (n:Nat)
 | app (sz bytes:Nat) (s x:XO)
 | ext (x:XO) (i:Nat)
 | call (f:Nat) (args:List XO) (muts:List Nat)
 | callv (f:XO) (args:List XO)
 | mkfn (f:Nat) (caps:List XO)
 | nilck (x:XO)
 | b2s (x:XO)
 | mx (x y:XO)
 | mn (x y:XO)
 deriving Inhabited
structure XI where
 dst:Option Nat
 op:XOp
 guard:Option (Nat×Bool):=.none
 bar:Bool:=false
 deriving Inhabited
inductive XC where
 | skip
 | reg (ops:List XI) (draw:Bool) (keep:List Nat)
 | seq (a b:XC)
 | cond (c:XO) (a b:XC) (keep:List Nat)
 | block (id:Nat) (b:XC) (keep:List Nat)
 | loop (b:XC) (keep:List Nat)
 | exit (id:Nat) (keep:List Nat)
 | ret
 deriving Inhabited
inductive XR where
 | tmp (t:Nat)
 | cell (t:Nat) (agg:Bool) (sz:Nat)
 deriving Inhabited
structure XF where
 np:Nat
 nt:Nat
 res:List XR
 body:XC
 prot:List Nat:=[]
 keep:Bool:=false
 nk:Bool:=false
 ext:Option Nat:=.none
 deriving Inhabited
abbrev Env:=List (Nat×PV)
def Env.get:Env->Nat->PV
 | [],_=>.none
 | (k,v)::r,t=>if t=k then v else Env.get r t
def Env.set:Env->Nat->PV->Env
 | [],t,v=>[(t,v)]
 | (k,x)::r,t,v=>if t<k then (t,v)::(k,x)::r else if t=k then (t,v)::r else (k,x)::Env.set r t v
def Env.keep(l:List Nat):Env->Env
 | []=>[]
 | (k,x)::r=>if l.contains k then (k,x)::Env.keep l r else Env.keep l r
mutual
def noOwn:PV->Bool
 | .box _ | .own ..=>false
 | .agg cs | .tup cs | .fn _ cs=>noOwnL cs
 | _=>true
def noOwnL:List PV->Bool
 | []=>true
 | c::cs=>noOwn c&&noOwnL cs
end
def al(r:Nat)(p:List Nat):PV->PV
 | .own sz len _=>.view r p 0 len sz
 | .box (_::cs)=>.ref r p 0 (cs.length+1)
 | .box []=>.none
 | .agg _ | .tup _=>.none
 | .fn f cs=>if noOwnL cs then .fn f cs else .none
 | v=>v
def alL(r:Nat)(p:List Nat):Nat->List PV->List PV
 | _,[]=>[]
 | i,c::cs=>al r (p++[i]) c::alL r p (i+1) cs
def PV.free:PV->Bool
 | .ref .. | .view .. | .box _ | .own .. | .agg _ | .tup _ | .none | .fn _ _=>false
 | _=>true
def cells:PV->List PV
 | .agg cs=>cs
 | v=>[v]
def kids:PV->List PV
 | .box cs=>cs
 | .own _ _ cs=>cs
 | .agg cs=>cs
 | .tup cs=>cs
 | _=>[]
def setKid:PV->Nat->PV->PV
 | .box cs,i,x=>.box (cs.set i x)
 | .own s n cs,i,x=>.own s n (cs.set i x)
 | .agg cs,i,x=>.agg (cs.set i x)
 | .tup cs,i,x=>.tup (cs.set i x)
 | v,_,_=>v
def sub:PV->List Nat->PV
 | v,[]=>v
 | v,i::p=>match (kids v)[i]? with | some c=>sub c p | .none=>.none
def hasP:PV->List Nat->Bool
 | _,[]=>true
 | v,i::p=>match (kids v)[i]? with | some c=>hasP c p | .none=>false
def upd:PV->List Nat->PV->PV
 | _,[],x=>x
 | v,i::p,x=>match (kids v)[i]? with | some c=>setKid v i (upd c p x) | .none=>v
def Env.sub(e:Env)(r:Nat)(p:List Nat):PV:=Ab.sub (e.get r) p
def Env.upd(e:Env)(r:Nat)(p:List Nat)(x:PV):Env:=e.set r (Ab.upd (e.get r) p x)
def objCells:PV->Option (List PV)
 | .box cs=>some cs
 | .own _ _ cs=>some cs
 | _=>Option.none
def lookG(g:Nat->PV):XO->PV
 | .t n=>match g n with
   | .agg cs=>.agg (alL n [] 0 cs)
   | .tup cs=>if noOwnL cs then .tup cs else .none
   | v=>al n [] v
 | .k v=>v
 | .f n=>.fn n []
def look(e:Env)(x:XO):PV:=lookG e.get x
mutual
def refs:PV->List (Nat×List Nat)
 | .ref r p _ _=>[(r,p)]
 | .view r p _ _ _=>[(r,p)]
 | .agg cs=>refsL cs
 | .tup cs=>refsL cs
 | .fn _ cs=>refsL cs
 | _=>[]
def refsL:List PV->List (Nat×List Nat)
 | []=>[]
 | c::cs=>refs c++refsL cs
end
def noRefs(ds:List Nat)(v:PV):Bool:=(refs v).all fun q=>!ds.contains q.1
mutual
def frz:PV->Option PV
 | .own _ len cs=>(frzL cs).map (.sl len)
 | .agg cs=>(frzL cs).map .agg
 | .tup cs=>(frzL cs).map .tup
 | .nils=>some (.sl 0 [])
 | .box _ | .ref .. | .view .. | .none | .fn ..=>Option.none
 | v=>some v
def frzL:List PV->Option (List PV)
 | []=>some []
 | c::cs=>match frz c,frzL cs with
   | some x,some xs=>some (x::xs)
   | _,_=>Option.none
end
def lim:Nat:=2 ^ 40
def intBits(op:BinOp)(k:IntKind)(x y:Int):Option Int:=
 let a:=BitVec.ofInt k.bits x
 let b:=BitVec.ofInt k.bits y
 match op with
 | .and=>some (k.wrap (a &&& b).toNat)
 | .or=>some (k.wrap (a ||| b).toNat)
 | .xor=>some (k.wrap (a ^^^ b).toNat)
 | .andNot=>some (k.wrap (a &&& ~~~b).toNat)
 | _=>Option.none
def intBin(op:BinOp)(k:IntKind)(x:Int)(k':IntKind)(y:Int):Option PV:=
 match op with
 | .shl=>if y<0 then Option.none else some (.int k (k.wrap (x*2 ^ (min y.toNat k.bits))))
 | .shr=>if y<0 then Option.none else some (.int k (x.fdiv (2 ^ (min y.toNat k.bits))))
 | op=>if k=k' then
    match op with
    | .add=>some (.int k (k.wrap (x+y)))
    | .sub=>some (.int k (k.wrap (x-y)))
    | .mul=>some (.int k (k.wrap (x*y)))
    | .quo=>if y=0 then Option.none else some (.int k (k.wrap (x.tdiv y)))
    | .rem=>if y=0 then Option.none else some (.int k (x.tmod y))
    | .and | .or | .xor | .andNot=>(intBits op k x y).map (.int k)
    | .eql=>some (.bool (x==y))
    | .neq=>some (.bool (x != y))
    | .lss=>some (.bool (decide (x<y)))
    | .leq=>some (.bool (decide (x<=y)))
    | .gtr=>some (.bool (decide (y<x)))
    | .geq=>some (.bool (decide (y<=x)))
    | _=>Option.none
   else Option.none
def strBin(op:BinOp)(x y:List UInt8):Option PV:=
 match op with
 | .add=>if x.length+y.length<=lim then some (.str (x++y)) else Option.none
 | .eql=>some (.bool (x==y))
 | .neq=>some (.bool (!(x==y)))
 | _=>Option.none
def eqCells:List PV->List PV->List PV->Option Bool
 | [],[],[]=>some true
 | .int _ _::z,.int k a::r,.int k' b::r'=>if k=k' then (eqCells z r r').map ((a==b) && ·) else Option.none
 | .bool _::z,.bool a::r,.bool b::r'=>(eqCells z r r').map ((a==b) && ·)
 | .str _::z,.str a::r,.str b::r'=>(eqCells z r r').map ((a==b) && ·)
 | _,_,_=>Option.none
def pvBin(op:BinOp):PV->PV->Option PV
 | .int k a,.int k' b=>intBin op k a k' b
 | .str a,.str b=>strBin op a b
 | _,_=>Option.none
def pvBeq:PV->PV->Option Bool
 | .bool a,.bool b=>some (a==b)
 | _,_=>Option.none
def pvPeq:PV->PV->Option Bool
 | .nilp,.nilp=>some true
 | .nilp,.ref ..=>some false
 | .nilp,.sp _=>some false
 | .ref ..,.nilp=>some false
 | .sp _,.nilp=>some false
 | _,_=>Option.none
def pvAeq(z:List PV):PV->PV->Option Bool
 | .agg a,.agg b=>eqCells z a b
 | _,_=>Option.none
def pvUn(op:UnOp):PV->Option PV
 | .int k n=>match op with
   | .neg=>some (.int k (k.wrap (0-n)))
   | _=>Option.none
 | .bool b=>match op with | .not=>some (.bool !b) | _=>Option.none
 | _=>Option.none
def PV.lok:PV->Bool
 | .view .. | .ref ..=>true
 | v=>v.free
def fillP(ok:PV->Bool)(L:XO->PV):List PV->List (Nat×Nat×XO)->Option (List PV)
 | cs,[]=>some cs
 | cs,(off,sz,x)::r=>
   let ys:=cells (L x)
   if ys.length=sz/\off+sz<=cs.length/\ys.all ok then fillP ok L (cs.take off++ys++cs.drop (off+sz)) r else Option.none
def rep:Nat->List PV->List PV
 | 0,_=>[]
 | n+1,z=>z++rep n z
def mkOwn(sz len:Nat)(cs:List PV):PV:=if len=0 then .nils else .own sz len cs
def part(agg:Bool)(off sz:Nat)(cs:List PV):Option PV:=
 if off+sz<=cs.length then
  (if agg then some (.agg ((cs.drop off).take sz)) else cs[off]?)
 else Option.none
def idxOk(i:Int)(n:Nat):Bool:=decide (0<=i)&&decide (i<n)
abbrev Subs:=Nat->List Nat->PV
def slCells(S:Subs):PV->Option (Nat×List PV)
 | .nils=>some (0,[])
 | .sl n cs=>some (n,cs)
 | .view r p off len z=>match S r p with
   | .own sz _ cs=>if off+len*sz<=cs.length then some (len,(cs.drop off).take (len*sz)) else Option.none
   | _=>Option.none
 | _=>Option.none
def lendCap(S:Subs):PV->Option PV
 | .ref r p 0 _=>match S r p with
   | .box cs=>(frzL cs).map .sp
   | _=>Option.none
 | .sp cs=>some (.sp cs)
 | _=>Option.none
def lendCaps(S:Subs):List PV->Option (List PV)
 | []=>some []
 | c::cs=>match lendCap S c,lendCaps S cs with
   | some x,some xs=>some (x::xs)
   | _,_=>Option.none
def lend1(S:Subs):PV->Option PV
 | .view r p off len z=>match S r p with
   | .own sz _ cs=>if z=sz/\off+len*sz<=cs.length then (frzL ((cs.drop off).take (len*sz))).map (.sl len) else Option.none
   | _=>Option.none
 | v=>if v.free then some v else Option.none
def lend1L(S:Subs):List PV->Option (List PV)
 | []=>some []
 | c::cs=>match lend1 S c,lend1L S cs with
   | some x,some xs=>some (x::xs)
   | _,_=>Option.none
def lend(S:Subs):PV->Option PV
 | .agg cs=>(lend1L S cs).map .agg
 | .fn f cs=>(lendCaps S cs).map (.fn f)
 | v=>lend1 S v
def lendL(S:Subs):List PV->Option (List PV)
 | []=>some []
 | c::cs=>match lend S c,lendL S cs with
   | some x,some xs=>some (x::xs)
   | _,_=>Option.none
def PV.isNone:PV->Bool
 | .none=>true
 | _=>false
def PV.isView:PV->Bool
 | .view ..=>true
 | _=>false
def PV.isRef:PV->Bool
 | .ref ..=>true
 | _=>false
def PV.isCap:PV->Bool
 | .ref _ _ 0 _=>true
 | .sp _=>true
 | _=>false
def lent:PV->Bool
 | .view ..=>true
 | .agg cs=>cs.any PV.isView
 | .fn _ cs=>cs.any PV.isRef
 | _=>false
def PV.flat1:PV->Bool
 | .int .. | .bool _ | .str _=>true
 | _=>false
def PV.flat:PV->Bool
 | .agg cs=>cs.all PV.flat1
 | .tup cs=>cs.all PV.flat1
 | v=>v.flat1
abbrev Calls':=Nat->List PV->Option (PV×List PV)
def bytesOf:List PV->Option (List UInt8)
 | []=>some []
 | .int .u8 n::r=>(bytesOf r).map (UInt8.ofNat n.toNat :: ·)
 | _=>Option.none
def bnd(L:XO->PV)(n:Nat)(o:Option XO)(d:Nat):Option Nat:=
 match o with
 | some y=>match L y with
   | .int _ i=>if 0<=i/\i<=n then some i.toNat else Option.none
   | _=>Option.none
 | Option.none=>some d
def norm1:PV->PV
 | .nils=>.sl 0 []
 | v=>v
def evP(C:Calls')(L:XO->PV)(S:Subs):XOp->Option PV
 | .mv x=>match L x with | .none=>Option.none|v=>some v
 | .pick c a b=>match L c with
   | .bool true=>some (L a)
   | .bool false=>some (L b)
   | _=>Option.none
 | .alloc z=>some (.box z)
 | .box x=>let ys:=cells (L x);if ys.all PV.free then some (.box ys) else Option.none
 | .build z ps=>(fillP PV.lok L z ps).map .agg
 | .bsl sz len z ps=>(fillP PV.free L (rep len z) ps).map fun cs=>mkOwn sz len (cs.map norm1)
 | .load agg sz x=>match L x with
   | .ref r p i m=>match objCells (S r p) with
     | some cs=>if i+sz<=cs.length/\0<m then
        (if agg then some (.agg (alL r p i ((cs.drop i).take sz))) else (cs[i]?).map (al r (p++[i])))
       else Option.none
     | _=>Option.none
   | .sp cs=>part agg 0 sz cs
   | _=>Option.none
 | .bin op x y=>pvBin op (L x) (L y)
 | .beq neg x y=>(pvBeq (L x) (L y)).map fun b=>.bool (neg ^^ b)
 | .peq neg x y=>(pvPeq (L x) (L y)).map fun b=>.bool (neg ^^ b)
 | .aeq neg z x y=>(pvAeq z (L x) (L y)).map fun b=>.bool (neg ^^ b)
 | .un op x=>pvUn op (L x)
 | .conv k x=>match L x with
   | .int _ n=>some (.int k (k.wrap n))
   | _=>Option.none
 | .mksl sz bytes z l c=>match L l,L c with
   | .int _ n,.int _ m=>if n=m/\0<=n/\n.toNat*bytes<=lim/\n.toNat<=lim then some (mkOwn sz n.toNat (rep n.toNat z)) else Option.none
   | _,_=>Option.none
 | .slc sz x lo hi=>
   match L x with
   | .str s=>if sz=0 then (match bnd L s.length hi s.length with
     | some h=>match bnd L h lo 0 with
       | some l=>some (.str ((s.take h).drop l))
       | _=>Option.none
     | _=>Option.none) else Option.none
   | .sl n cs=>if sz=0 then Option.none else (match bnd L n hi n with
     | some h=>match bnd L h lo 0 with
       | some l=>some (.sl (h-l) ((cs.take (h*sz)).drop (l*sz)))
       | _=>Option.none
     | _=>Option.none)
   | .view r p off n z=>if sz=0 then Option.none else (match bnd L n hi n with
     | some h=>match bnd L h lo 0 with
       | some l=>if z=sz then (if l=0 then some (.view r p off h z) else if l<h then some (.view r p (off+l*sz) (h-l) z) else some (.sl 0 [])) else Option.none
       | _=>Option.none
     | _=>Option.none)
   | _=>Option.none
 | .fadr off x=>match L x with
   | .ref r p i m=>if off<m then some (.ref r p (i+off) (m-off)) else Option.none
   | .sp cs=>if off<cs.length then some (.sp (cs.drop off)) else Option.none
   | _=>Option.none
 | .fld agg off sz x=>match L x with
   | .agg cs=>part agg off sz cs
   | _=>Option.none
 | .iadr sz arr x i=>match L i with
   | .int _ j=>match arr with
     | Option.none=>match L x with
       | .sl n cs=>if idxOk j n then some (.sp ((cs.drop (j.toNat*sz)).take sz)) else Option.none
       | .view r p off n z=>if idxOk j n&&z==sz then some (.ref r p (off+j.toNat*sz) sz) else Option.none
       | _=>Option.none
     | some n=>match L x with
       | .ref r p o m=>if idxOk j n&&decide (n*sz<=m) then some (.ref r p (o+j.toNat*sz) sz) else Option.none
       | .sp cs=>if idxOk j n then some (.sp (cs.drop (j.toNat*sz))) else Option.none
       | _=>Option.none
   | _=>Option.none
 | .idx agg sz n x i=>match L x,L i with
   | .agg cs,.int _ j=>if idxOk j n then part agg (j.toNat*sz) sz cs else Option.none
   | _,_=>Option.none
 | .idxs x i=>match L x,L i with
   | .str s,.int _ j=>if idxOk j s.length then (s[j.toNat]?).map fun c=>.int .u8 c.toNat else Option.none
   | _,_=>Option.none
 | .len str x=>match L x with
   | .str s=>if str then some (.int .i64 s.length) else Option.none
   | .sl n _=>if str then Option.none else some (.int .i64 n)
   | .view _ _ _ n _=>if str then Option.none else some (.int .i64 n)
   | .nils=>if str then Option.none else some (.int .i64 0)
   | _=>Option.none
 | .lenk n=>some (.int .i64 n)
 | .ext x i=>match L x with
   | .tup vs=>match vs[i]? with
     | some (.agg cs)=>if cs.all PV.free then some (.agg cs) else Option.none
     | some v=>if v.free then some v else Option.none
     | _=>Option.none
   | _=>Option.none
 | .nilck x=>match L x with
   | .ref r p i m=>some (.ref r p i m)
   | .sp cs=>some (.sp cs)
   | _=>Option.none
 | .call f args []=>
   let vs:=args.map L
   match lendL S vs with
   | some ws=>match C f ws with
     | some (r,_)=>if r.flat || !(vs.any lent) then some r else Option.none
     | _=>Option.none
   | _=>Option.none
 | .callv x args=>match L x with
   | .fn f caps=>
     let vs:=args.map L
     match lendL S vs,lendCaps S caps with
     | some ws,some us=>match C f (ws++us) with
       | some (r,_)=>if r.flat || !(vs.any lent||lent (.fn f caps)) then some r else Option.none
       | _=>Option.none
     | _,_=>Option.none
   | _=>Option.none
 | .mkfn f caps=>
   let vs:=caps.map L
   if vs.all PV.isCap then some (.fn f vs) else Option.none
 | .mx x y=>match L x,L y with
   | .int k a,.int k' b=>if k=k' then some (.int k (if a<b then b else a)) else Option.none
   | _,_=>Option.none
 | .mn x y=>match L x,L y with
   | .int k a,.int k' b=>if k=k' then some (.int k (if b<a then b else a)) else Option.none
   | _,_=>Option.none
 | .b2s x=>match slCells S (L x) with
   | some (n,cs)=>if n=cs.length then (bytesOf cs).map .str else Option.none
   | _=>Option.none
 | .app sz bytes s x=>match L s with
   | .nils=>match slCells S (L x) with
     | some (n,cs)=>if n*sz=cs.length/\n*bytes<=lim/\n<=lim/\cs.all PV.free/\0<sz then some (mkOwn sz n cs) else Option.none
     | _=>Option.none
   | _=>Option.none
 | _=>Option.none
mutual
def purge1(f:Nat->List Nat->Bool):PV->PV
 | .ref r p i m=>if f r p then .none else .ref r p i m
 | .view r p o n z=>if f r p then .none else .view r p o n z
 | .agg cs=>.agg (purgeL f cs)
 | .tup cs=>.tup (purgeL f cs)
 | .fn g cs=>.fn g (purgeL f cs)
 | v=>v
def purgeL(f:Nat->List Nat->Bool):List PV->List PV
 | []=>[]
 | c::cs=>purge1 f c::purgeL f cs
end
def und(r:Nat)(p:List Nat)(r':Nat)(p':List Nat):Bool:=r'==r&&p.isPrefixOf p'
def deep(r:Nat)(p:List Nat)(r':Nat)(p':List Nat):Bool:=r'==r&&p.isPrefixOf p'&&decide (p.length<p'.length)
def Env.purgeBy(f:Nat->List Nat->Bool):Env->Env
 | []=>[]
 | (k,v)::e=>(k,purge1 f v)::Env.purgeBy f e
def Env.purge(r:Nat)(p:List Nat)(e:Env):Env:=e.purgeBy (und r p)
def canUpd(e:Env)(r:Nat)(p:List Nat):Bool:=p.isEmpty||(refs (e.get r)).isEmpty
def share(e:Env)(r:Nat)(p:List Nat):Option Env:=
 (frz (e.sub r p)).map fun v=>(e.upd r p v).purge r p
def take1(e:Env):PV->Option (PV×Env)
 | .view r p off len z=>match e.sub r p with
   | .own sz n cs=>
     if z≠sz\/canUpd e r p=false then Option.none
     else if off=0/\len=n then some (.own sz n cs,(e.upd r p .none).purge r p)
     else if off+len*sz<=cs.length then
      match frzL ((cs.drop off).take (len*sz)),share e r p with
      | some ds,some e'=>some (.sl len ds,e')
      | _,_=>Option.none
     else Option.none
   | _=>Option.none
 | .ref r p 0 m=>match e.sub r p with
   | .box cs=>if canUpd e r p=true/\0<m/\0<cs.length then some (.box cs,(e.upd r p .none).purge r p) else Option.none
   | _=>Option.none
 | v=>if v.free then some (v,e) else Option.none
def copy1(e:Env):PV->Option (PV×Env)
 | .view r p off len z=>match e.sub r p with
   | .own sz _ cs=>
     if z=sz/\canUpd e r p=true/\off+len*sz<=cs.length then
      match frzL ((cs.drop off).take (len*sz)),share e r p with
      | some ds,some e'=>some (.sl len ds,e')
      | _,_=>Option.none
     else Option.none
   | _=>Option.none
 | v=>if v.free then some (v,e) else Option.none
def purges:List (Nat×List Nat)->PV->PV
 | [],c=>c
 | q::l,c=>purge1 (und q.1 q.2) (purges l c)
def waysOf:PV->List (Nat×List Nat)
 | .ref ..=>[]
 | v=>refs v
def copyL:Env->List (Nat×List Nat)->List PV->Option (List PV×Env)
 | e,_,[]=>some ([],e)
 | e,l,c::cs=>match copy1 e (purges l c) with
   | some (x,e')=>match copyL e' (refs (purges l c)++l) cs with
     | some (xs,e'')=>some (x::xs,e'')
     | _=>Option.none
   | _=>Option.none
def takeL:Env->List (Nat×List Nat)->List PV->Option (List PV×Env)
 | e,_,[]=>some ([],e)
 | e,l,c::cs=>match take1 e (purges l c) with
   | some (x,e')=>match takeL e' (refs (purges l c)++l) cs with
     | some (xs,e'')=>some (x::xs,e'')
     | _=>Option.none
   | _=>Option.none
def pass1(e:Env):PV->Option (PV×Env)
 | .agg ds=>(copyL e [] ds).map fun (x,e')=>(.agg x,e')
 | .fn f ds=>if ds.all PV.free then some (.fn f ds,e) else Option.none
 | .ref r p i m=>some (.ref r p i m,e)
 | v=>copy1 e v
def passL:Env->List (Nat×List Nat)->List PV->Option (List PV×Env)
 | e,_,[]=>some ([],e)
 | e,l,c::cs=>match pass1 e (purges l c) with
   | some (x,e')=>match passL e' (waysOf (purges l c)++l) cs with
     | some (xs,e'')=>some (x::xs,e'')
     | _=>Option.none
   | _=>Option.none
def refAt:List PV->Option (Nat×Nat×List Nat×Nat)
 | []=>Option.none
 | .ref r p 0 m::_=>some (0,r,p,m)
 | _::cs=>(refAt cs).map fun (k,q)=>(k+1,q)
def setCells:List PV->Nat->List PV->List PV
 | cs,_,[]=>cs
 | cs,i,y::ys=>setCells (cs.set i y) (i+1) ys
def putObj(e:Env)(r:Nat)(p:List Nat)(cs:List PV):Env:=
 match e.sub r p with
 | .own s n _=>e.upd r p (.own s n cs)
 | _=>e.upd r p (.box cs)
def Env.setD(e:Env)(d:Nat)(v:PV):Env:=(e.purge d []).set d v
def isT:XO->Nat->Bool
 | .t n,r=>n==r
 | _,_=>false
def setO(e:Env):Option Nat->PV->Env
 | some d,v=>e.setD d v
 | Option.none,_=>e
def rowAt(e:Env)(muts:List Nat)(vs:List PV):Option (Nat×Nat×List Nat×Nat×Nat×List PV):=
 match muts with
 | []=>Option.none
 | k::_=>match vs[k]? with
   | some (.view q p off len z)=>match e.sub q p with
     | .own sz n cs=>if off=0/\len=n/\z=sz then some (k,q,p,sz,n,cs) else Option.none
     | _=>Option.none
   | _=>Option.none
def packL(e:Env)(cs:List PV):Option (List PV×Env):=
 match copyL e [] cs with
 | some (ys,e')=>some (ys.map norm1,e')
 | Option.none=>takeL e [] cs
def evS(C:Calls')(e:Env)(dst:Option Nat):XOp->Option Env
 | .asg x=>match dst with
   | some d=>match look e x with
     | .agg cs=>(takeL e [] cs).map fun (ys,e')=>e'.setD d (.agg ys)
     | .view r p off len z=>
       if r=d/\p=[] then
        match e.get d with
        | .own sz n cs=>
          if z≠sz then Option.none
          else if off=0/\len*sz<=cs.length then some (e.setD d (.own sz len (cs.take (len*sz))))
          else if off+len*sz<=cs.length then (frzL ((cs.drop off).take (len*sz))).map fun ds=>e.setD d (.sl len ds)
          else Option.none
        | _=>Option.none
       else (take1 e (.view r p off len z)).map fun (v,e')=>e'.setD d v
     | .ref r p i m=>
       if isT x r then (take1 e (.ref r p i m)).map fun (v,e')=>e'.setD d v
       else if r=d then Option.none else some (e.setD d (.ref r p i m))
     | .fn f cs=>some (e.setD d (purge1 (und d []) (.fn f cs)))
     | .sp cs=>some (e.setD d (.sp cs))
     | v=>(take1 e v).map fun (v,e')=>e'.setD d v
   | _=>Option.none
 | .box x=>match dst with
   | some d=>(takeL e [] (cells (look e x))).map fun (ys,e')=>e'.setD d (.box ys)
   | _=>Option.none
 | .store sz a x=>match look e a with
   | .ref r p i _=>
     match takeL e [] (cells (look e x)) with
     | some (ys,e')=>match objCells (e'.sub r p) with
       | some cs=>if ys.length=sz/\i+sz<=cs.length/\0<sz/\canUpd e' r p=true then
          some ((putObj e' r p (setCells cs i ys)).purgeBy (deep r p))
         else Option.none
       | _=>Option.none
     | _=>Option.none
   | _=>Option.none
 | .bsl sz len _ ps=>match dst with
   | some d=>match ps with
     | [(off,sz',x)]=>
       if off=0/\len=1/\sz'=sz/\(cells (look e x)).length=sz then (packL e (cells (look e x))).map fun (ys,e')=>e'.setD d (.own sz 1 ys) else Option.none
     | _=>Option.none
   | _=>Option.none
 | .app sz bytes s x=>match dst with
   | some d=>match look e s with
     | .view r p off len z=>match e.sub r p with
       | .own sz' n cs=>match slCells e.sub (look e x) with
         | some (m,new)=>
           if off=0/\sz'=sz/\z=sz/\len<=n/\len*sz<=cs.length/\m*sz=new.length/\(len+m)*bytes<=lim/\len+m<=lim/\new.all PV.free/\r≠d/\canUpd e r p=true/\0<sz then
            some (((e.upd r p .none).purge r p).setD d (.own sz (len+m) (cs.take (len*sz)++new)))
           else Option.none
         | _=>Option.none
       | _=>Option.none
     | _=>Option.none
   | _=>Option.none
 | .ext x i=>match dst with
   | some d=>match x with
     | .t n=>match e.get n with
       | .tup vs=>match vs[i]? with
         | some v=>if n≠d/\canUpd e n [i]=true/\v.isNone=false then some (((e.upd n [i] .none).purge n [i]).setD d v) else Option.none
         | _=>Option.none
       | _=>Option.none
     | _=>Option.none
   | _=>Option.none
 | .call f args muts=>
   match rowAt e muts (args.map (look e)) with
   | some (k,q,p,sz,n,cs)=>
     if canUpd e q p=true/\((args.map (look e)).set k (.own sz n cs)).all (fun w=>(refs w).isEmpty) then
      match C f ((args.map (look e)).set k (.own sz n cs)) with
      | some (r,outs)=>match outs[k]? with
        | some (.own sz' n' ds)=>if sz'=sz/\n'=n then some (setO ((e.upd q p (.own sz n ds)).purge q p) dst r) else Option.none
        | _=>Option.none
      | _=>Option.none
     else Option.none
   | Option.none=>
   match passL e [] (args.map (look e)) with
   | some (ws,e1)=>match refAt ws with
     | Option.none=>if ws.all (fun w=>(refs w).isEmpty) then (match C f ws with
       | some (r,_)=>some (setO e1 dst r)
       | _=>Option.none) else Option.none
     | some (k,q,p,m)=>match e1.sub q p with
       | .box cs=>if 0<cs.length/\0<m/\canUpd e1 q p=true/\(ws.set k (.box cs)).all (fun w=>(refs w).isEmpty) then
          match C f (ws.set k (.box cs)) with
          | some (r,outs)=>match outs[k]? with
            | some (.box ds)=>some (setO ((e1.upd q p (.box ds)).purge q p) dst r)
            | _=>Option.none
          | _=>Option.none
         else Option.none
       | _=>Option.none
   | _=>Option.none
 | _=>Option.none
def stepP(C:Calls')(S:Subs)(e:Env)(o:XI):Option Env:=
 match evP C (look e) S o.op with
 | some v=>match o.dst with
   | some d=>some (e.setD d (purge1 (und d []) v))
   | Option.none=>Option.none
 | Option.none=>Option.none
def wantsG(g:Nat->PV):Option (Nat×Bool)->Option Bool
 | Option.none=>some true
 | some (d,want)=>match g d with
   | .bool b=>some (b==want)
   | .tup []=>some false
   | _=>Option.none
def wants(e:Env)(o:XI):Option Bool:=wantsG e.get o.guard
def skipped(e:Env)(o:XI):Env:=
 match o.dst with
 | some d=>e.setD d (.tup [])
 | Option.none=>e
def blocked(C:Calls')(L:XO->PV)(S:Subs):XOp->Bool
 | .call f args []=>match lendL S (args.map L) with
   | some ws=>(C f ws).isNone
   | Option.none=>false
 | _=>false
def step(C:Calls')(e:Env)(o:XI):Option Env:=
 match wants e o with
 | some true=>match stepP C e.sub e o with
   | some e'=>some e'
   | Option.none=>if blocked C (look e) e.sub o.op then Option.none else evS C e o.dst o.op
 | some false=>some (skipped e o)
 | Option.none=>Option.none
def steps(C:Calls'):Env->List XI->Option Env
 | e,[]=>some e
 | e,o::r=>match step C e o with
   | some e'=>steps C e' r
   | Option.none=>Option.none
def stepD(C:Calls')(S:Subs)(ds:List Nat)(e:Env)(o:XI):Option (Nat×PV):=
 match o.dst with
 | some d=>match wants e o with
    | some true=>match evP C (look e) S o.op with
      | some v=>if noRefs ds v then some (d,v) else Option.none
      | Option.none=>Option.none
    | some false=>some (d,.tup [])
    | Option.none=>Option.none
 | Option.none=>Option.none
def stepsD(C:Calls')(S:Subs)(ds:List Nat):Env->List XI->Option Env
 | e,[]=>some e
 | e,o::r=>if o.bar then (if r.all (·.bar) then steps C e (o::r) else Option.none)
   else match stepD C S ds e o with
    | some (d,v)=>match e.get d with
      | .none=>stepsD C S ds (e.set d v) r
      | _=>Option.none
    | Option.none=>Option.none
def dstsOf:List XI->List Nat
 | []=>[]
 | o::r=>if o.bar then [] else match o.dst with
   | some d=>d::dstsOf r
   | Option.none=>dstsOf r
def regD(C:Calls')(e:Env)(ops:List XI):Option Env:=
 let ds:=dstsOf ops
 if e.all (fun x=>noRefs ds x.2 && !ds.contains x.1) then stepsD C e.sub ds e ops else Option.none
inductive Ex where
 | norm|exit (id:Nat) | ret
 deriving DecidableEq,Inhabited
def fgt(k:List Nat)(x:Option (Ex×Env)):Option (Ex×Env):=
 match x with
 | some (.norm,e)=>some (.norm,e.keep k)
 | r=>r
def evC(C:Calls'):Nat->XC->Env->Option (Ex×Env)
 | 0,_,_=>Option.none
 | n+1,c,e=>
   match c with
   | .skip=>some (.norm,e)
   | .reg ops draw keep=>((if draw then regD C e ops else steps C e ops).map fun e'=>(.norm,e'.keep keep))
   | .seq a b=>match evC C n a e with
     | some (.norm,e')=>evC C n b e'
     | r=>r
   | .cond x a b k=>fgt k (match look e x with
     | .bool true=>evC C n a e
     | .bool false=>evC C n b e
     | _=>Option.none)
   | .block id b k=>fgt k (match evC C n b e with
     | some (.exit id',e')=>if id'=id then some (.norm,e') else some (.exit id',e')
     | r=>r)
   | .loop b k=>match fgt k (evC C n b e) with
     | some (.norm,e')=>evC C n (.loop b k) e'
     | r=>r
   | .exit id k=>some (.exit id,e.keep k)
   | .ret=>some (.ret,e)
def normA:PV->PV
 | .agg cs=>.agg (cs.map norm1)
 | v=>norm1 v
def argsIn(nk:Bool)(ws:List PV):List PV:=if nk then ws else ws.map normA
def give(keep:Bool)(e:Env):PV->Option (PV×Env)
 | .agg cs=>(copyL e [] cs).map fun (ys,e')=>(.agg (ys.map norm1),e')
 | .ref r p i m=>take1 e (.ref r p i m)
 | .view r p o n z=>if keep then take1 e (.view r p o n z) else copy1 e (.view r p o n z)
 | .nils=>if keep then some (.nils,e) else some (.sl 0 [],e)
 | v=>if v.free then some (v,e) else Option.none
def resVal(e:Env):XR->Option PV
 | .tmp t=>some (look e (.t t))
 | .cell t agg sz=>match look e (.t t) with
   | .ref r p i m=>match objCells (e.sub r p) with
     | some cs=>if i+sz<=cs.length/\0<m then
        (if agg then some (.agg (alL r p i ((cs.drop i).take sz))) else (cs[i]?).map (al r (p++[i])))
       else Option.none
     | _=>Option.none
   | _=>Option.none
def resL(keep:Bool):Env->List XR->Option (List PV×Env)
 | e,[]=>some ([],e)
 | e,x::r=>match resVal e x with
   | some v=>match give keep e v with
     | some (y,e')=>match resL keep e' r with
       | some (ys,e'')=>some (y::ys,e'')
       | _=>Option.none
     | _=>Option.none
   | _=>Option.none
def boxOnly:PV->PV
 | .box cs=>.box cs
 | .own sz n cs=>.own sz n cs
 | _=>.none
def outsOf(prot:List Nat)(e:Env):Nat->List PV->List PV
 | _,[]=>[]
 | i,a::as=>(if prot.contains i then boxOnly (e.get i) else .none)::outsOf prot e (i+1) as
def params:Nat->List PV->Env
 | _,[]=>[]
 | i,v::r=>(i,v)::params (i+1) r
def tupOf:List PV->PV
 | [v]=>v
 | vs=>.tup vs
def intsOf:List PV->Option (List Int)
 | []=>some []
 | .int .i64 n::r=>(intsOf r).map (n :: ·)
 | _=>Option.none
def extSem(k:Nat)(ws:List PV):Option (PV×List PV):=
 match k,ws with
 | 0,[.own sz n cs]=>if sz=1/\n<=lim then (intsOf cs).map fun zs=>(.tup [],[.own 1 n (zs.reverse.map (PV.int .i64))]) else Option.none
 | 0,[.nils]=>some (.tup [],[.none])
 | _,_=>Option.none
def evF(T:Nat->Option XF):Nat->Calls'
 | 0,_,_=>Option.none
 | n+1,f,args=>
   match T f with
   | some x=>match x.ext with
     | some k=>extSem k args
     | Option.none=>
       if args.length=x.np then
        match evC (evF T n) n x.body (params 0 (argsIn x.nk args)) with
        | some (.exit _,_)=>Option.none
        | some (_,e)=>(resL x.keep e x.res).map fun (vs,e')=>(tupOf vs,outsOf x.prot e' 0 args)
        | _=>Option.none
       else Option.none
   | _=>Option.none
open Go
inductive Lab where
 | out
 | sh
 | own (r:Nat) (p:List Nat) (i:Nat)
abbrev LM:=Nat->Nat->Lab
abbrev Hd:=Option (Nat×List Nat)
def Hd.snoc:Hd->Nat->Hd
 | .none,_=>.none
 | some (r,p),i=>some (r,p++[i])
def cv(w:World)(b j:Nat):Value:=(w.cell? ⟨b,j,Option.none⟩).getD undef
def PV.cok:PV->Bool
 | .ref .. | .view .. | .agg _ | .tup _ | .fn ..=>false
 | _=>true
inductive RepV (w:World) (L:LM):Hd->PV->Value->Prop
 | none (h:Hd) (v:Value):RepV w L h .none v
 | bool (h:Hd) (b:Bool):RepV w L h (.bool b) (.bool b)
 | int (h:Hd) (k:IntKind) (n:Int):RepV w L h (.int k n) (.int k n)
 | str (h:Hd) (s:ByteArray) (l:List UInt8) (e:s.data.toList=l):RepV w L h (.str l) (.string s)
 | nilp (h:Hd):RepV w L h .nilp (.pointer Option.none)
 | nils (h:Hd) (a:Option Addr):RepV w L h .nils (.slice a 0 0)
 | nilf (h:Hd):RepV w L h .nilf .nilFunc
 | ref (h:Hd) (r:Nat) (p:List Nat) (i n b j:Nat) (hp:0<n) (e:∀k,k<n->L b (j+k) = .own r p (i+k)):RepV w L h (.ref r p i n) (.pointer (some ⟨b,j,Option.none⟩))
 | view (h:Hd) (r:Nat) (p:List Nat) (off len sz b cap:Nat) (hl:len<=cap) (hp:0<off+cap*sz) (e:∀j,j<off+cap*sz->L b j = .own r p j):
    RepV w L h (.view r p off len sz) (.slice (some ⟨b,off,Option.none⟩) len cap)
 | box (r:Nat) (p:List Nat) (cs:List PV) (b o:Nat) (ho:∀i,i<cs.length->L b (o+i) = .own r p i)
    (hk:∀i (hi:i<cs.length),cs[i].cok=true)
    (hc:∀i (hi:i<cs.length),RepV w L (some (r,p++[i])) cs[i] (cv w b (o+i))):RepV w L (some (r,p)) (.box cs) (.pointer (some ⟨b,o,Option.none⟩))
 | own (r:Nat) (p:List Nat) (sz len:Nat) (cs:List PV) (b cap:Nat) (hn:cs.length=len*sz) (hl:len<=cap) (hp:0<cap*sz)
    (ho:∀j,j<cap*sz->L b j = .own r p j)
    (hk:∀i (hi:i<cs.length),cs[i].cok=true)
    (hc:∀i (hi:i<cs.length),RepV w L (some (r,p++[i])) cs[i] (cv w b i)):RepV w L (some (r,p)) (.own sz len cs) (.slice (some ⟨b,0,Option.none⟩) len cap)
 | sl (h:Hd) (len:Nat) (cs:List PV) (b o cap:Nat) (hl:len<=cap) (hs:∀i,i<cs.length->L b (o+i) = .sh)
    (hk:∀i (hi:i<cs.length),cs[i].cok=true)
    (hc:∀i (hi:i<cs.length),RepV w L Option.none cs[i] (cv w b (o+i))):RepV w L h (.sl len cs) (.slice (some ⟨b,o,Option.none⟩) len cap)
 | sl0 (h:Hd) (a:Option Addr) (cap:Nat):RepV w L h (.sl 0 []) (.slice a 0 cap)
 | sp (h:Hd) (cs:List PV) (b o:Nat) (hs:∀i,i<cs.length->L b (o+i) = .sh)
    (hk:∀i (hi:i<cs.length),cs[i].cok=true)
    (hc:∀i (hi:i<cs.length),RepV w L Option.none cs[i] (cv w b (o+i))):RepV w L h (.sp cs) (.pointer (some ⟨b,o,Option.none⟩))
 | agg (h:Hd) (cs:List PV) (vs:Array Value) (hz:vs.size=cs.length)
    (hc:∀i (hi:i<cs.length),RepV w L (h.snoc i) cs[i] (vs.getD i undef)):RepV w L h (.agg cs) (.agg vs)
 | tup (h:Hd) (cs:List PV) (vs:Array Value) (hz:vs.size=cs.length)
    (hc:∀i (hi:i<cs.length),RepV w L (h.snoc i) cs[i] (vs.getD i undef)):RepV w L h (.tup cs) (.tuple vs)
 | fn (h:Hd) (f:Nat) (caps:List PV) (vs:Array Value) (hz:vs.size=caps.length)
    (hc:∀i (hi:i<caps.length),RepV w L (h.snoc i) caps[i] (vs.getD i undef)):RepV w L h (.fn f caps) (.func (.func f) #[] vs)
def Relv(h:Hd)(l:Lab):Prop:=l = .sh\/∃r p s i,h=some (r,p)/\l = .own r (p++s) i
theorem Relv.snoc{h:Hd}{i:Nat}{l:Lab}(hr:Relv (h.snoc i) l):Relv h l:=by
 rcases hr with hr|⟨r,p,s,k,he,hl⟩
 ·exact .inl hr
 ·cases h with
  | none=>cases he
  | some q=>
    obtain⟨r',p'⟩:=q
    simp only[Hd.snoc,Option.some.injEq,Prod.mk.injEq] at he
    obtain⟨rfl,rfl⟩:=he
    exact .inr ⟨_,_,i::s,k,rfl,by simpa using hl⟩
theorem Relv.shared{l:Lab}(h:Relv Option.none l):l = .sh:=by
 rcases h with h|⟨_,_,_,_,he,_⟩
 ·exact h
 ·cases he
theorem cv_eq{w w':World}{b j:Nat}(h:w'.cell? ⟨b,j,Option.none⟩=w.cell? ⟨b,j,Option.none⟩):cv w' b j=cv w b j:=by
 simp[cv,h]
theorem mem_refsL{cs:List PV}{q}(i:Nat)(hi:i<cs.length)(h:q∈refs cs[i]):q∈refsL cs:=by
 induction cs generalizing i with
 | nil=>cases hi
 | cons c cs ih=>
   simp only[refsL,List.mem_append]
   cases i with
   | zero=>exact .inl h
   | succ i=>exact .inr (ih i (by simpa using hi) h)
theorem refs_cok{v:PV}(h:v.cok=true):refs v=[]:=by
 cases v<;>simp_all [PV.cok,refs]
theorem RepV.frame{w w':World}{L L':LM}{h:Hd}{pv:PV}{v:Value}(H:RepV w L h pv v)
 (hL:∀b j,Relv h (L b j)->L' b j=L b j)(hR:∀q∈refs pv,∀b j i,L b j = .own q.1 q.2 i->L' b j=L b j)
 (hw:∀b j,Relv h (L b j)->w'.cell? ⟨b,j,Option.none⟩=w.cell? ⟨b,j,Option.none⟩):RepV w' L' h pv v:=by
 induction H with
 | none h v=>exact .none _ _
 | bool h b=>exact .bool _ _
 | int h k n=>exact .int _ _ _
 | str h s l e=>exact .str _ _ _ e
 | nilp h=>exact .nilp _
 | nils h a=>exact .nils _ _
 | nilf h=>exact .nilf _
 | ref h r p i n b j hp e=>exact .ref _ _ _ _ _ _ _ hp fun k hk=>by rw[hR (r,p) (by simp[refs]) b _ _ (e k hk),e k hk]
 | view h r p off len sz b cap hl hp e=>exact .view _ _ _ _ _ _ _ _ hl hp fun j hj=>by rw[hR (r,p) (by simp[refs]) b j j (e j hj),e j hj]
 | box r p cs b o ho hk hc ih=>
   have rel:∀i,i<cs.length->Relv (some (r,p)) (L b (o+i)):=fun i hi=>.inr ⟨r,p,[],i,rfl,by simpa using ho i hi⟩
   refine .box _ _ _ _ _ (fun i hi=>by rw[hL _ _ (rel i hi),ho i hi]) hk fun i hi=>?_
   rw[cv_eq (hw b (o+i) (rel i hi))]
   exact ih i hi (fun b j hr=>hL b j (Relv.snoc (h:=some (r,p)) hr)) (by simp[refs_cok (hk i hi)]) fun b j hr=>hw b j (Relv.snoc (h:=some (r,p)) hr)
 | own r p sz len cs b cap hn hl hp ho hk hc ih=>
   have hb:∀i,i<cs.length->i<cap*sz:=fun i hi=>Nat.lt_of_lt_of_le hi (by rw[hn];exact Nat.mul_le_mul_right _ hl)
   have rel:∀i,i<cap*sz->Relv (some (r,p)) (L b i):=fun i hi=>.inr ⟨r,p,[],i,rfl,by simpa using ho i hi⟩
   refine .own _ _ _ _ _ _ _ hn hl hp (fun j hj=>by rw[hL _ _ (rel j hj),ho j hj]) hk fun i hi=>?_
   rw[cv_eq (hw b i (rel i (hb i hi)))]
   exact ih i hi (fun b j hr=>hL b j (Relv.snoc (h:=some (r,p)) hr)) (by simp[refs_cok (hk i hi)]) fun b j hr=>hw b j (Relv.snoc (h:=some (r,p)) hr)
 | sl h len cs b o cap hl hs hk hc ih=>
   refine .sl _ _ _ _ _ _ hl (fun i hi=>by rw[hL _ _ (.inl (hs i hi)),hs i hi]) hk fun i hi=>?_
   rw[cv_eq (hw b (o+i) (.inl (hs i hi)))]
   exact ih i hi (fun b j hr=>hL b j (.inl hr.shared)) (by simp[refs_cok (hk i hi)]) fun b j hr=>hw b j (.inl hr.shared)
 | sl0 h a cap=>exact .sl0 _ _ _
 | sp h cs b o hs hk hc ih=>
   refine .sp _ _ _ _ (fun i hi=>by rw[hL _ _ (.inl (hs i hi)),hs i hi]) hk fun i hi=>?_
   rw[cv_eq (hw b (o+i) (.inl (hs i hi)))]
   exact ih i hi (fun b j hr=>hL b j (.inl hr.shared)) (by simp[refs_cok (hk i hi)]) fun b j hr=>hw b j (.inl hr.shared)
 | agg h cs vs hz hc ih=>exact .agg _ _ _ hz fun i hi=>ih i hi (fun b j hr=>hL b j hr.snoc) (fun q hq=>hR q (by simpa[refs] using mem_refsL i hi hq)) fun b j hr=>hw b j hr.snoc
 | tup h cs vs hz hc ih=>exact .tup _ _ _ hz fun i hi=>ih i hi (fun b j hr=>hL b j hr.snoc) (fun q hq=>hR q (by simpa[refs] using mem_refsL i hi hq)) fun b j hr=>hw b j hr.snoc
 | fn h f cs vs hz hc ih=>exact .fn _ _ _ _ hz fun i hi=>ih i hi (fun b j hr=>hL b j hr.snoc) (fun q hq=>hR q (by simpa[refs] using mem_refsL i hi hq)) fun b j hr=>hw b j hr.snoc
def Goes(σ:Lab->Lab)(h h':Hd):Prop:=
 match h,h' with
 | some (r,p),some (r',p')=>∀s i,σ (.own r (p++s) i) = .own r' (p'++s) i
 | .none,.none=>True
 | _,_=>False
theorem Goes.snoc{σ:Lab->Lab}{h h':Hd}(g:Goes σ h h')(i:Nat):Goes σ (h.snoc i) (h'.snoc i):=by
 cases h with
 | none=>cases h' with
   | none=>trivial
   | some q=>exact g.elim
 | some q=>cases h' with
   | none=>exact g.elim
   | some q'=>
     obtain⟨r,p⟩:=q
     obtain⟨r',p'⟩:=q'
     intro s k
     have:=g (i::s) k
     simpa using this
theorem RepV.move{w:World}{L:LM}{h:Hd}{pv:PV}{v:Value}(H:RepV w L h pv v){σ:Lab->Lab}{h':Hd}(hsh:σ .sh = .sh)(g:Goes σ h h')
 (hr:∀q∈refs pv,∀i,σ (.own q.1 q.2 i) = .own q.1 q.2 i):RepV w (fun b j=>σ (L b j)) h' pv v:=by
 induction H generalizing h' with
 | none h v=>exact .none _ _
 | bool h b=>exact .bool _ _
 | int h k n=>exact .int _ _ _
 | str h s l e=>exact .str _ _ _ e
 | nilp h=>exact .nilp _
 | nils h a=>exact .nils _ _
 | nilf h=>exact .nilf _
 | ref h r p i n b j hp e=>exact .ref _ _ _ _ _ _ _ hp fun k hk=>by simp only[e k hk];exact hr (r,p) (by simp[refs]) _
 | view h r p off len sz b cap hl hp e=>exact .view _ _ _ _ _ _ _ _ hl hp fun j hj=>by simp only[e j hj];exact hr (r,p) (by simp[refs]) j
 | box r p cs b o ho hk hc ih=>
   cases h' with
   | none=>exact g.elim
   | some q=>
     obtain⟨r',p'⟩:=q
     refine .box _ _ _ _ _ (fun i hi=>?_) hk fun i hi=>ih i hi (g.snoc i) (by simp[refs_cok (hk i hi)])
     simp only[ho i hi]
     have:=g [] i
     simpa using this
 | own r p sz len cs b cap hn hl hp ho hk hc ih=>
   cases h' with
   | none=>exact g.elim
   | some q=>
     obtain⟨r',p'⟩:=q
     refine .own _ _ _ _ _ _ _ hn hl hp (fun j hj=>?_) hk fun i hi=>ih i hi (g.snoc i) (by simp[refs_cok (hk i hi)])
     simp only[ho j hj]
     have:=g [] j
     simpa using this
 | sl h len cs b o cap hl hs hk hc ih=>exact .sl _ _ _ _ _ _ hl (fun i hi=>by simp only[hs i hi,hsh]) hk fun i hi=>ih i hi (h':=Option.none) trivial (by simp[refs_cok (hk i hi)])
 | sl0 h a cap=>exact .sl0 _ _ _
 | sp h cs b o hs hk hc ih=>exact .sp _ _ _ _ (fun i hi=>by simp only[hs i hi,hsh]) hk fun i hi=>ih i hi (h':=Option.none) trivial (by simp[refs_cok (hk i hi)])
 | agg h cs vs hz hc ih=>exact .agg _ _ _ hz fun i hi=>ih i hi (g.snoc i) fun q hq=>hr q (by simpa[refs] using mem_refsL i hi hq)
 | tup h cs vs hz hc ih=>exact .tup _ _ _ hz fun i hi=>ih i hi (g.snoc i) fun q hq=>hr q (by simpa[refs] using mem_refsL i hi hq)
 | fn h f cs vs hz hc ih=>exact .fn _ _ _ _ hz fun i hi=>ih i hi (g.snoc i) fun q hq=>hr q (by simpa[refs] using mem_refsL i hi hq)
theorem RepV.congr{w:World}{L L':LM}{h:Hd}{pv:PV}{v:Value}(H:RepV w L h pv v)(e:∀b j,L' b j=L b j):RepV w L' h pv v:=
 H.frame (fun b j _=>e b j) (fun _ _ b j _ _=>e b j) fun _ _ _=>rfl
theorem frzL_length{cs ds:List PV}(h:frzL cs=some ds):ds.length=cs.length:=by
 induction cs generalizing ds with
 | nil=>simp[frzL] at h;subst h;rfl
 | cons c cs ih=>
   simp only[frzL] at h
   split at h
   ·rename_i x xs _ hx
    obtain rfl:=Option.some.inj h
    simp[ih hx]
   ·cases h
theorem frzL_get{cs ds:List PV}(h:frzL cs=some ds)(i:Nat)(hi:i<cs.length)(hi':i<ds.length):frz cs[i]=some ds[i]:=by
 induction cs generalizing ds i with
 | nil=>cases hi
 | cons c cs ih=>
   simp only[frzL] at h
   split at h
   ·rename_i x xs hc hx
    obtain rfl:=Option.some.inj h
    cases i with
    | zero=>simpa using hc
    | succ i=>simpa using ih hx i (by simpa using hi) (by simpa using hi')
   ·cases h
theorem frz_cok{v x:PV}(h:frz v=some x)(hk:v.cok=true):x.cok=true:=by
 cases v<;>simp_all [frz,PV.cok] <;> first | (subst h;rfl) | (obtain⟨a,_,rfl⟩:=h;rfl)
theorem RepV.share{w:World}{L:LM}{h:Hd}{pv:PV}{v:Value}(H:RepV w L h pv v){σ:Lab->Lab}(hsh:σ .sh = .sh)
 (g:∀r p,h=some (r,p)->∀s i,σ (.own r (p++s) i) = .sh){x:PV}(hx:frz pv=some x)(h':Hd):RepV w (fun b j=>σ (L b j)) h' x v:=by
 have gs:∀{h:Hd},(∀r p,h=some (r,p)->∀s i,σ (.own r (p++s) i) = .sh)->∀i,∀r p,h.snoc i=some (r,p)->∀s k,σ (.own r (p++s) k) = .sh:=by
  intro h g i r p e s k
  cases h with
  | none=>cases e
  | some q=>
    obtain⟨r',p'⟩:=q
    simp only[Hd.snoc,Option.some.injEq,Prod.mk.injEq] at e
    obtain⟨rfl,rfl⟩:=e
    simpa using g r' p' rfl (i::s) k
 induction H generalizing x h' with
 | none h v=>simp[frz] at hx
 | bool h b=>simp[frz] at hx;subst hx;exact .bool _ _
 | int h k n=>simp[frz] at hx;subst hx;exact .int _ _ _
 | str h s l e=>simp[frz] at hx;subst hx;exact .str _ _ _ e
 | nilp h=>simp[frz] at hx;subst hx;exact .nilp _
 | nils h a=>
   simp[frz] at hx;subst hx
   exact .sl0 _ _ _
 | nilf h=>simp[frz] at hx;subst hx;exact .nilf _
 | ref h r p i n b j hp e=>simp[frz] at hx
 | view h r p off len sz b cap hl hp e=>simp[frz] at hx
 | box r p cs b o ho hk hc ih=>simp[frz] at hx
 | own r p sz len cs b cap hn hl hp ho hk hc ih=>
   simp only[frz,Option.map_eq_some_iff] at hx
   obtain⟨ds,hd,rfl⟩:=hx
   have hlen:=frzL_length hd
   have hb:∀i,i<cs.length->i<cap*sz:=fun i hi=>Nat.lt_of_lt_of_le hi (by rw[hn];exact Nat.mul_le_mul_right _ hl)
   refine .sl _ _ _ _ 0 _ hl (fun i hi=>?_) (fun i hi=>frz_cok (frzL_get hd i (by omega) hi) (hk i (by omega))) fun i hi=>?_
   ·have:=g r p rfl [] i
    simp only[Nat.zero_add,ho i (hb i (by omega))]
    simpa using this
   ·rw[Nat.zero_add]
    exact ih i (by omega) (gs (h:=some (r,p)) g i) (frzL_get hd i (by omega) hi) Option.none
 | sl h len cs b o cap hl hs hk hc ih=>
   simp[frz] at hx;subst hx
   exact .sl _ _ _ _ _ _ hl (fun i hi=>by simp only[hs i hi,hsh]) hk fun i hi=>(hc i hi).move (h':=Option.none) hsh trivial (by simp[refs_cok (hk i hi)])
 | sl0 h a cap=>simp[frz] at hx;subst hx;exact .sl0 _ _ _
 | sp h cs b o hs hk hc ih=>
   simp[frz] at hx;subst hx
   exact .sp _ _ _ _ (fun i hi=>by simp only[hs i hi,hsh]) hk fun i hi=>(hc i hi).move (h':=Option.none) hsh trivial (by simp[refs_cok (hk i hi)])
 | agg h cs vs hz hc ih=>
   simp only[frz,Option.map_eq_some_iff] at hx
   obtain⟨ds,hd,rfl⟩:=hx
   have hlen:=frzL_length hd
   exact .agg _ _ _ (by omega) fun i hi=>ih i (by omega) (gs g i) (frzL_get hd i (by omega) hi) _
 | tup h cs vs hz hc ih=>
   simp only[frz,Option.map_eq_some_iff] at hx
   obtain⟨ds,hd,rfl⟩:=hx
   have hlen:=frzL_length hd
   exact .tup _ _ _ (by omega) fun i hi=>ih i (by omega) (gs g i) (frzL_get hd i (by omega) hi) _
 | fn h f cs vs hz hc ih=>simp[frz] at hx
open Go
def inMem:PV->Bool
 | .box _ | .own ..=>true
 | _=>false
theorem RepV.kid{w:World}{L:LM}{r:Nat}{q:List Nat}{T:PV}{v:Value}(H:RepV w L (some (r,q)) T v){i:Nat}{c:PV}(hi:(kids T)[i]? = some c):
 ∃u,RepV w L (some (r,q++[i])) c u:=by
 obtain⟨hlt,rfl⟩:=List.getElem?_eq_some_iff.1 hi
 cases H <;> simp only[kids] at hi hlt ⊢ <;> first
  | (simp at hlt;done)
  | (rename_i hc;exact⟨_,hc i hlt⟩)
theorem RepV.kid_put{w w':World}{L L':LM}{r:Nat}{q:List Nat}{T:PV}{v:Value}(H:RepV w L (some (r,q)) T v){i:Nat}{c x:PV}(hi:(kids T)[i]? = some c)(hx:inMem T=true->x.cok=true)
 (new:∀u,RepV w L (some (r,q++[i])) c u->RepV w' L' (some (r,q++[i])) x u)
 (hL:∀b j,(∃k,L b j = .own r q k)->L' b j=L b j)
 (hw:∀b j,(∃k,L b j = .own r q k)->w'.cell? ⟨b,j,Option.none⟩=w.cell? ⟨b,j,Option.none⟩)
 (old:∀k d u,k≠i->(kids T)[k]? = some d->RepV w L (some (r,q++[k])) d u->RepV w' L' (some (r,q++[k])) d u):
 RepV w' L' (some (r,q)) (setKid T i x) v:=by
 obtain⟨hlt,rfl⟩:=List.getElem?_eq_some_iff.1 hi
 have each:∀(cs:List PV) (f:Nat->Value),kids T=cs->(∀k (hk:k<cs.length),RepV w L (some (r,q++[k])) cs[k] (f k)) ->
  ∀k (hk:k<(cs.set i x).length),RepV w' L' (some (r,q++[k])) (cs.set i x)[k] (f k):=by
  rintro cs f rfl hf k hk
  have hk':k<(kids T).length:=by simpa using hk
  by_cases e:i=k
  ·subst e
   simp only[List.getElem_set_self]
   exact new _ (hf i hk')
  ·rw[List.getElem_set_ne e]
   exact old k _ _ (Ne.symm e) (List.getElem?_eq_getElem hk') (hf k hk')
 have cok':x.cok=true->∀(cs:List PV),(∀k (hk:k<cs.length),cs[k].cok=true)->∀k (hk:k<(cs.set i x).length),(cs.set i x)[k].cok=true:=by
  intro hx cs h k hk
  have hk':k<cs.length:=by simpa using hk
  by_cases e:i=k
  ·subst e;simpa using hx
  ·rw[List.getElem_set_ne e];exact h k hk'
 cases H with
 | box _ _ cs b o ho hk hc=>
   refine .box _ _ _ _ _ (fun k hk'=>?_) (cok' (hx rfl) cs hk) fun k hk'=>?_
   ·have:=ho k (by simpa using hk')
    rw[hL _ _ ⟨k,this⟩,this]
   ·rw[cv_eq (hw b (o+k) ⟨k,ho k (by simpa using hk')⟩)]
    exact each cs (fun k=>cv w b (o+k)) rfl hc k hk'
 | own _ _ sz len cs b cap hn hl hp ho hk hc=>
   have hb:∀i,i<cs.length->i<cap*sz:=fun i hi=>Nat.lt_of_lt_of_le hi (by rw[hn];exact Nat.mul_le_mul_right _ hl)
   refine .own _ _ _ _ _ _ _ (by simpa using hn) hl hp (fun k hk'=>?_) (cok' (hx rfl) cs hk) fun k hk'=>?_
   ·have:=ho k hk'
    rw[hL _ _ ⟨k,this⟩,this]
   ·rw[cv_eq (hw b k ⟨k,ho k (hb k (by simpa using hk'))⟩)]
    exact each cs (fun k=>cv w b k) rfl hc k hk'
 | agg _ cs vs hz hc=>exact .agg _ _ _ (by simpa using hz) fun k hk'=>each cs (fun k=>vs.getD k undef) rfl hc k hk'
 | tup _ cs vs hz hc=>exact .tup _ _ _ (by simpa using hz) fun k hk'=>each cs (fun k=>vs.getD k undef) rfl hc k hk'
 | _=>simp[kids] at hlt
theorem RepV.sub{w:World}{L:LM}{r:Nat}:∀(s:List Nat) {q:List Nat} {T:PV} {v:Value},RepV w L (some (r,q)) T v->hasP T s=true ->
 ∃u,RepV w L (some (r,q++s)) (Ab.sub T s) u
 | [],q,T,v,H,_=>⟨v,by simpa[Ab.sub] using H⟩
 | i::s,q,T,v,H,hp=>by
   simp only[hasP] at hp
   split at hp
   ·rename_i c hc
    obtain⟨u,hu⟩:=H.kid hc
    obtain⟨u',hu'⟩:=RepV.sub s hu hp
    exact⟨u',by simpa[Ab.sub,hc] using hu'⟩
   ·cases hp
theorem hasP_of_sub:∀(s:List Nat) (T:PV),Ab.sub T s ≠ .none->hasP T s=true
 | [],_,_=>rfl
 | i::s,T,h=>by
   simp only[Ab.sub,hasP] at *
   split
   ·rename_i c hc
    simp only[hc] at h
    exact hasP_of_sub s c h
   ·rename_i hc
    simp[hc] at h
theorem upd_cok:∀(s:List Nat) (T x:PV),T.cok=true->x.cok=true->(Ab.upd T s x).cok=true
 | [],_,_,_,hx=>hx
 | i::s,T,x,hT,hx=>by
   simp only[Ab.upd]
   split
   ·cases T<;>simp_all [setKid,PV.cok]
   ·exact hT
def Under(r:Nat)(p:List Nat)(l:Lab):Prop:=∃s i,l = .own r (p++s) i
theorem RepV.kid_refs{w:World}{L:LM}{h:Hd}{T:PV}{v:Value}(H:RepV w L h T v)(hr:refs T=[]){i:Nat}{c:PV}(hi:(kids T)[i]? = some c):refs c=[]:=by
 obtain⟨hlt,rfl⟩:=List.getElem?_eq_some_iff.1 hi
 have sub:∀cs:List PV,refsL cs=[]->∀k (hk:k<cs.length),refs cs[k]=[]:=by
  intro cs h0 k hk
  cases hq:refs cs[k] with
  | nil=>rfl
  | cons y ys=>have:=mem_refsL k hk (q:=y) (by rw[hq];simp);rw[h0] at this;cases this
 cases H with
 | box _ _ _ _ _ _ hk _=>exact refs_cok (hk i hlt)
 | own _ _ _ _ _ _ _ _ _ _ _ hk _=>exact refs_cok (hk i hlt)
 | agg _ cs _ _ _=>exact sub cs (by simpa[refs] using hr) i hlt
 | tup _ cs _ _ _=>exact sub cs (by simpa[refs] using hr) i hlt
 | _=>simp[kids] at hlt
theorem RepV.kid_cok{w:World}{L:LM}{h:Hd}{T:PV}{v:Value}(H:RepV w L h T v)(hm:inMem T=true){i:Nat}{c:PV}(hi:(kids T)[i]? = some c):c.cok=true:=by
 obtain⟨hlt,rfl⟩:=List.getElem?_eq_some_iff.1 hi
 cases H with
 | box _ _ _ _ _ _ hk _=>exact hk i hlt
 | own _ _ _ _ _ _ _ _ _ _ _ hk _=>exact hk i hlt
 | _=>simp[inMem] at hm
theorem RepV.repl{w w':World}{L L':LM}{r:Nat}:∀(s:List Nat) {q:List Nat} {T x:PV} {v:Value},RepV w L (some (r,q)) T v->hasP T s=true->(s≠[]->x.cok=true) ->
 (∀u,RepV w L (some (r,q++s)) (Ab.sub T s) u->RepV w' L' (some (r,q++s)) x u) ->
 (∀b j,Relv (some (r,q)) (L b j)->¬Under r (q++s) (L b j)->L' b j=L b j) ->
 (∀b j,Relv (some (r,q)) (L b j)->¬Under r (q++s) (L b j)->w'.cell? ⟨b,j,Option.none⟩=w.cell? ⟨b,j,Option.none⟩) ->
 (s≠[]->refs T=[]) ->
 RepV w' L' (some (r,q)) (Ab.upd T s x) v
 | [],q,T,x,v,H,_,_,new,_,_,_=>by simpa[Ab.upd] using new v (by simpa[Ab.sub] using H)
 | i::s,q,T,x,v,H,hp,hx,new,hL,hw,hrefs=>by
   have hx:=hx (by simp)
   have hrefs:=hrefs (by simp)
   simp only[hasP] at hp
   split at hp
   ·rename_i c hc
    simp only[Ab.upd,hc]
    have sub_eq:Ab.sub T (i::s)=Ab.sub c s:=by simp[Ab.sub,hc]
    rw[sub_eq] at new
    have notU:∀l,(∃k,l=Lab.own r q k)->¬Under r (q++i::s) l:=by
     rintro l ⟨k,rfl⟩ ⟨s',k',e⟩
     simp only[Lab.own.injEq] at e
     have:=congrArg List.length e.2.1
     simp at this
    have relq:∀l,(∃k,l=Lab.own r q k)->Relv (some (r,q)) l:=by
     rintro l ⟨k,rfl⟩;exact .inr ⟨r,q,[],k,rfl,by simp⟩
    refine H.kid_put hc (fun hm=>upd_cok _ _ _ (H.kid_cok hm hc) hx) (fun u hu=>?_) (fun b j hk=>hL b j (relq _ hk) (notU _ hk)) (fun b j hk=>hw b j (relq _ hk) (notU _ hk)) (fun k d u hk hd hu=>?_)
    ·exact RepV.repl s hu hp (fun _=>hx) (fun u hu=>by have:=new u (by simpa using hu);simpa using this)
      (fun b j hr hn=>hL b j (Relv.snoc (h:=some (r,q)) (i:=i) hr) (by simpa using hn))
      (fun b j hr hn=>hw b j (Relv.snoc (h:=some (r,q)) (i:=i) hr) (by simpa using hn))
      (fun _=>H.kid_refs hrefs hc)
    ·have nu':∀b j,Relv (some (r,q++[k])) (L b j)->¬Under r (q++i::s) (L b j):=by
      rintro b j hr ⟨s2,m2,e⟩
      rcases hr with hr|⟨r',p',s',m,he,hl⟩
      ·rw[hr] at e;cases e
      ·simp only[Option.some.injEq,Prod.mk.injEq] at he
       obtain⟨rfl,rfl⟩:=he
       rw[hl] at e
       simp only[Lab.own.injEq] at e
       have e2:=e.2.1
       simp only[List.append_assoc,List.append_cancel_left_eq,List.cons_append,List.nil_append,List.cons.injEq] at e2
       exact hk e2.1
     exact hu.frame (fun b j hr=>hL b j (Relv.snoc (h:=some (r,q)) (i:=k) hr) (nu' b j hr)) (by simp[H.kid_refs hrefs hd])
      (fun b j hr=>hw b j (Relv.snoc (h:=some (r,q)) (i:=k) hr) (nu' b j hr))
   ·cases hp
open Go
structure WF (w:World) (L:LM):Prop where
 inj:∀b j b' j' r p i,L b j = .own r p i->L b' j' = .own r p i->b'=b/\j'=j
 ex:∀b j,L b j ≠ .out->∃v,w.cell? ⟨b,j,Option.none⟩=some v
 thaw:∀b j r p i,L b j = .own r p i->w.frozen? ⟨b,j,Option.none⟩=false
def SameBlk(L:LM)(b:Nat):Option Obj->Option Obj->Prop
 | some (.cells c t fr),some (.cells c' t' fr')=>t'=t/\fr'=fr/\c'.size=c.size/\∀j,(L b j = .out\/L b j = .sh)->c'[j]? = c[j]?
 | o,o'=>o'=o
theorem SameBlk.refl(L:LM)(b:Nat)(o:Option Obj):SameBlk L b o o:=by
 cases o with
 | none=>rfl
 | some o=>cases o <;> first | rfl|exact⟨rfl,rfl,rfl,fun _ _=>rfl⟩
structure Ext (w:World) (L:LM) (w':World) (L':LM):Prop where
 os:w'.os=w.os
 tape:w'.tape=w.tape
 output:w'.output=w.output
 size:w.heap.size<=w'.heap.size
 lab:∀b j,b<w.heap.size->(L b j = .out\/L b j = .sh)->L' b j=L b j
 blk:∀b,b<w.heap.size->SameBlk L b w.heap[b]? w'.heap[b]?
theorem Ext.refl(w:World)(L:LM):Ext w L w L:=⟨rfl,rfl,rfl,Nat.le_refl _,fun _ _ _ _=>rfl,fun _ _=>.refl _ _ _⟩
theorem SameBlk.trans{L L':LM}{b:Nat}{o o' o'':Option Obj}(h:SameBlk L b o o')(h':SameBlk L' b o' o'')(hl:∀j,(L b j = .out\/L b j = .sh)->L' b j=L b j):SameBlk L b o o'':=by
 cases o with
 | none=>cases h;cases h';rfl
 | some o=>
   cases o with
   | cells c t fr=>
     cases o' with
     | none=>cases h
     | some o'=>
       cases o' with
       | cells c' t' fr'=>
         obtain⟨rfl,rfl,hs,hc⟩:=h
         cases o'' with
         | none=>cases h'
         | some o''=>
           cases o'' with
           | cells c'' t'' fr''=>
             obtain⟨rfl,rfl,hs',hc'⟩:=h'
             exact⟨rfl,rfl,hs'.trans hs,fun j hj=>(hc' j (by rw[hl j hj];exact hj)).trans (hc j hj)⟩
           | _=>cases h'
       | _=>cases h
   | _=>cases h;cases h';rfl
theorem Ext.trans{w w₁ w₂:World}{L L₁ L₂:LM}(h:Ext w L w₁ L₁)(h':Ext w₁ L₁ w₂ L₂):Ext w L w₂ L₂:=by
 refine⟨h'.os.trans h.os,h'.tape.trans h.tape,h'.output.trans h.output,Nat.le_trans h.size h'.size,fun b j hb hl=>?_,fun b hb=>?_⟩
 ·have e:=h.lab b j hb hl
  rw[h'.lab b j (Nat.lt_of_lt_of_le hb h.size) (by rw[e];exact hl),e]
 ·exact (h.blk b hb).trans (h'.blk b (Nat.lt_of_lt_of_le hb h.size)) fun j hj=>h.lab b j hb hj
theorem Ext.cell{w w':World}{L L':LM}(h:Ext w L w' L'){b j:Nat}(hb:b<w.heap.size)(hl:L b j = .out\/L b j = .sh):
 w'.cell? ⟨b,j,Option.none⟩=w.cell? ⟨b,j,Option.none⟩:=by
 have h:=h.blk b hb
 unfold World.cell?
 cases e:w.heap[b]? with
 | none=>rw[e] at h;cases e':w'.heap[b]? with
   | none=>rfl
   | some o=>rw[e'] at h;cases o <;> cases h
 | some o=>
   rw[e] at h
   cases o with
   | cells c t fr=>
     cases e':w'.heap[b]? with
     | none=>rw[e'] at h;cases h
     | some o'=>
       rw[e'] at h
       cases o' with
       | cells c' t' fr'=>simpa using h.2.2.2 j hl
       | _=>cases h
   | _=>
     have h2:=(show w'.heap[b]? = some _ from h)
     rw[h2]
theorem WF.lt{w:World}{L:LM}(h:WF w L){b j:Nat}(hl:L b j ≠ .out):b<w.heap.size:=by
 obtain⟨v,hv⟩:=h.ex b j hl
 rcases Nat.lt_or_ge b w.heap.size with h|h
 ·exact h
 ·simp[World.cell?,Array.getElem?_eq_none h] at hv
theorem WF.out_of_ge{w:World}{L:LM}(h:WF w L){b j:Nat}(hb:w.heap.size<=b):L b j = .out:=by
 cases e:L b j with
 | out=>rfl
 | _=>have:=h.lt (b:=b) (j:=j) (by simp[e]);omega
theorem get_set(e:Env)(d:Nat)(v:PV)(t:Nat):(e.set d v).get t = if t=d then v else e.get t:=by
 induction e with
 | nil=>by_cases h:t=d <;> simp[Env.set,Env.get,h]
 | cons x e ih=>
   obtain⟨k,y⟩:=x
   simp only[Env.set]
   split
   ·simp[Env.get]
   ·split
    ·rename_i h1 h2;subst h2;by_cases h:t=d <;> simp[Env.get,h]
    ·rename_i h1 h2
     simp only[Env.get,ih]
     by_cases h:t=k
     ·subst h;simp[Ne.symm h2]
     ·simp[h]
theorem get_purgeBy(f:Nat->List Nat->Bool)(e:Env)(t:Nat):(e.purgeBy f).get t=purge1 f (e.get t):=by
 induction e with
 | nil=>simp[Env.purgeBy,Env.get,purge1]
 | cons x e ih=>
   obtain⟨k,y⟩:=x
   simp only[Env.purgeBy,Env.get]
   split<;>simp_all
theorem get_purge(r:Nat)(p:List Nat)(e:Env)(t:Nat):(e.purge r p).get t=purge1 (und r p) (e.get t):=get_purgeBy _ _ _
theorem get_setD(e:Env)(d:Nat)(v:PV)(t:Nat):(e.setD d v).get t = if t=d then v else purge1 (und d []) (e.get t):=by
 rw[Env.setD,get_set,get_purge]
theorem get_keep(l:List Nat)(e:Env)(t:Nat):(e.keep l).get t = if l.contains t then e.get t else .none:=by
 induction e with
 | nil=>simp[Env.keep,Env.get]
 | cons x e ih=>
   obtain⟨k,y⟩:=x
   simp only[Env.keep,Env.get]
   split
   ·rename_i h
    simp only[Env.get,ih]
    by_cases e:t=k
    ·subst e;simp only[h,if_true]
    ·simp[e]
   ·rename_i h
    rw[ih]
    by_cases e:t=k
    ·subst e;simp only[h];simp
    ·simp[e]
theorem get_upd(e:Env)(r:Nat)(p:List Nat)(x:PV)(t:Nat):(e.upd r p x).get t = if t=r then Ab.upd (e.get r) p x else e.get t:=get_set _ _ _ _
def dropL(r:Nat)(p:List Nat):Lab->Lab
 | .own r' p' i=>if r'=r/\p.isPrefixOf p' then .out else .own r' p' i
 | l=>l
theorem under_iff{r:Nat}{p:List Nat}{r':Nat}{p':List Nat}{i:Nat}:Under r p (.own r' p' i)↔r'=r/\p.isPrefixOf p'=true:=by
 constructor
 ·rintro⟨s,k,e⟩
  simp only[Lab.own.injEq] at e
  obtain⟨rfl,rfl,rfl⟩:=e
  exact⟨rfl,by simp⟩
 ·rintro⟨rfl,h⟩
  obtain⟨s,rfl⟩:=List.isPrefixOf_iff_prefix.1 h
  exact⟨s,i,rfl⟩
theorem dropL_of_not{r:Nat}{p:List Nat}{l:Lab}(h:¬Under r p l):dropL r p l=l:=by
 cases l with
 | own r' p' i=>
   rw[under_iff] at h
   simp only[dropL,if_neg h]
 | _=>rfl
theorem dropL_of_under{r:Nat}{p:List Nat}{l:Lab}(h:Under r p l):dropL r p l = .out:=by
 obtain⟨s,i,rfl⟩:=h
 simp[dropL]
theorem dropL_own{r:Nat}{p:List Nat}{l:Lab}{r':Nat}{p':List Nat}{i:Nat}(h:dropL r p l = .own r' p' i):l = .own r' p' i/\¬Under r p l:=by
 by_cases hu:Under r p l
 ·rw[dropL_of_under hu] at h;cases h
 ·rw[dropL_of_not hu] at h;exact⟨h,hu⟩
theorem WF.relabel{w:World}{L:LM}(h:WF w L){σ:Lab->Lab}(ho:σ .out = .out)(hs:σ .sh = .sh)
 (hi:∀l l' r p i,σ l = .own r p i->σ l' = .own r p i->l'=l/\∃r' p' i',l = .own r' p' i'):WF w (fun b j=>σ (L b j)) where
 inj b j b' j' r p i e e':=by
  obtain⟨e1,r',p',i',e2⟩:=hi _ _ _ _ _ e e'
  exact h.inj b j b' j' r' p' i' e2 (e1.trans e2)
 ex b j hne:=h.ex b j fun e=>hne (by simp only[e,ho])
 thaw b j r p i e:=by
  obtain⟨_,r',p',i',e2⟩:=hi _ _ _ _ _ e e
  exact h.thaw b j r' p' i' e2
theorem WF.drop{w:World}{L:LM}(h:WF w L)(r:Nat)(p:List Nat):WF w (fun b j=>dropL r p (L b j)):=
 h.relabel rfl rfl fun l l' r' p' i e e'=>by
  obtain⟨rfl,_⟩:=dropL_own e
  obtain⟨rfl,_⟩:=dropL_own e'
  exact⟨rfl,_,_,_,rfl⟩
theorem Ext.relabel(w:World)(L:LM){σ:Lab->Lab}(ho:σ .out = .out)(hs:σ .sh = .sh):Ext w L w (fun b j=>σ (L b j)):=
 ⟨rfl,rfl,rfl,Nat.le_refl _,fun b j _ hl=>by rcases hl with hl|hl <;> simp[hl,ho,hs],fun _ _=>.refl _ _ _⟩
mutual
theorem refs_purge1(f:Nat->List Nat->Bool):∀(v:PV) (q:Nat×List Nat),q∈refs (purge1 f v)->q∈refs v/\f q.1 q.2=false
 | .ref r' p' i m,q,h=>by
   simp only[purge1] at h
   split at h
   ·cases h
   ·rename_i hn
    simp only[refs,List.mem_singleton] at h
    subst h
    exact⟨by simp[refs],by simpa using hn⟩
 | .view r' p' o n z,q,h=>by
   simp only[purge1] at h
   split at h
   ·cases h
   ·rename_i hn
    simp only[refs,List.mem_singleton] at h
    subst h
    exact⟨by simp[refs],by simpa using hn⟩
 | .agg cs,q,h=>by simp only[purge1,refs] at *;exact refs_purgeL f cs q h
 | .tup cs,q,h=>by simp only[purge1,refs] at *;exact refs_purgeL f cs q h
 | .fn g cs,q,h=>by simp only[purge1,refs] at *;exact refs_purgeL f cs q h
 | .none,q,h=>by simp[purge1,refs] at h
 | .bool _,q,h=>by simp[purge1,refs] at h
 | .int _ _,q,h=>by simp[purge1,refs] at h
 | .str _,q,h=>by simp[purge1,refs] at h
 | .nilp,q,h=>by simp[purge1,refs] at h
 | .nils,q,h=>by simp[purge1,refs] at h
 | .nilf,q,h=>by simp[purge1,refs] at h
 | .box _,q,h=>by simp[purge1,refs] at h
 | .own _ _ _,q,h=>by simp[purge1,refs] at h
 | .sl _ _,q,h=>by simp[purge1,refs] at h
 | .sp _,q,h=>by simp[purge1,refs] at h
theorem refs_purgeL(f:Nat->List Nat->Bool):∀(cs:List PV) (q:Nat×List Nat),q∈refsL (purgeL f cs)->q∈refsL cs/\f q.1 q.2=false
 | [],q,h=>by simp[purgeL,refsL] at h
 | c::cs,q,h=>by
   simp only[purgeL,refsL,List.mem_append] at *
   rcases h with h|h
   ·have:=refs_purge1 f c q h;exact⟨.inl this.1,this.2⟩
   ·have:=refs_purgeL f cs q h;exact⟨.inr this.1,this.2⟩
end
theorem purgeL_length(f:Nat->List Nat->Bool)(cs:List PV):(purgeL f cs).length=cs.length:=by
 induction cs with
 | nil=>rfl
 | cons c cs ih=>simp[purgeL,ih]
theorem purgeL_get(f:Nat->List Nat->Bool)(cs:List PV)(i:Nat)(hi:i<cs.length)(hi':i<(purgeL f cs).length):(purgeL f cs)[i]=purge1 f cs[i]:=by
 induction cs generalizing i with
 | nil=>cases hi
 | cons c cs ih=>
   cases i with
   | zero=>rfl
   | succ i=>simpa[purgeL] using ih i (by simpa using hi) (by simpa[purgeL] using hi')
theorem RepV.purge{w:World}{L:LM}{h:Hd}{v:PV}{u:Value}(H:RepV w L h v u)(f:Nat->List Nat->Bool):RepV w L h (purge1 f v) u:=by
 induction H with
 | ref h r' p' i m b j hp e=>
   simp only[purge1]
   split
   ·exact .none _ _
   ·exact .ref _ _ _ _ _ _ _ hp e
 | view h r' p' off len sz b cap hl hp e=>
   simp only[purge1]
   split
   ·exact .none _ _
   ·exact .view _ _ _ _ _ _ _ _ hl hp e
 | agg h cs vs hz hc ih=>
   simp only[purge1]
   exact .agg _ _ _ (by rw[purgeL_length];exact hz) fun i hi=>by
    have hi':i<cs.length:=by rw[purgeL_length] at hi;exact hi
    rw[purgeL_get f cs i hi']
    exact ih i hi'
 | tup h cs vs hz hc ih=>
   simp only[purge1]
   exact .tup _ _ _ (by rw[purgeL_length];exact hz) fun i hi=>by
    have hi':i<cs.length:=by rw[purgeL_length] at hi;exact hi
    rw[purgeL_get f cs i hi']
    exact ih i hi'
 | fn h g cs vs hz hc ih=>
   simp only[purge1]
   exact .fn _ _ _ _ (by rw[purgeL_length];exact hz) fun i hi=>by
    have hi':i<cs.length:=by rw[purgeL_length] at hi;exact hi
    rw[purgeL_get f cs i hi']
    exact ih i hi'
 | none h v=>exact .none _ _
 | bool h b=>exact .bool _ _
 | int h k n=>exact .int _ _ _
 | str h s l e=>exact .str _ _ _ e
 | nilp h=>exact .nilp _
 | nils h a=>exact .nils _ _
 | nilf h=>exact .nilf _
 | box r p cs b o ho hk hc ih=>exact .box _ _ _ _ _ ho hk hc
 | own r p sz len cs b cap hn hl hp ho hk hc ih=>exact .own _ _ _ _ _ _ _ hn hl hp ho hk hc
 | sl h len cs b o cap hl hs hk hc ih=>exact .sl _ _ _ _ _ _ hl hs hk hc
 | sl0 h a cap=>exact .sl0 _ _ _
 | sp h cs b o hs hk hc ih=>exact .sp _ _ _ _ hs hk hc
theorem not_under{r:Nat}{p:List Nat}{r':Nat}{p':List Nat}{i:Nat}(h:und r p r' p'=false):¬Under r p (.own r' p' i):=by
 rw[under_iff]
 rintro⟨rfl,hp⟩
 simp[und,hp] at h
theorem RepV.drop{w:World}{L:LM}{t:Nat}{q:List Nat}{v:PV}{u:Value}(H:RepV w L (some (t,q)) v u){r:Nat}{p:List Nat}(hn:∀s i,¬Under r p (.own t (q++s) i)):
 RepV w (fun b j=>dropL r p (L b j)) (some (t,q)) (purge1 (und r p) v) u:=by
 refine (H.purge (und r p)).move rfl (fun s i=>dropL_of_not (hn s i)) fun x hx i=>dropL_of_not ?_
 exact not_under (refs_purge1 _ v x hx).2
theorem RepV.drop_free{w:World}{L:LM}{h:Hd}{v:PV}{u:Value}(H:RepV w L h v u)(hf:v.free=true)(r:Nat)(p:List Nat)(h':Hd):
 RepV w (fun b j=>dropL r p (L b j)) h' v u:=by
 have c:∀{cs:List PV} {f:Nat->Value},(∀i (hi:i<cs.length),cs[i].cok=true)->(∀i (hi:i<cs.length),RepV w L Option.none cs[i] (f i)) ->
  ∀i (hi:i<cs.length),RepV w (fun b j=>dropL r p (L b j)) Option.none cs[i] (f i):=fun hk hc i hi=>
  (hc i hi).move (h':=Option.none) rfl trivial (by simp[refs_cok (hk i hi)])
 cases H with
 | none=>simp[PV.free] at hf
 | bool _ b=>exact .bool _ _
 | int _ k n=>exact .int _ _ _
 | str _ s l e=>exact .str _ _ _ e
 | nilp=>exact .nilp _
 | nils _ a=>exact .nils _ _
 | nilf=>exact .nilf _
 | ref _ r p i m b j hp e=>simp[PV.free] at hf
 | view _ r p off len sz b cap hl hp e=>simp[PV.free] at hf
 | box r p cs b o ho hk hc=>simp[PV.free] at hf
 | own r p sz len cs b cap hn hl hp ho hk hc=>simp[PV.free] at hf
 | sl _ len cs b o cap hl hs hk hc=>exact .sl _ _ _ _ _ _ hl (fun i hi=>by simp[hs i hi,dropL]) hk (c (f:=fun i=>cv w b (o+i)) hk hc)
 | sl0 _ a cap=>exact .sl0 _ _ _
 | sp _ cs b o hs hk hc=>exact .sp _ _ _ _ (fun i hi=>by simp[hs i hi,dropL]) hk (c (f:=fun i=>cv w b (o+i)) hk hc)
 | agg _ cs vs hz hc=>simp[PV.free] at hf
 | tup _ cs vs hz hc=>simp[PV.free] at hf
 | fn _ f cs vs hz hc=>simp[PV.free] at hf
theorem RepV.any{w:World}{L:LM}{h:Hd}{v:PV}{u:Value}(H:RepV w L h v u)(hf:v.free=true)(h':Hd):RepV w L h' v u:=by
 cases H with
 | bool _ b=>exact .bool _ _
 | int _ k n=>exact .int _ _ _
 | str _ s l e=>exact .str _ _ _ e
 | nilp=>exact .nilp _
 | nils _ a=>exact .nils _ _
 | nilf=>exact .nilf _
 | sl _ len cs b o cap hl hs hk hc=>exact .sl _ _ _ _ _ _ hl hs hk hc
 | sl0 _ a cap=>exact .sl0 _ _ _
 | sp _ cs b o hs hk hc=>exact .sp _ _ _ _ hs hk hc
 | _=>simp[PV.free] at hf
theorem free_cok{v:PV}(h:v.free=true):v.cok=true:=by cases v<;>simp_all [PV.free,PV.cok]
theorem free_refs{v:PV}(h:v.free=true):refs v=[]:=refs_cok (free_cok h)
theorem free_purge{v:PV}(h:v.free=true)(f:Nat->List Nat->Bool):purge1 f v=v:=by cases v<;>simp_all [PV.free,purge1]
structure Inv (n:Nat) (w:World) (L:LM) (a:Act) (g:Nat->PV):Prop where
 wf:WF w L
 rep:∀t,RepV w L (some (t,[])) (g t) (a.eval (.tmp t))
 df:a.defers=[]
 sz:a.tmps.size=n
structure Grows (w:World) (L:LM) (w':World) (L':LM):Prop where
 wf:WF w' L'
 ext:Ext w L w' L'
 lab:∀b j,L b j ≠ .out->L' b j=L b j
 cell:∀b j,L b j ≠ .out->w'.cell? ⟨b,j,Option.none⟩=w.cell? ⟨b,j,Option.none⟩
theorem Grows.refl{w:World}{L:LM}(h:WF w L):Grows w L w L:=⟨h,.refl _ _,fun _ _ _=>rfl,fun _ _ _=>rfl⟩
theorem Relv.ne_out{h:Hd}{l:Lab}(hr:Relv h l):l ≠ .out:=by
 rcases hr with hr|⟨_,_,_,_,_,hl⟩
 ·simp[hr]
 ·simp[hl]
theorem Grows.rep{w w':World}{L L':LM}(G:Grows w L w' L'){h:Hd}{v:PV}{u:Value}(H:RepV w L h v u):RepV w' L' h v u:=
 H.frame (fun b j hr=>G.lab b j hr.ne_out) (fun _ _ b j i e=>G.lab b j (by simp[e])) fun b j hr=>G.cell b j hr.ne_out
theorem Grows.trans{w w₁ w₂:World}{L L₁ L₂:LM}(h:Grows w L w₁ L₁)(h':Grows w₁ L₁ w₂ L₂):Grows w L w₂ L₂:=
 ⟨h'.wf,h.ext.trans h'.ext,fun b j hl=>by have e:=h.lab b j hl;rw[h'.lab b j (by rw[e];exact hl),e],
   fun b j hl=>by have e:=h.lab b j hl;rw[h'.cell b j (by rw[e];exact hl),h.cell b j hl]⟩
theorem eval_put{a:Act}{d:Nat}{u:Value}(hd:d<a.tmps.size)(t:Nat):(a.put (some d) u).eval (.tmp t) = if t=d then u else a.eval (.tmp t):=by
 by_cases e:t=d
 ·subst e;simp[Act.eval,Act.put,hd]
 ·simp[Act.eval,Act.put,e,Array.getElem?_setIfInBounds_ne (Ne.symm e)]
theorem Inv.put{n:Nat}{w w':World}{L L':LM}{a:Act}{g:Nat->PV}(I:Inv n w L a g){d:Nat}(hd:d<n)(G:Grows w L w' L'){v:PV}{u:Value}
 (H:RepV w' L' (some (d,[])) v u):Inv n w' L' (a.put (some d) u) (fun t=>if t=d then v else g t) where
 wf:=G.wf
 rep t:=by
  rw[eval_put (by rw[I.sz];exact hd)]
  by_cases e:t=d
  ·subst e;simpa using H
  ·simp only[e,if_false];exact G.rep (I.rep t)
 df:=by simp[Act.put,I.df]
 sz:=by simp[Act.put,I.sz]
theorem Inv.drop{n:Nat}{w:World}{L:LM}{a:Act}{g:Nat->PV}(I:Inv n w L a g)(d:Nat):
 Inv n w (fun b j=>dropL d [] (L b j)) a (fun t=>if t=d then .none else purge1 (und d []) (g t)) where
 wf:=I.wf.drop d []
 rep t:=by
  by_cases e:t=d
  ·simp only[e,if_true];exact .none _ _
  ·simp only[e,if_false]
   refine (I.rep t).drop fun s i=>?_
   rw[under_iff];simp[e]
 df:=I.df
 sz:=I.sz
theorem Inv.congr{n:Nat}{w:World}{L:LM}{a:Act}{g g':Nat->PV}(I:Inv n w L a g)(e:∀t,g' t=g t):Inv n w L a g':=
 ⟨I.wf,fun t=>by rw[e t];exact I.rep t,I.df,I.sz⟩
theorem Inv.forget{n:Nat}{w:World}{L:LM}{a:Act}{g g':Nat->PV}(I:Inv n w L a g)(e:∀t,g' t=g t\/g' t = .none):Inv n w L a g':=
 ⟨I.wf,fun t=>by rcases e t with e|e <;> rw[e];exact I.rep t;exact .none _ _,I.df,I.sz⟩
theorem Inv.setD{n:Nat}{w w':World}{L L':LM}{a:Act}{e:Env}(I:Inv n w L a e.get){d:Nat}(hd:d<n)(G:Grows w (fun b j=>dropL d [] (L b j)) w' L'){v:PV}{u:Value}
 (H:RepV w' L' (some (d,[])) v u):Inv n w' L' (a.put (some d) u) (e.setD d v).get:=
 ((I.drop d).put hd G H).congr fun t=>by rw[get_setD];by_cases h:t=d <;> simp[h]
open Go
def ofVal:Value->Option PV
 | .bool b=>some (.bool b)
 | .int k n=>some (.int k n)
 | .string s=>some (.str s.data.toList)
 | .pointer Option.none=>some .nilp
 | .slice Option.none 0 0=>some .nils
 | .nilFunc=>some .nilf
 | _=>Option.none
def ofVals:List Value->Option (List PV)
 | []=>some []
 | v::r=>match ofVal v,ofVals r with
   | some x,some xs=>some (x::xs)
   | _,_=>Option.none
def trO:Operand->Option XO
 | .tmp t=>some (.t t)
 | .const v=>(ofVal v).map .k
 | .func f=>some (.f f)
 | .global _=>Option.none
def trOs:List Operand->Option (List XO)
 | []=>some []
 | v::r=>match trO v,trOs r with
   | some x,some xs=>some (x::xs)
   | _,_=>Option.none
def szP(P:Program)(t:TypeId):Option Nat:=(P.info? t).map (·.size)
def aggP(P:Program)(t:TypeId):Option Bool:=(P.underlying t).map fun | .struct _ | .array ..=>true|_=>false
def zeroP(P:Program)(t:TypeId):Option (List PV):=match (P.info? t).bind (·.zero) with
 | some v=>ofVals v.cells.toList
 | Option.none=>Option.none
theorem ofVal_rep{w:World}{L:LM}{v:Value}{x:PV}(h:ofVal v=some x)(hd:Hd):RepV w L hd x v:=by
 cases v with
 | bool b=>simp[ofVal] at h;subst h;exact .bool _ _
 | int k n=>simp[ofVal] at h;subst h;exact .int _ _ _
 | string s=>simp[ofVal] at h;subst h;exact .str _ _ _ rfl
 | pointer a=>cases a <;> simp[ofVal] at h;subst h;exact .nilp _
 | slice a n c=>
   unfold ofVal at h
   split at h<;>simp_all
   subst h;exact .nils _ _
 | nilFunc=>simp[ofVal] at h;subst h;exact .nilf _
 | _=>simp[ofVal] at h
theorem ofVal_free{v:Value}{x:PV}(h:ofVal v=some x):x.free=true:=by
 unfold ofVal at h
 split at h<;>simp_all<;>(subst h;rfl)
theorem noOwnL_get{cs:List PV}(h:noOwnL cs=true)(i:Nat)(hi:i<cs.length):noOwn cs[i]=true:=by
 induction cs generalizing i with
 | nil=>cases hi
 | cons c cs ih=>
   simp only[noOwnL,Bool.and_eq_true] at h
   cases i with
   | zero=>exact h.1
   | succ i=>exact ih h.2 i (by simpa using hi)
theorem noOwnL_of{cs:List PV}(h:∀c∈cs,noOwn c=true):noOwnL cs=true:=by
 induction cs with
 | nil=>rfl
 | cons c cs ih=>simp[noOwnL,h c (by simp),ih fun c hc=>h c (by simp[hc])]
theorem free_noOwn{v:PV}(h:v.free=true):noOwn v=true:=by cases v<;>simp_all [PV.free,noOwn]
theorem RepV.loose{w:World}{L:LM}{h:Hd}{v:PV}{u:Value}(H:RepV w L h v u)(hn:noOwn v=true)(h':Hd):RepV w L h' v u:=by
 induction H generalizing h' with
 | none h v=>exact .none _ _
 | bool h b=>exact .bool _ _
 | int h k n=>exact .int _ _ _
 | str h s l e=>exact .str _ _ _ e
 | nilp h=>exact .nilp _
 | nils h a=>exact .nils _ _
 | nilf h=>exact .nilf _
 | ref h r p i m b j hp e=>exact .ref _ _ _ _ _ _ _ hp e
 | view h r p off len sz b cap hl hp e=>exact .view _ _ _ _ _ _ _ _ hl hp e
 | box r p cs b o ho hk hc ih=>simp[noOwn] at hn
 | own r p sz len cs b cap hn' hl hp ho hk hc ih=>simp[noOwn] at hn
 | sl h len cs b o cap hl hs hk hc ih=>exact .sl _ _ _ _ _ _ hl hs hk hc
 | sl0 h a cap=>exact .sl0 _ _ _
 | sp h cs b o hs hk hc ih=>exact .sp _ _ _ _ hs hk hc
 | agg h cs vs hz hc ih=>simp only[noOwn] at hn;exact .agg _ _ _ hz fun i hi=>ih i hi (noOwnL_get hn i hi) _
 | tup h cs vs hz hc ih=>simp only[noOwn] at hn;exact .tup _ _ _ hz fun i hi=>ih i hi (noOwnL_get hn i hi) _
 | fn h f cs vs hz hc ih=>simp only[noOwn] at hn;exact .fn _ _ _ _ hz fun i hi=>ih i hi (noOwnL_get hn i hi) _
mutual
theorem noOwn_purge(f:Nat->List Nat->Bool):∀v:PV,noOwn v=true->noOwn (purge1 f v)=true
 | .ref r' p' i m,_=>by simp only[purge1];split<;>rfl
 | .view r' p' o n z,_=>by simp only[purge1];split<;>rfl
 | .agg cs,h=>by simp only[purge1,noOwn] at *;exact noOwnL_purge f cs h
 | .tup cs,h=>by simp only[purge1,noOwn] at *;exact noOwnL_purge f cs h
 | .fn g cs,h=>by simp only[purge1,noOwn] at *;exact noOwnL_purge f cs h
 | .none,_=>rfl
 | .bool _,_=>rfl
 | .int _ _,_=>rfl
 | .str _,_=>rfl
 | .nilp,_=>rfl
 | .nils,_=>rfl
 | .nilf,_=>rfl
 | .box _,h=>by simp[noOwn] at h
 | .own _ _ _,h=>by simp[noOwn] at h
 | .sl _ _,_=>rfl
 | .sp _,_=>rfl
theorem noOwnL_purge(f:Nat->List Nat->Bool):∀cs:List PV,noOwnL cs=true->noOwnL (purgeL f cs)=true
 | [],_=>rfl
 | c::cs,h=>by
   simp only[noOwnL,purgeL,Bool.and_eq_true] at *
   exact⟨noOwn_purge f c h.1,noOwnL_purge f cs h.2⟩
end
theorem RepV.loose_drop{w:World}{L:LM}{h:Hd}{v:PV}{u:Value}(H:RepV w L h v u)(hn:noOwn v=true)(r:Nat)(p:List Nat)(h':Hd):
 RepV w (fun b j=>dropL r p (L b j)) h' (purge1 (und r p) v) u:=
 RepV.loose (((H.loose hn Option.none).purge (und r p)).move (h':=Option.none) (σ:=dropL r p) rfl trivial fun x hx i=>dropL_of_not (not_under (refs_purge1 _ v x hx).2)) (noOwn_purge _ v hn) h'
theorem al_rep{w:World}{L:LM}{r:Nat}{p:List Nat}{v:PV}{u:Value}(H:RepV w L (some (r,p)) v u)(h:Hd):
 RepV w L h (al r p v) u:=by
 cases H with
 | own _ _ sz len cs b cap hn hl hp ho hk hc=>exact .view _ _ _ _ _ _ _ _ hl (by omega) fun j hj=>ho j (by omega)
 | box _ _ cs b o ho hk hc=>
   cases cs with
   | nil=>exact .none _ _
   | cons c cs=>exact .ref _ _ _ _ _ _ _ (by omega) fun k hk=>by simpa using ho k (by simpa using hk)
 | none=>exact .none _ _
 | bool _ b=>exact .bool _ _
 | int _ k n=>exact .int _ _ _
 | str _ s l e=>exact .str _ _ _ e
 | nilp=>exact .nilp _
 | nils _ a=>exact .nils _ _
 | nilf=>exact .nilf _
 | ref _ r p i m b j hp e=>exact .ref _ _ _ _ _ _ _ hp e
 | view _ r p off len sz b cap hl hp e=>exact .view _ _ _ _ _ _ _ _ hl hp e
 | sl _ len cs b o cap hl hs hk hc=>exact .sl _ _ _ _ _ _ hl hs hk hc
 | sl0 _ a cap=>exact .sl0 _ _ _
 | sp _ cs b o hs hk hc=>exact .sp _ _ _ _ hs hk hc
 | agg _ cs _ _ _=>exact .none _ _
 | tup _ cs _ _ _=>exact .none _ _
 | fn _ f cs vs hz hc=>
   simp only[al]
   split
   ·rename_i hn
    exact RepV.loose (.fn (some (r,p)) f cs vs hz hc) (by simpa[noOwn] using hn) h
   ·exact .none _ _
theorem al_noOwn(r:Nat)(p:List Nat)(v:PV):noOwn (al r p v)=true:=by
 cases v <;> simp[al,noOwn]
 ·rename_i cs;cases cs <;> simp[noOwn]
 ·split<;>simp_all [noOwn]
theorem alL_length(r:Nat)(p:List Nat)(i:Nat)(cs:List PV):(alL r p i cs).length=cs.length:=by
 induction cs generalizing i with
 | nil=>rfl
 | cons c cs ih=>simp[alL,ih]
theorem alL_get(r:Nat)(p:List Nat)(i:Nat)(cs:List PV)(k:Nat)(hk:k<cs.length)(hk':k<(alL r p i cs).length):(alL r p i cs)[k]=al r (p++[i+k]) cs[k]:=by
 induction cs generalizing i k with
 | nil=>cases hk
 | cons c cs ih=>
   cases k with
   | zero=>simp[alL]
   | succ k=>
     simp only[alL,List.getElem_cons_succ]
     rw[ih (i+1) k (by simpa using hk) (by simpa[alL] using hk')]
     congr 3;omega
theorem alL_noOwn(r:Nat)(p:List Nat)(i:Nat)(cs:List PV):noOwnL (alL r p i cs)=true:=by
 induction cs generalizing i with
 | nil=>rfl
 | cons c cs ih=>simp[alL,noOwnL,al_noOwn,ih]
theorem lookG_noOwn{g:Nat->PV}{o:Operand}{x:XO}(h:trO o=some x):noOwn (lookG g x)=true:=by
 cases o with
 | tmp t=>
   simp only[trO,Option.some.injEq] at h;subst h
   simp only[lookG]
   split
   ·simp[noOwn,alL_noOwn]
   ·split<;>simp_all [noOwn]
   ·exact al_noOwn _ _ _
 | const v=>
   simp only[trO,Option.map_eq_some_iff] at h
   obtain⟨y,hy,rfl⟩:=h
   exact free_noOwn (ofVal_free hy)
 | func f=>simp only[trO,Option.some.injEq] at h;subst h;rfl
 | global g=>simp[trO] at h
theorem Inv.look{n:Nat}{w:World}{L:LM}{a:Act}{g:Nat->PV}(I:Inv n w L a g){o:Operand}{x:XO}(h:trO o=some x)(hd:Hd):RepV w L hd (lookG g x) (a.eval o):=by
 cases o with
 | tmp t=>
   simp only[trO,Option.some.injEq] at h;subst h
   have H:=I.rep t
   simp only[lookG]
   split
   ·rename_i cs e
    rw[e] at H
    generalize a.eval (.tmp t)=u at H
    cases H with
    | agg _ _ vs hz hc=>
      refine .agg _ _ _ (by rw[alL_length];exact hz) fun i hi=>?_
      have hi':i<cs.length:=by rw[alL_length] at hi;exact hi
      rw[alL_get _ _ _ _ _ hi']
      have:=al_rep (hc i hi') (hd.snoc i)
      simpa using this
   ·rename_i cs e
    rw[e] at H
    split
    ·rename_i hn;exact H.loose (by simpa[noOwn] using hn) hd
    ·exact .none _ _
   ·exact al_rep H hd
 | const v=>
   simp only[trO,Option.map_eq_some_iff] at h
   obtain⟨y,hy,rfl⟩:=h
   exact ofVal_rep hy hd
 | func f=>simp only[trO,Option.some.injEq] at h;subst h;exact .fn _ _ _ _ rfl (by simp)
 | global g=>simp[trO] at h
open Go
theorem run_typeInfo'{P:Program}{t:TypeId}{i:TypeInfo}(h:P.info? t=some i)(w:World):(typeInfo t).run P w = .ok i w:=by
 simp[typeInfo,h]
theorem run_sizeOf'{P:Program}{t:TypeId}{sz:Nat}(h:szP P t=some sz)(w:World):(sizeOf t).run P w = .ok sz w:=by
 simp only[szP,Option.map_eq_some_iff] at h
 obtain⟨i,hi,rfl⟩:=h
 simp[sizeOf,run_typeInfo' hi]
theorem run_underlying'{P:Program}{t:TypeId}{d:TypeDesc}(h:P.underlying t=some d)(w:World):(underlying t).run P w = .ok d w:=by
 simp[underlying,h]
theorem run_isAgg'{P:Program}{t:TypeId}{b:Bool}(h:aggP P t=some b)(w:World):(isAgg t).run P w = .ok b w:=by
 simp only[aggP,Option.map_eq_some_iff] at h
 obtain⟨d,hd,rfl⟩:=h
 simp only[isAgg,Sem.run_bind,run_underlying' hd,Result.andThen_ok]
 cases d<;>rfl
theorem obj_cells{w:World}{L:LM}{r:Nat}{q:List Nat}{T:PV}{u:Value}(W:WF w L)(H:RepV w L (some (r,q)) T u){cs:List PV}(hc:objCells T=some cs){b j i:Nat}
 (hl:L b j = .own r q i)(hi:i<cs.length)(k:Nat)(hk:i+k<cs.length):
 L b (j+k) = .own r q (i+k)/\RepV w L (some (r,q++[i+k])) cs[i+k] (cv w b (j+k))/\w.cell? ⟨b,j+k,Option.none⟩=some (cv w b (j+k)):=by
 have fin:∀b' o,(∀i,i<cs.length->L b' (o+i) = .own r q i)->(∀i (hi:i<cs.length),RepV w L (some (r,q++[i])) cs[i] (cv w b' (o+i))) ->
  (L b (j+k) = .own r q (i+k)/\RepV w L (some (r,q++[i+k])) cs[i+k] (cv w b (j+k))/\w.cell? ⟨b,j+k,Option.none⟩=some (cv w b (j+k))):=fun b' o ho hc=>by
  obtain⟨e1,e2⟩:=W.inj _ _ _ _ _ _ _ hl (ho i hi)
  have hj:j+k=o+(i+k):=by omega
  have hlab:L b (j+k) = .own r q (i+k):=by rw[←e1,hj];exact ho _ hk
  obtain⟨v,hv⟩:=W.ex b (j+k) (by simp[hlab])
  refine⟨hlab,?_,?_⟩
  ·have:=hc (i+k) hk
   rw[←hj,e1] at this
   exact this
  ·simp[cv,hv]
 cases H with
 | box _ _ cs' b' o ho hk' hc'=>
   simp only[objCells,Option.some.injEq] at hc;subst hc
   exact fin b' o ho hc'
 | own _ _ sz len cs' b' cap hn hl' hp ho hk' hc'=>
   simp only[objCells,Option.some.injEq] at hc;subst hc
   refine fin b' 0 (fun i hi=>?_) (fun i hi=>by rw[Nat.zero_add];exact hc' i hi)
   rw[Nat.zero_add]
   exact ho i (Nat.lt_of_lt_of_le hi (by rw[hn];exact Nat.mul_le_mul_right _ hl'))
 | _=>simp[objCells] at hc
theorem obj_cok{w:World}{L:LM}{h:Hd}{T:PV}{u:Value}(H:RepV w L h T u){cs:List PV}(hc:objCells T=some cs):∀i (hi:i<cs.length),cs[i].cok=true:=by
 cases H with
 | box _ _ cs' b' o ho hk' hc'=>simp only[objCells,Option.some.injEq] at hc;subst hc;exact hk'
 | own _ _ sz len cs' b' cap hn hl' hp ho hk' hc'=>simp only[objCells,Option.some.injEq] at hc;subst hc;exact hk'
 | _=>simp[objCells] at hc
def SubsOk(S:Subs)(g:Nat->PV):Prop:=∀r p,S r p = .none\/S r p=Ab.sub (g r) p
theorem objCells_ne{v:PV}{cs:List PV}(h:objCells v=some cs):v ≠ .none:=by rintro rfl;simp[objCells] at h
theorem Inv.obj{n:Nat}{w:World}{L:LM}{a:Act}{g:Nat->PV}(I:Inv n w L a g){r:Nat}{p:List Nat}(hv:Ab.sub (g r) p ≠ .none):
 ∃u,RepV w L (some (r,p)) (Ab.sub (g r) p) u:=by
 obtain⟨u,hu⟩:=(I.rep r).sub p (hasP_of_sub _ _ hv)
 exact⟨u,by simpa using hu⟩
def ValAt(P:Program)(o:Oper)(a:Act)(w:World)(L:LM)(v:PV):Prop:=
 ∃u,(execOp a.eval o).run P w = .ok (.value u) w/\(∀h,RepV w L h v u)/\noOwn v=true
section
variable {P:Program} {n:Nat} {w:World} {L:LM} {a:Act} {g:Nat->PV} {o:Oper}
theorem ok_mv(I:Inv n w L a g){x:Operand}{x':XO}(ho:o.op = .move x\/o.op = .assign x)(hx:trO x=some x'):ValAt P o a w L (lookG g x'):=by
 refine⟨a.eval x,?_,fun h=>I.look hx h,lookG_noOwn hx⟩
 rcases ho with ho|ho <;> simp[execOp,ho]
theorem ok_pick(I:Inv n w L a g){c x y:Operand}{c' x' y':XO}(ho:o.op = .pick c x y)(hc:trO c=some c')(hx:trO x=some x')(hy:trO y=some y'){b:Bool}(e:lookG g c' = .bool b):
 ValAt P o a w L (lookG g (if b then x' else y')):=by
 have H:=I.look hc Option.none
 rw[e] at H
 generalize hu:a.eval c=u at H
 cases H
 refine⟨if b then a.eval x else a.eval y,?_,fun h=>?_,?_⟩
 ·simp[execOp,ho,hu,asBool]
 ·cases b
  ·simpa using I.look hy h
  ·simpa using I.look hx h
 ·cases b
  ·exact lookG_noOwn hy
  ·exact lookG_noOwn hx
theorem addr_add(b j k:Nat):(⟨b,j,Option.none⟩:Addr).add k=⟨b,j+k,Option.none⟩:=by
 by_cases h:k=0 <;> simp[Addr.add,h]
theorem getD_map_range(f:Nat->Value)(n i:Nat)(hi:i<n):((List.range n).map f).toArray.getD i undef=f i:=by
 simp[Array.getD,hi]
theorem ok_load_ref(I:Inv n w L a g){t:TypeId}{x:Operand}{x':XO}(ho:o.op = .load t x)(hx:trO x=some x'){agg:Bool}{sz:Nat}(ha:aggP P t=some agg)(hz:szP P t=some sz)(hz1:agg=false->sz=1)
 {r:Nat}{p:List Nat}{i m:Nat}(e:lookG g x' = .ref r p i m){cs:List PV}(hc:objCells (Ab.sub (g r) p)=some cs)(hi:i+sz<=cs.length)(hm:0<m):
 ValAt P o a w L (if agg then .agg (alL r p i ((cs.drop i).take sz)) else al r (p++[i]) (cs.getD i .none)):=by
 have H:=I.look hx Option.none
 rw[e] at H
 generalize hu:a.eval x=u at H
 cases H with
 | ref _ _ _ _ _ b j hp hl=>
   have hl:L b j = .own r p i:=by simpa using hl 0 hm
   obtain⟨T,hT⟩:=I.obj (objCells_ne hc)
   cases agg with
   | true=>
     have cell:∀k,k<sz->RepV w L (some (r,p++[i+k])) (cs.getD (i+k) .none) (cv w b (j+k))/\w.cell? ⟨b,j+k,Option.none⟩=some (cv w b (j+k)):=fun k hk=>by
      have h1:i+k<cs.length:=by omega
      have:=obj_cells I.wf hT hc hl (by omega) k h1
      rw[show cs.getD (i+k) .none=cs[i+k] from by simp[h1]]
      exact this.2
     refine⟨.agg ((List.range sz).map fun k=>cv w b (j+k)).toArray,?_,fun h=>?_,by simp[noOwn,alL_noOwn]⟩
     ·simp only[execOp,ho,Instr.loadAt,Instr.sureAddr,hu,Sem.run_bind,Sem.run_pure,Result.andThen_ok,loadVar,run_isAgg' ha,run_sizeOf' hz,if_true]
      rw[run_loadCells w ⟨b,j,Option.none⟩ sz (fun k=>cv w b (j+k)) (fun k hk=>by rw[addr_add];exact (cell k hk).2)]
      simp
     ·refine .agg _ _ _ (by simp[alL_length];omega) fun k hk=>?_
      have hk':k<sz:=by simp[alL_length] at hk;omega
      rw[getD_map_range _ _ _ hk',alL_get _ _ _ _ k (by simpa[alL_length] using hk)]
      have:=al_rep (cell k hk').1 (h.snoc k)
      rw[show cs.getD (i+k) .none=((cs.drop i).take sz)[k]'(by simpa[alL_length] using hk) from by
       simp only[List.getElem_take,List.getElem_drop];simp[show i+k<cs.length by omega]] at this
      exact this
   | false=>
     have hz1:=hz1 rfl
     subst hz1
     have h1:i<cs.length:=by omega
     have:=obj_cells I.wf hT hc hl h1 0 (by omega)
     simp only[Nat.add_zero] at this
     refine⟨cv w b j,?_,fun h=>?_,al_noOwn _ _ _⟩
     ·simp[execOp,ho,Instr.loadAt,Instr.sureAddr,hu,loadVar,run_isAgg' ha,this.2.2]
     ·rw[show cs.getD i .none=cs[i] from by simp[h1]]
      exact al_rep this.2.1 h
theorem sp_cell{w:World}{L:LM}(W:WF w L){b j:Nat}(hl:L b j = .sh):w.cell? ⟨b,j,Option.none⟩=some (cv w b j):=by
 obtain⟨v,hv⟩:=W.ex b j (by simp[hl])
 simp[cv,hv]
theorem none_noOwn{w:World}{L:LM}{v:PV}{u:Value}(H:RepV w L Option.none v u)(hk:v.cok=true):noOwn v=true:=by
 cases H<;>simp_all [noOwn,PV.cok]
theorem ok_load_sp(I:Inv n w L a g){t:TypeId}{x:Operand}{x':XO}(ho:o.op = .load t x)(hx:trO x=some x'){agg:Bool}{sz:Nat}(ha:aggP P t=some agg)(hz:szP P t=some sz)(hz1:agg=false->sz=1)
 {cs:List PV}(e:lookG g x' = .sp cs){v:PV}(hv:part agg 0 sz cs=some v):ValAt P o a w L v:=by
 have H:=I.look hx Option.none
 rw[e] at H
 generalize hu:a.eval x=u at H
 cases H with
 | sp _ _ b j hs hk hc=>
   unfold part at hv
   split at hv
   ·rename_i hle
    cases agg with
    | true=>
      simp only[if_true,Option.some.injEq] at hv
      subst hv
      refine⟨.agg ((List.range sz).map fun k=>cv w b (j+k)).toArray,?_,fun h=>?_,?_⟩
      ·simp only[execOp,ho,Instr.loadAt,Instr.sureAddr,hu,Sem.run_bind,Sem.run_pure,Result.andThen_ok,loadVar,run_isAgg' ha,run_sizeOf' hz,if_true]
       rw[run_loadCells w ⟨b,j,Option.none⟩ sz (fun k=>cv w b (j+k)) (fun k hk=>by rw[addr_add];exact sp_cell I.wf (hs k (by omega)))]
       simp
      ·refine .agg _ _ _ (by simp;omega) fun k hkk=>?_
       have hk':k<sz:=by simp at hkk;omega
       rw[getD_map_range _ _ _ hk']
       simp only[List.drop_zero,List.getElem_take]
       exact (hc k (by omega)).loose (none_noOwn (hc k (by omega)) (hk _ _)) _
      ·simp only[noOwn]
       refine noOwnL_of fun c hc'=>?_
       obtain⟨k,hk',rfl⟩:=List.getElem_of_mem hc'
       simp only[List.drop_zero,List.getElem_take]
       exact none_noOwn (hc k (by simp at hk';omega)) (hk _ _)
    | false=>
      have hz1:=hz1 rfl
      subst hz1
      simp only[Bool.false_eq_true,if_false] at hv
      obtain⟨h0,rfl⟩:=List.getElem?_eq_some_iff.1 hv
      have:=sp_cell I.wf (hs 0 h0)
      simp only[Nat.add_zero] at this
      refine⟨cv w b j,?_,fun h=>?_,none_noOwn (hc 0 h0) (hk _ _)⟩
      ·simp[execOp,ho,Instr.loadAt,Instr.sureAddr,hu,loadVar,run_isAgg' ha,this]
      ·have:=hc 0 h0
       simp only[Nat.add_zero] at this
       exact this.loose (none_noOwn (hc 0 h0) (hk _ _)) h
   ·cases hv
end
open Go
theorem bytes_len(s:ByteArray):s.data.toList.length=s.size:=Array.length_toList
theorem bytes_loop(s:ByteArray):∀(k i:Nat) (r:List UInt8),s.size-i=k->ByteArray.toList.loop s i r=r.reverse++s.data.toList.drop i
 | 0,i,r,h=>by
   unfold ByteArray.toList.loop
   have:¬i<s.size:=by omega
   simp only[this,if_false]
   rw[List.drop_eq_nil_of_le (by have:=bytes_len s;omega)]
   simp
 | k+1,i,r,h=>by
   unfold ByteArray.toList.loop
   have hi:i<s.size:=by omega
   simp only[hi,if_true]
   rw[bytes_loop s k (i+1) _ (by omega)]
   have hl:i<s.data.toList.length:=by rw[bytes_len];exact hi
   rw[List.drop_eq_getElem_cons hl]
   simp[ByteArray.get!,getElem!_pos s.data i hi]
theorem bytes_toList(s:ByteArray):s.toList=s.data.toList:=by
 simp[ByteArray.toList,bytes_loop s _ 0 [] rfl]
theorem bytes_get(s:ByteArray)(i:Nat):s[i]? = s.data.toList[i]?:=by
 by_cases h:i<s.size
 ·have h':i<s.data.size:=h
  rw[getElem?_pos s i h,Array.getElem?_toList,getElem?_pos s.data i h']
  rfl
 ·have h':¬i<s.data.size:=h
  rw[getElem?_neg s i h,Array.getElem?_toList,getElem?_neg s.data i h']
section
variable {P:Program} {n:Nat} {w:World} {L:LM} {a:Act} {g:Nat->PV} {o:Oper}
def fieldP(P:Program)(t:TypeId)(f:Nat):Option (TypeId×Nat):=
 match P.underlying t with
 | some (.struct fs)=>(fs[f]?).map fun x=>(x.type,x.offset)
 | _=>Option.none
theorem fieldP_some{t:TypeId}{f:Nat}{ft off:Nat}(h:fieldP P t f=some (ft,off)):∃fs x,P.underlying t=some (.struct fs)/\fs[f]? = some x/\x.type=ft/\x.offset=off:=by
 unfold fieldP at h
 split at h
 ·rename_i fs e
  simp only[Option.map_eq_some_iff,Prod.mk.injEq] at h
  obtain⟨x,hx,rfl,rfl⟩:=h
  exact⟨fs,x,e,hx,rfl,rfl⟩
 ·cases h
theorem run_fieldAt{s f ft off sz b j:Nat}(hf:fieldP P s f=some (ft,off))(hz:szP P ft=some sz)(h0:sz≠0)(w:World):
 (Instr.fieldAt s (.pointer (some ⟨b,j,Option.none⟩)) f).run P w = .ok (.pointer (some ⟨b,j+off,Option.none⟩)) w:=by
 obtain⟨fs,x,hu,hx,rfl,rfl⟩:=fieldP_some hf
 simp only[Instr.fieldAt,Sem.run_bind,run_underlying' hu,Result.andThen_ok,hx,Instr.sureAddr,Sem.run_pure,fieldPlace,run_sizeOf' hz,h0,if_false,addr_add]
theorem sp_drop{cs:List PV}{b j:Nat}{off:Nat}(hs:∀i,i<cs.length->L b (j+i) = .sh)(hk:∀i (hi:i<cs.length),cs[i].cok=true)
 (hc:∀i (hi:i<cs.length),RepV w L Option.none cs[i] (cv w b (j+i)))(h:Hd):RepV w L h (.sp (cs.drop off)) (.pointer (some ⟨b,j+off,Option.none⟩)):=by
 refine .sp _ _ _ _ (fun i hi=>?_) (fun i hi=>?_) fun i hi=>?_
 ·rw[Nat.add_assoc];exact hs _ (by simp at hi;omega)
 ·simp only[List.getElem_drop];exact hk _ _
 ·simp only[List.getElem_drop,Nat.add_assoc];exact hc _ _
theorem sp_take{cs:List PV}{b j:Nat}{m:Nat}(hs:∀i,i<cs.length->L b (j+i) = .sh)(hk:∀i (hi:i<cs.length),cs[i].cok=true)
 (hc:∀i (hi:i<cs.length),RepV w L Option.none cs[i] (cv w b (j+i)))(h:Hd):RepV w L h (.sp (cs.take m)) (.pointer (some ⟨b,j,Option.none⟩)):=by
 refine .sp _ _ _ _ (fun i hi=>?_) (fun i hi=>?_) fun i hi=>?_
 ·exact hs _ (by simp at hi;omega)
 ·simp only[List.getElem_take];exact hk _ _
 ·simp only[List.getElem_take];exact hc _ _
theorem ok_fadr(I:Inv n w L a g){s f ft off sz:Nat}{x:Operand}{x':XO}(ho:o.op = .fieldAddr s x f)(hx:trO x=some x')(hf:fieldP P s f=some (ft,off))(hz:szP P ft=some sz)(h0:sz≠0)
 {v:PV}(hv:(match lookG g x' with
  | .ref r p i m=>if off<m then some (.ref r p (i+off) (m-off)) else Option.none
  | .sp cs=>if off<cs.length then some (.sp (cs.drop off)) else Option.none
  | _=>Option.none)=some v):ValAt P o a w L v:=by
 have H:=I.look hx Option.none
 generalize hu:a.eval x=u at H
 split at hv
 ·rename_i r p i m e
  rw[e] at H
  split at hv
  ·rename_i hlt
   obtain rfl:=Option.some.inj hv
   cases H with
   | ref _ _ _ _ _ b j hp hl=>
     exact⟨.pointer (some ⟨b,j+off,Option.none⟩),by simp[execOp,ho,hu,run_fieldAt hf hz h0],fun h=>.ref _ _ _ _ _ _ _ (by omega) fun k hk=>by
      rw[Nat.add_assoc,Nat.add_assoc];exact hl _ (by omega),rfl⟩
  ·cases hv
 ·rename_i cs e
  rw[e] at H
  split at hv
  ·rename_i hlt
   obtain rfl:=Option.some.inj hv
   cases H with
   | sp _ _ b j hs hk hc=>
     exact⟨.pointer (some ⟨b,j+off,Option.none⟩),by simp[execOp,ho,hu,run_fieldAt hf hz h0],fun h=>sp_drop hs hk hc h,rfl⟩
  ·cases hv
 ·cases hv
theorem run_part{t:TypeId}{agg:Bool}{sz:Nat}(ha:aggP P t=some agg)(hz:szP P t=some sz){cs:List PV}{vs:Array Value}{off:Nat}{h0:Hd}(H:RepV w L h0 (.agg cs) (.agg vs))(hn:noOwnL cs=true)
 {v:PV}(hv:part agg off sz cs=some v):∃u,(Go.part t vs off).run P w = .ok u w/\(∀h,RepV w L h v u)/\noOwn v=true:=by
 cases H with
 | agg _ _ _ hsz hc=>
   unfold part at hv
   split at hv
   ·rename_i hle
    cases agg with
    | true=>
      simp only[if_true,Option.some.injEq] at hv
      subst hv
      have hno:noOwnL ((cs.drop off).take sz)=true:=noOwnL_of fun c hc'=>by
       obtain⟨k,hk',rfl⟩:=List.getElem_of_mem hc'
       simp only[List.getElem_take,List.getElem_drop]
       exact noOwnL_get hn _ _
      refine⟨.agg (vs.extract off (off+sz)),by simp[Go.part,run_isAgg' ha,run_sizeOf' hz],fun h=>?_,by simpa[noOwn] using hno⟩
      refine .agg _ _ _ (by simp;omega) fun k hkk=>?_
      have hk':k<sz:=by simp at hkk;omega
      have:(vs.extract off (off+sz)).getD k undef=vs.getD (off+k) undef:=by
       simp[Array.getD,show off+k<vs.size by omega,show k<min (off+sz) vs.size-off by omega]
      rw[this]
      simp only[List.getElem_take,List.getElem_drop]
      exact (hc (off+k) (by omega)).loose (noOwnL_get hn _ _) _
    | false=>
      simp only[Bool.false_eq_true,if_false] at hv
      obtain⟨h0,rfl⟩:=List.getElem?_eq_some_iff.1 hv
      have hv0:off<vs.size:=by omega
      refine⟨vs[off],by simp[Go.part,run_isAgg' ha,hv0],fun h=>?_,noOwnL_get hn _ _⟩
      have:=hc off h0
      rw[show vs.getD off undef=vs[off] from by simp[Array.getD,hv0]] at this
      exact this.loose (noOwnL_get hn _ _) _
   ·cases hv
theorem look_agg_noOwn{x:Operand}{x':XO}(hx:trO x=some x'){cs:List PV}(e:lookG g x' = .agg cs):noOwnL cs=true:=by
 have:=lookG_noOwn (g:=g) hx
 rw[e] at this
 simpa[noOwn] using this
theorem ok_fld(I:Inv n w L a g){s f ft off sz:Nat}{agg:Bool}{x:Operand}{x':XO}(ho:o.op = .field s x f)(hx:trO x=some x')(hf:fieldP P s f=some (ft,off))(ha:aggP P ft=some agg)(hz:szP P ft=some sz)
 {cs:List PV}(e:lookG g x' = .agg cs){v:PV}(hv:part agg off sz cs=some v):ValAt P o a w L v:=by
 have H:=I.look hx Option.none
 have hn:=look_agg_noOwn hx e
 rw[e] at H
 generalize hu:a.eval x=u at H
 have H':=H
 cases H' with
 | agg _ _ vs hsz hc=>
   obtain⟨fs,y,hund,hy,rfl,rfl⟩:=fieldP_some hf
   obtain⟨u',hr,hrep,hno⟩:=run_part (P:=P) ha hz H hn hv
   exact⟨u',by simp[execOp,ho,Instr.field,run_underlying' hund,hy,hu,asAgg,hr],hrep,hno⟩
def arrP(P:Program)(t:TypeId):Option (Nat×TypeId):=
 match P.underlying t with
 | some (.array n e)=>some (n,e)
 | _=>Option.none
theorem arrP_some{t:TypeId}{m e:Nat}(h:arrP P t=some (m,e)):P.underlying t=some (.array m e):=by
 unfold arrP at h
 split at h
 ·simp at h;obtain⟨rfl,rfl⟩:=h;assumption
 ·cases h
theorem idxOk_iff{i:Int}{n:Nat}:idxOk i n=true↔0<=i/\i<n:=by simp[idxOk]
theorem ok_idx(I:Inv n w L a g){t et m sz:Nat}{agg:Bool}{x y:Operand}{x' y':XO}(ho:o.op = .index t x y)(hx:trO x=some x')(hy:trO y=some y')(ht:arrP P t=some (m,et))
 (ha:aggP P et=some agg)(hz:szP P et=some sz){cs:List PV}{k:IntKind}{j:Int}(e:lookG g x' = .agg cs)(e':lookG g y' = .int k j)(hj:idxOk j m=true)
 {v:PV}(hv:part agg (j.toNat*sz) sz cs=some v):ValAt P o a w L v:=by
 have H:=I.look hx Option.none
 have hn:=look_agg_noOwn hx e
 have Hy:=I.look hy Option.none
 rw[e] at H
 rw[e'] at Hy
 generalize hu:a.eval x=u at H
 generalize hu':a.eval y=u' at Hy
 rw[idxOk_iff] at hj
 cases Hy
 have H':=H
 cases H' with
 | agg _ _ vs hsz hc=>
   obtain⟨u',hr,hrep,hno⟩:=run_part (P:=P) ha hz H hn hv
   exact⟨u',by simp[execOp,ho,Instr.index,asIntOf,run_underlying' (arrP_some ht),hu,hu',hj,run_sizeOf' hz,hr],hrep,hno⟩
theorem ok_idxs(I:Inv n w L a g){t:Nat}{x y:Operand}{x' y':XO}(ho:o.op = .index t x y)(hx:trO x=some x')(hy:trO y=some y')(ht:P.underlying t=some .string)
 {s:List UInt8}{k:IntKind}{j:Int}(e:lookG g x' = .str s)(e':lookG g y' = .int k j)(hj:idxOk j s.length=true)
 {v:PV}(hv:(s[j.toNat]?).map (fun c=>PV.int .u8 c.toNat)=some v):ValAt P o a w L v:=by
 have H:=I.look hx Option.none
 have Hy:=I.look hy Option.none
 rw[e] at H
 rw[e'] at Hy
 generalize hu:a.eval x=u at H
 generalize hu':a.eval y=u' at Hy
 rw[idxOk_iff] at hj
 simp only[Option.map_eq_some_iff] at hv
 obtain⟨c,hc,rfl⟩:=hv
 cases Hy
 cases H with
 | str _ b _ eb=>
   subst eb
   rw[←bytes_get] at hc
   exact⟨.int .u8 c.toNat,by simp[execOp,ho,Instr.index,asIntOf,run_underlying' ht,hu,hu',hj.1,hc],fun h=>.int _ _ _,rfl⟩
end
open Go
def BinGood(P:Program)(w:World)(s:Sem Value)(v:PV):Prop:=∃u,s.run P w = .ok u w/\(∀L h,RepV w L h v u)/\v.free=true
theorem BinGood.int{P:Program}{w:World}{s:Sem Value}{k:IntKind}{n:Int}(h:s.run P w = .ok (.int k n) w):BinGood P w s (.int k n):=⟨_,h,fun _ _=>.int _ _ _,rfl⟩
theorem BinGood.bool{P:Program}{w:World}{s:Sem Value}{b:Bool}(h:s.run P w = .ok (.bool b) w):BinGood P w s (.bool b):=⟨_,h,fun _ _=>.bool _ _,rfl⟩
theorem run_intBin{P:Program}{w:World}{op:BinOp}{xt:TypeId}{k k':IntKind}{x y:Int}{v:PV}(h:intBin op k x k' y=some v):
 BinGood P w (Go.binOp op xt (.int k x) (.int k' y)) v:=by
 by_cases hk:k=k'
 ·subst hk
  cases op <;> simp only[intBin,intBits,if_true,Option.map_some,Option.map_none,Option.some.injEq] at h
  case shl=>split at h <;> simp at h;subst h;rename_i hy;exact .int (by simp[Go.binOp,Op.shift,hy])
  case shr=>split at h <;> simp at h;subst h;rename_i hy;exact .int (by simp[Go.binOp,Op.shift,hy])
  case quo=>split at h <;> simp at h;subst h;rename_i hy;exact .int (by simp[Go.binOp,Op.intDiv,hy])
  case rem=>split at h <;> simp at h;subst h;rename_i hy;exact .int (by simp[Go.binOp,Op.intDiv,hy])
  all_goals subst h
  case add=>exact .int (by simp[Go.binOp,Op.intArith])
  case sub=>exact .int (by simp[Go.binOp,Op.intArith])
  case mul=>exact .int (by simp[Go.binOp,Op.intArith])
  case and=>exact .int (by simp[Go.binOp,Op.intBits])
  case or=>exact .int (by simp[Go.binOp,Op.intBits])
  case xor=>exact .int (by simp[Go.binOp,Op.intBits])
  case andNot=>exact .int (by simp[Go.binOp,Op.intBits])
  all_goals exact .bool (by simp[Go.binOp,Op.intCmp])
 ·cases op <;> simp only[intBin,hk,if_false,reduceCtorEq] at h
  case shl=>split at h <;> simp at h;subst h;rename_i hy;exact .int (by simp[Go.binOp,Op.shift,hy])
  case shr=>split at h <;> simp at h;subst h;rename_i hy;exact .int (by simp[Go.binOp,Op.shift,hy])
theorem run_strBin{P:Program}{w:World}{op:BinOp}{xt:TypeId}{x y:ByteArray}{v:PV}(h:strBin op x.data.toList y.data.toList=some v):
 BinGood P w (Go.binOp op xt (.string x) (.string y)) v:=by
 cases op <;> simp only[strBin,reduceCtorEq,Option.some.injEq] at h
 case add=>
  split at h
  ·rename_i hle
   obtain rfl:=Option.some.inj h
   rw[bytes_len,bytes_len] at hle
   have:¬((x.size+y.size:Nat):Int)>IntKind.i64.max:=by
    unfold lim at hle
    simp only[IntKind.max,IntKind.signed,IntKind.bits,if_true]
    omega
   refine⟨.string (x++y),by simp only[Go.binOp,Op.stringOp,this,if_false];rfl,fun L h=>.str _ _ _ ?_,rfl⟩
   simp[ByteArray.data_append]
  ·cases h
 case eql=>subst h;exact .bool (by simp[Go.binOp,Op.stringOp,bytes_toList])
 case neq=>subst h;exact .bool (by simp[Go.binOp,Op.stringOp,bytes_toList])
section
variable {P:Program} {n:Nat} {w:World} {L:LM} {a:Act} {g:Nat->PV} {o:Oper}
theorem run_eqGuard_no{op:BinOp}{t:TypeId}{x y:Operand}{u v:Value}(h:∀cs,u ≠ .agg cs)(h':u ≠ .nilIface):(eqGuard op t x y u v).run P w = .ok () w:=by
 cases u <;> first
  | exact absurd rfl (h _)
  | exact absurd rfl h'
  | (cases v <;> simp[eqGuard])
theorem ok_bin(I:Inv n w L a g){op:BinOp}{xt yt:TypeId}{x y:Operand}{x' y':XO}(ho:o.op = .binOp op xt x y yt)(hx:trO x=some x')(hy:trO y=some y')
 {v:PV}(hv:pvBin op (lookG g x') (lookG g y')=some v):ValAt P o a w L v:=by
 have Hx:=I.look hx Option.none
 have Hy:=I.look hy Option.none
 generalize hu:a.eval x=u at Hx
 generalize hu':a.eval y=u' at Hy
 have fin:∀{v:PV},BinGood P w (Go.binOp op xt u u') v->(∀cs,u ≠ .agg cs)->u ≠ .nilIface->ValAt P o a w L v:=by
  rintro v ⟨z,hz,hr,hf⟩ h1 h2
  exact⟨z,by simp[execOp,ho,hu,hu',run_eqGuard_no h1 h2,hz],fun h=>hr _ _,free_noOwn hf⟩
 generalize hlx:lookG g x'=X at *
 generalize hly:lookG g y'=Y at *
 cases X <;> cases Y <;> simp only[pvBin,reduceCtorEq] at hv
 case int.int k p k' q=>
  cases Hx;cases Hy
  exact fin (run_intBin hv) (by simp) (by simp)
 case str.str p q=>
  cases Hx with
  | str _ s _ e=>cases Hy with
    | str _ s' _ e'=>subst e;subst e';exact fin (run_strBin hv) (by simp) (by simp)
theorem ok_eq(I:Inv n w L a g){neg:Bool}{xt yt:TypeId}{x y:Operand}(ho:o.op = .binOp (if neg then .neq else .eql) xt x y yt){u u':Value}(hu:a.eval x=u)(hu':a.eval y=u')
 (hg:(eqGuard (if neg then .neq else .eql) xt x y u u').run P w = .ok () w)
 (hb:∀op,(op = .eql\/op = .neq)->Go.binOp op xt u u'=(do let z ←Op.equal xt u u';pure (.bool (if op = .eql then z else !z))))
 {b:Bool}(hr:(Op.equal xt u u').run P w = .ok b w):ValAt P o a w L (.bool (neg ^^ b)):=by
 refine⟨.bool (neg ^^ b),?_,fun h=>.bool _ _,rfl⟩
 have:=hb (if neg then .neq else .eql) (by cases neg <;> simp)
 cases neg
 ·simp only[Bool.false_eq_true,if_false] at *
  simp[execOp,ho,hu,hu',hg,this,hr]
 ·simp only[if_true] at *
  simp[execOp,ho,hu,hu',hg,this,hr]
theorem run_equal_bool{t:TypeId}(hu:P.underlying t=some .bool){a b:Bool}(d:Nat):(Op.equalIn (d+1) t (.bool a) (.bool b)).run P w = .ok (a==b) w:=by
 simp[Op.equalIn,run_underlying' hu]
theorem ok_beq(I:Inv n w L a g){neg:Bool}{xt yt:TypeId}{x y:Operand}{x' y':XO}(ho:o.op = .binOp (if neg then .neq else .eql) xt x y yt)(hx:trO x=some x')(hy:trO y=some y')
 (ht:P.underlying xt=some .bool){b:Bool}(hv:pvBeq (lookG g x') (lookG g y')=some b):ValAt P o a w L (.bool (neg ^^ b)):=by
 have Hx:=I.look hx Option.none
 have Hy:=I.look hy Option.none
 generalize hu:a.eval x=u at Hx
 generalize hu':a.eval y=u' at Hy
 unfold pvBeq at hv
 split at hv
 ·rename_i p q e e'
  obtain rfl:=Option.some.inj hv
  rw[e] at Hx;rw[e'] at Hy
  cases Hx;cases Hy
  exact ok_eq I ho hu hu' (run_eqGuard_no (by simp) (by simp)) (by rintro op (rfl|rfl) <;> simp[Go.binOp]) (run_equal_bool ht 9999)
 ·cases hv
def ptrP(P:Program)(t:TypeId):Option TypeId:=
 match P.underlying t with
 | some (.pointer e)=>some e
 | _=>Option.none
theorem ptrP_some{t e:TypeId}(h:ptrP P t=some e):P.underlying t=some (.pointer e):=by
 unfold ptrP at h
 split at h
 ·simp at h;subst h;assumption
 ·cases h
theorem run_equal_ptr{t e:TypeId}(hu:P.underlying t=some (.pointer e)){a b:Option Addr}(hn:a.isNone=true\/b.isNone=true):
 ∀d,(Op.equalIn (d+1) t (.pointer a) (.pointer b)).run P w = .ok (a.isNone&&b.isNone) w:=by
 intro d
 cases a with
 | none=>cases b <;> simp[Op.equalIn,run_underlying' hu]
 | some x=>cases b with
   | none=>simp[Op.equalIn,run_underlying' hu]
   | some y=>simp at hn
theorem ok_peq(I:Inv n w L a g){neg:Bool}{xt yt et:TypeId}{x y:Operand}{x' y':XO}(ho:o.op = .binOp (if neg then .neq else .eql) xt x y yt)(hx:trO x=some x')(hy:trO y=some y')
 (ht:ptrP P xt=some et){b:Bool}(hv:pvPeq (lookG g x') (lookG g y')=some b):ValAt P o a w L (.bool (neg ^^ b)):=by
 have Hx:=I.look hx Option.none
 have Hy:=I.look hy Option.none
 generalize hu:a.eval x=u at Hx
 generalize hu':a.eval y=u' at Hy
 have fin:∀p q:Option Addr,u = .pointer p->u' = .pointer q->(p.isNone=true\/q.isNone=true)->b=(p.isNone&&q.isNone)->ValAt P o a w L (.bool (neg ^^ b)):=by
  rintro p q rfl rfl hn rfl
  exact ok_eq I ho hu hu' (run_eqGuard_no (by simp) (by simp)) (by rintro op (rfl|rfl) <;> cases p <;> cases q<;>simp_all [Go.binOp]) (run_equal_ptr (ptrP_some ht) hn 9999)
 generalize hlx:lookG g x'=X at *
 generalize hly:lookG g y'=Y at *
 cases X <;> cases Y <;> simp only[pvPeq,reduceCtorEq,Option.some.injEq] at hv
 all_goals (cases Hx;cases Hy;exact fin _ _ rfl rfl (by simp) (by simp[←hv]))
def protoP(P:Program)(t:TypeId):Option PV:=
 match P.underlying t with
 | some .bool=>some (.bool false)
 | some (.int k)=>some (.int k 0)
 | some .string=>some (.str [])
 | _=>Option.none
def fieldsProto(P:Program):Nat->List Field->Option (List PV)
 | _,[]=>some []
 | i, f :: fs => if f.offset = i ∧ f.name ≠ "_" then (protoP P f.type).bind fun z => (fieldsProto P (i + 1) fs).map fun zs => z :: zs else Option.none
def aeqP(P:Program)(t:TypeId):Option (List PV):=
 if P.eqGuardType P.depth t then Option.none else
 match P.underlying t with
 | some (.struct fs)=>if P.stoodInHeld t then Option.none else fieldsProto P 0 fs.toList
 | some (.array n e)=>(protoP P e).bind fun z=>(P.info? e).bind fun i=>if i.size=1 then some (List.replicate n z) else Option.none
 | _=>Option.none
theorem protoP_plain{t:TypeId}{z:PV}(h:protoP P t=some z):P.plainKey t=true:=by
 unfold protoP at h
 unfold Program.plainKey
 split at h <;> first | (rename_i hu;rw[hu]) | cases h
theorem eqCells_cons{z:PV}{zs as bs:List PV}{r:Bool}(h:eqCells (z::zs) as bs=some r):∃a b as' bs' r',as=a::as'/\bs=b::bs'/\eqCells zs as' bs'=some r'/\∃q,r=(q&&r')/\eqCells [z] [a] [b]=some q:=by
 unfold eqCells at h
 split at h
 ·rename_i h1;cases h1
 ·rename_i k a r1 k' b r2 h1
  simp only[List.cons.injEq] at h1
  obtain⟨rfl,rfl⟩:=h1
  split at h
  ·rename_i hk
   simp only[Option.map_eq_some_iff] at h
   obtain⟨r',hr,rfl⟩:=h
   exact⟨_,_,_,_,r',rfl,rfl,hr,_,rfl,by simp[eqCells,hk]⟩
  ·cases h
 ·rename_i a r1 b r2 h1
  simp only[List.cons.injEq] at h1
  obtain⟨rfl,rfl⟩:=h1
  simp only[Option.map_eq_some_iff] at h
  obtain⟨r',hr,rfl⟩:=h
  exact⟨_,_,_,_,r',rfl,rfl,hr,_,rfl,by simp[eqCells]⟩
 ·rename_i a r1 b r2 h1
  simp only[List.cons.injEq] at h1
  obtain⟨rfl,rfl⟩:=h1
  simp only[Option.map_eq_some_iff] at h
  obtain⟨r',hr,rfl⟩:=h
  exact⟨_,_,_,_,r',rfl,rfl,hr,_,rfl,by simp[eqCells]⟩
 ·cases h
theorem run_cell_eq{t:TypeId}{z a b:PV}{u v:Value}{q:Bool}(hz:protoP P t=some z)(ha:RepV w L Option.none a u)(hb:RepV w L Option.none b v)(h:eqCells [z] [a] [b]=some q)(d:Nat):(Op.equalIn (d+1) t u v).run P w = .ok q w:=by
 unfold protoP at hz
 split at hz
 ·rename_i hu
  obtain rfl:=Option.some.inj hz
  cases ha <;> cases hb <;> simp[eqCells] at h
  subst h
  exact run_equalIn_bool _ d t _ _ hu
 ·rename_i k hu
  obtain rfl:=Option.some.inj hz
  cases ha <;> cases hb <;> simp[eqCells] at h
  obtain⟨rfl,rfl⟩:=h
  exact run_equalIn_int _ d t _ _ _ _ hu
 ·rename_i hu
  obtain rfl:=Option.some.inj hz
  cases ha <;> cases hb <;> simp[eqCells] at h
  rename_i s1 l1 e1 s2 l2 e2
  subst h;subst e1;subst e2
  rw[run_equalIn_string _ d t _ _ hu]
  simp[ByteArray.toList_eq]
 ·cases hz
theorem run_eqFields{xs ys:Array Value}(d:Nat):∀(fs:List Field) (i:Nat) (z as bs:List PV) (r:Bool),fieldsProto P i fs=some z->eqCells z as bs=some r ->
 (∀j (hj:j<as.length),RepV w L Option.none as[j] (xs.getD (i+j) undef)/\i+j<xs.size)->(∀j (hj:j<bs.length),RepV w L Option.none bs[j] (ys.getD (i+j) undef)/\i+j<ys.size)->(Op.eqFields (d+1) xs ys fs).run P w = .ok r w
 | [],i,z,as,bs,r,hz,h,ha,hb=>by
   simp only[fieldsProto,Option.some.injEq] at hz
   subst hz
   cases as <;> cases bs <;> simp[eqCells] at h
   subst h
   simp[Op.eqFields]
 | f::fs,i,z,as,bs,r,hz,h,ha,hb=>by
   simp only[fieldsProto] at hz
   split at hz
   ·rename_i hf
    obtain⟨rfl,hname⟩:=hf
    simp only[Option.bind_eq_some_iff,Option.map_eq_some_iff] at hz
    obtain⟨z0,hz0,zs,hzs,rfl⟩:=hz
    obtain⟨a,b,as',bs',r',rfl,rfl,hr',q,rfl,hq⟩:=eqCells_cons h
    have h1:=ha 0 (by simp)
    have h2:=hb 0 (by simp)
    simp only[Nat.add_zero,List.getElem_cons_zero] at h1 h2
    have p1:=run_part_plain w (protoP_plain hz0) (xs:=xs) (off:=f.offset) (v:=xs.getD f.offset undef) (by simp[Array.getD,h1.2])
    have p2:=run_part_plain w (protoP_plain hz0) (xs:=ys) (off:=f.offset) (v:=ys.getD f.offset undef) (by simp[Array.getD,h2.2])
    have e1:=run_cell_eq hz0 h1.1 h2.1 hq d
    have e2:=run_eqFields d fs (f.offset+1) zs as' bs' r' hzs hr' (fun j hj=>by
     have:=ha (j+1) (by simpa using hj)
     simpa[Nat.add_assoc,Nat.add_comm 1] using this) (fun j hj=>by
     have:=hb (j+1) (by simpa using hj)
     simpa[Nat.add_assoc,Nat.add_comm 1] using this)
    generalize xs.getD f.offset undef=u at p1 e1
    generalize ys.getD f.offset undef=v at p2 e1
    cases q
    ·simp[Op.eqFields,hname,p1,p2,e1]
    ·simp[Op.eqFields,hname,p1,p2,e1,e2]
   ·cases hz
theorem run_eqItems{xs ys:Array Value}(d:Nat){e:TypeId}{z0:PV}(hz0:protoP P e=some z0):∀(k i:Nat) (as bs:List PV) (r:Bool),eqCells (List.replicate k z0) as bs=some r ->
 (∀j (hj:j<as.length),RepV w L Option.none as[j] (xs.getD (i+j) undef)/\i+j<xs.size)->(∀j (hj:j<bs.length),RepV w L Option.none bs[j] (ys.getD (i+j) undef)/\i+j<ys.size)->(Op.eqItems (d+1) e 1 xs ys (List.range' i k)).run P w = .ok r w
 | 0,i,as,bs,r,h,ha,hb=>by
   cases as <;> cases bs <;> simp[eqCells] at h
   subst h
   simp[Op.eqItems]
 | k+1,i,as,bs,r,h,ha,hb=>by
   rw[List.replicate_succ] at h
   obtain⟨a,b,as',bs',r',rfl,rfl,hr',q,rfl,hq⟩:=eqCells_cons h
   have h1:=ha 0 (by simp)
   have h2:=hb 0 (by simp)
   simp only[Nat.add_zero,List.getElem_cons_zero] at h1 h2
   have p1:=run_part_plain w (protoP_plain hz0) (xs:=xs) (off:=i) (v:=xs.getD i undef) (by simp[Array.getD,h1.2])
   have p2:=run_part_plain w (protoP_plain hz0) (xs:=ys) (off:=i) (v:=ys.getD i undef) (by simp[Array.getD,h2.2])
   have e1:=run_cell_eq hz0 h1.1 h2.1 hq d
   have e2:=run_eqItems d hz0 k (i+1) as' bs' r' hr' (fun j hj=>by
    have:=ha (j+1) (by simpa using hj)
    simpa[Nat.add_assoc,Nat.add_comm 1] using this) (fun j hj=>by
    have:=hb (j+1) (by simpa using hj)
    simpa[Nat.add_assoc,Nat.add_comm 1] using this)
   rw[List.range'_succ]
   simp only[Op.eqItems,Nat.mul_one,Sem.run_bind,p1,p2,e1,Result.andThen_ok]
   cases q
   ·simp
   ·simp[e2]
theorem run_aeq{t:TypeId}{z:List PV}(hz:aeqP P t=some z){as bs:List PV}{u v:Value}(ha:RepV w L Option.none (.agg as) u)(hb:RepV w L Option.none (.agg bs) v){r:Bool}(h:eqCells z as bs=some r):
 P.eqGuardType P.depth t=false/\(∃xs,u = .agg xs)/\(∃ys,v = .agg ys)/\(Op.equal t u v).run P w = .ok r w:=by
 unfold aeqP at hz
 split at hz
 ·cases hz
 ·rename_i hg
  have hg':P.eqGuardType P.depth t=false:=by simpa using hg
  cases ha with
  | agg _ _ xs hzx hcx=>
    cases hb with
    | agg _ _ ys hzy hcy=>
      refine⟨hg',⟨_,rfl⟩,⟨_,rfl⟩,?_⟩
      have Ha:∀j (hj:j<as.length),RepV w L Option.none as[j] (xs.getD (0+j) undef)/\0+j<xs.size:=fun j hj=>by rw[Nat.zero_add];exact⟨hcx j hj,by omega⟩
      have Hb:∀j (hj:j<bs.length),RepV w L Option.none bs[j] (ys.getD (0+j) undef)/\0+j<ys.size:=fun j hj=>by rw[Nat.zero_add];exact⟨hcy j hj,by omega⟩
      split at hz
      ·rename_i fs hu
       split at hz
       ·cases hz
       ·rename_i hs
        have hfs:P.fieldsOf t=fs:=by simp[Program.fieldsOf,hu]
        show (Op.equalIn (9999+1) t (.agg xs) (.agg ys)).run P w=_
        rw[run_equalIn_struct w 9999 t xs ys (by rw[hfs];exact hu) (by simpa using hs),hfs]
        exact run_eqFields 9998 fs.toList 0 z as bs r hz h Ha Hb
      ·rename_i n e hu
       simp only[Option.bind_eq_some_iff] at hz
       obtain⟨z0,hz0,i,hi,hz⟩:=hz
       split at hz
       ·rename_i hsz
        obtain rfl:=Option.some.inj hz
        show (Op.equalIn (9999+1) t (.agg xs) (.agg ys)).run P w=_
        rw[run_equalIn_array w 9999 xs ys hu hi,show P.cellsOf e=1 by simp[Program.cellsOf,hi,hsz],List.range_eq_range']
        exact run_eqItems 9998 hz0 n 0 as bs r h Ha Hb
       ·cases hz
      ·cases hz
theorem ok_aeq(I:Inv n w L a g){neg:Bool}{xt yt:TypeId}{x y:Operand}{x' y':XO}{z:List PV}(ho:o.op = .binOp (if neg then .neq else .eql) xt x y yt)(hx:trO x=some x')(hy:trO y=some y')
 (ht:aeqP P xt=some z){b:Bool}(hv:pvAeq z (lookG g x') (lookG g y')=some b):ValAt P o a w L (.bool (neg ^^ b)):=by
 have Hx:=I.look hx Option.none
 have Hy:=I.look hy Option.none
 generalize hu:a.eval x=u at Hx
 generalize hu':a.eval y=u' at Hy
 unfold pvAeq at hv
 split at hv
 ·rename_i as bs e e'
  rw[e] at Hx;rw[e'] at Hy
  obtain⟨h1,⟨xs,rfl⟩,⟨ys,rfl⟩,h4⟩:=run_aeq ht Hx Hy hv
  refine ok_eq I ho hu hu' ?_ (by rintro op (rfl|rfl) <;> simp[Go.binOp]) h4
  cases neg <;> simp[eqGuard,h1]
 ·cases hv
end
open Go
section
variable {P:Program} {n:Nat} {w:World} {L:LM} {a:Act} {g:Nat->PV} {o:Oper}
theorem look_int(I:Inv n w L a g){x:Operand}{x':XO}(hx:trO x=some x'){k:IntKind}{i:Int}(e:lookG g x' = .int k i):a.eval x = .int k i:=by
 have H:=I.look hx Option.none
 rw[e] at H
 generalize a.eval x=u at *
 cases H;rfl
theorem look_bool(I:Inv n w L a g){x:Operand}{x':XO}(hx:trO x=some x'){b:Bool}(e:lookG g x' = .bool b):a.eval x = .bool b:=by
 have H:=I.look hx Option.none
 rw[e] at H
 generalize a.eval x=u at *
 cases H;rfl
def intP(P:Program)(t:TypeId):Option IntKind:=
 match P.underlying t with
 | some (.int k)=>some k
 | _=>Option.none
theorem intP_some{t:TypeId}{k:IntKind}(h:intP P t=some k):P.underlying t=some (.int k):=by
 unfold intP at h
 split at h
 ·simp at h;subst h;assumption
 ·cases h
theorem ok_conv(I:Inv n w L a g){s d:TypeId}{x:Operand}{x':XO}{k k0 k1:IntKind}(ho:o.op = .convert s d x)(hx:trO x=some x')(hs:intP P s=some k0)(hd:intP P d=some k){i:Int}(e:lookG g x' = .int k1 i):
 ValAt P o a w L (.int k (k.wrap i)):=
 ⟨.int k (k.wrap i),by simp[execOp,ho,look_int I hx e,convert,run_underlying' (intP_some hs),run_underlying' (intP_some hd),Conv.intToInt],fun h=>.int _ _ _,rfl⟩
theorem ok_un(I:Inv n w L a g){op:UnOp}{t:TypeId}{x:Operand}{x':XO}(ho:o.op = .unOp op t x)(hx:trO x=some x'){v:PV}(hv:pvUn op (lookG g x')=some v):ValAt P o a w L v:=by
 unfold pvUn at hv
 split at hv
 ·rename_i k i e
  cases op <;> simp at hv
  subst hv
  exact⟨.int k (k.wrap (0-i)),by simp[execOp,ho,look_int I hx e,Op.unary,Op.intArith],fun h=>by simpa using RepV.int _ _ _,rfl⟩
 ·rename_i b e
  cases op <;> simp at hv
  subst hv
  exact⟨.bool (!b),by simp[execOp,ho,look_bool I hx e,Op.unary],fun h=>.bool _ _,rfl⟩
 ·cases hv
def sliceP(P:Program)(t:TypeId):Option TypeId:=
 match P.underlying t with
 | some (.slice e)=>some e
 | _=>Option.none
theorem sliceP_some{t e:TypeId}(h:sliceP P t=some e):P.underlying t=some (.slice e):=by
 unfold sliceP at h
 split at h
 ·simp at h;subst h;assumption
 ·cases h
theorem ok_iadr_slice(I:Inv n w L a g){t et sz:Nat}{x y:Operand}{x' y':XO}(ho:o.op = .indexAddr t x y)(hx:trO x=some x')(hy:trO y=some y')(ht:sliceP P t=some et)(hz:szP P et=some sz)(hz0:0<sz)
 {k:IntKind}{j:Int}(e':lookG g y' = .int k j){v:PV}
 (hv:(match lookG g x' with
   | .sl n cs=>if idxOk j n then some (.sp ((cs.drop (j.toNat*sz)).take sz)) else Option.none
   | .view r p off n z=>if idxOk j n&&z==sz then some (.ref r p (off+j.toNat*sz) sz) else Option.none
   | _=>Option.none)=some v):ValAt P o a w L v:=by
 have H:=I.look hx Option.none
 generalize hu:a.eval x=u at H
 have hy':=look_int I hy e'
 have run:∀b of ln cap,u = .slice (some ⟨b,of,Option.none⟩) ln cap->0<=j->j<ln->(execOp a.eval o).run P w = .ok (.value (.pointer (some ⟨b,of+j.toNat*sz,Option.none⟩))) w:=by
  rintro b of ln cap rfl h0 h1
  simp[execOp,ho,Instr.indexAt,hy',hu,asIntOf,run_underlying' (sliceP_some ht),h0,h1,run_sizeOf' hz,addr_add]
 split at hv
 ·rename_i m cs e
  rw[e] at H
  split at hv
  ·rename_i hj
   rw[idxOk_iff] at hj
   obtain rfl:=Option.some.inj hv
   cases H with
   | sl _ _ _ b of cap hl hs hk hc=>
     refine⟨_,run b of _ cap rfl hj.1 hj.2,fun h=>sp_take (fun i hi=>?_) (fun i hi=>?_) (fun i hi=>?_) h,rfl⟩
     ·rw[Nat.add_assoc];exact hs _ (by simp at hi;omega)
     ·simp only[List.getElem_drop];exact hk _ _
     ·simp only[List.getElem_drop,Nat.add_assoc];exact hc _ _
   | sl0=>omega
  ·cases hv
 ·rename_i r p off m z e
  rw[e] at H
  split at hv
  ·rename_i hj
   simp only[Bool.and_eq_true,beq_iff_eq] at hj
   obtain⟨hj,rfl⟩:=hj
   rw[idxOk_iff] at hj
   obtain rfl:=Option.some.inj hv
   cases H with
   | view _ _ _ _ _ _ b cap hl hp hlab=>
     refine⟨_,run b off _ cap rfl hj.1 hj.2,fun h=>.ref _ _ _ _ _ _ _ hz0 fun q hq=>?_,rfl⟩
     rw[Nat.add_assoc]
     have h1:j.toNat+1<=cap:=by omega
     have h2:(j.toNat+1)*z<=cap*z:=Nat.mul_le_mul_right _ h1
     rw[Nat.add_mul,Nat.one_mul] at h2
     exact hlab (off+(j.toNat*z+q)) (by omega)
  ·cases hv
 ·cases hv
theorem ok_iadr_arr(I:Inv n w L a g){t et sz m:Nat}{x y:Operand}{x' y':XO}(ho:o.op = .indexAddr t x y)(hx:trO x=some x')(hy:trO y=some y')(ht:arrP P t=some (m,et))(hz:szP P et=some sz)(hz0:0<sz)
 {k:IntKind}{j:Int}(e':lookG g y' = .int k j){v:PV}
 (hv:(match lookG g x' with
   | .ref r p o z=>if idxOk j m&&decide (m*sz<=z) then some (.ref r p (o+j.toNat*sz) sz) else Option.none
   | .sp cs=>if idxOk j m then some (.sp (cs.drop (j.toNat*sz))) else Option.none
   | _=>Option.none)=some v):ValAt P o a w L v:=by
 have H:=I.look hx Option.none
 generalize hu:a.eval x=u at H
 have hy':=look_int I hy e'
 have run:∀b of,u = .pointer (some ⟨b,of,Option.none⟩)->0<=j->j<m->(execOp a.eval o).run P w = .ok (.value (.pointer (some ⟨b,of+j.toNat*sz,Option.none⟩))) w:=by
  rintro b of rfl h0 h1
  simp[execOp,ho,Instr.indexAt,Instr.sureAddr,hy',hu,asIntOf,run_underlying' (arrP_some ht),h0,h1,run_sizeOf' hz,addr_add]
 split at hv
 ·rename_i r p off z e
  rw[e] at H
  split at hv
  ·rename_i hj
   simp only[Bool.and_eq_true,decide_eq_true_eq] at hj
   obtain⟨hj,hz'⟩:=hj
   rw[idxOk_iff] at hj
   obtain rfl:=Option.some.inj hv
   cases H with
   | ref _ _ _ _ _ b j0 hp hlab=>
     refine⟨_,run b j0 rfl hj.1 hj.2,fun h=>.ref _ _ _ _ _ _ _ hz0 fun q hq=>?_,rfl⟩
     have h2:(j.toNat+1)*sz<=m*sz:=Nat.mul_le_mul_right _ (by omega)
     rw[Nat.add_mul,Nat.one_mul] at h2
     rw[Nat.add_assoc,hlab _ (by omega),Nat.add_assoc]
  ·cases hv
 ·rename_i cs e
  rw[e] at H
  split at hv
  ·rename_i hj
   rw[idxOk_iff] at hj
   obtain rfl:=Option.some.inj hv
   cases H with
   | sp _ _ b j0 hs hk hc=>exact⟨_,run b j0 rfl hj.1 hj.2,fun h=>sp_drop hs hk hc h,rfl⟩
  ·cases hv
 ·cases hv
theorem ok_nilck(I:Inv n w L a g){x:Operand}{x':XO}(ho:o.op = .nilCheck x)(hx:trO x=some x'){v:PV}
 (hv:(match lookG g x' with | .ref r p i m=>some (.ref r p i m) | .sp cs=>some (.sp cs) | _=>Option.none)=some v):ValAt P o a w L v:=by
 have H:=fun h=>I.look hx h
 generalize hu:a.eval x=u at H
 split at hv
 ·rename_i r p i m e
  rw[e] at H
  obtain rfl:=Option.some.inj hv
  have H0:=H Option.none
  cases H0
  exact⟨_,by simp[execOp,ho,hu],H,rfl⟩
 ·rename_i cs e
  rw[e] at H
  obtain rfl:=Option.some.inj hv
  have H0:=H Option.none
  cases H0
  exact⟨_,by simp[execOp,ho,hu],H,rfl⟩
 ·cases hv
theorem ok_ext(I:Inv n w L a g){i:Nat}{x:Operand}{x':XO}(ho:o.op = .extract x i)(hx:trO x=some x'){v:PV}
 (hv:(match lookG g x' with
 | .tup vs=>match vs[i]? with
   | some (.agg cs)=>if cs.all PV.free then some (.agg cs) else Option.none
   | some v=>if v.free then some v else Option.none
   | _=>Option.none
 | _=>Option.none)=some v):ValAt P o a w L v:=by
 have H:=I.look hx Option.none
 generalize hu:a.eval x=u at H
 split at hv
 ·rename_i vs e
  rw[e] at H
  cases H with
  | tup _ _ us hz hc=>
    have key:∀v,vs[i]? = some v->noOwn v=true->ValAt P o a w L v:=by
     intro v hi hn
     obtain⟨hlt,rfl⟩:=List.getElem?_eq_some_iff.1 hi
     have hlt':i<us.size:=by omega
     refine⟨us[i],by simp[execOp,ho,hu,Instr.extract,hlt'],fun h=>?_,hn⟩
     have:=hc i hlt
     rw[show us.getD i undef=us[i] from by simp[Array.getD,hlt']] at this
     exact this.loose hn h
    split at hv
    ·rename_i cs hi
     split at hv
     ·rename_i hf
      obtain rfl:=Option.some.inj hv
      refine key _ hi (by simp only[noOwn];exact noOwnL_of fun c hc=>free_noOwn (by simpa using (List.all_eq_true.1 hf) c hc))
     ·cases hv
    ·rename_i v' hn' hi
     split at hv
     ·rename_i hf
      obtain rfl:=Option.some.inj hv
      exact key _ hi (free_noOwn hf)
     ·cases hv
    ·cases hv
 ·cases hv
theorem run_builtin{c:Call}{b:Builtin}(ho:o.op = .call c)(hb:c.callee = .builtin b){v:Value}{w':World}
 (hr:∀ks,(Go.builtin b c.argTypes o.type ks (c.args.map a.eval)).run P w = .ok (.value v) w'):(execOp a.eval o).run P w = .ok (.value v) w':=by
 simp only[execOp,ho,Sem.run_bind,resolve,hb,Sem.run_pure,Result.andThen_ok,invoke]
 exact hr _
theorem ok_len(I:Inv n w L a g){c:Call}{t:TypeId}{x:Operand}{x':XO}(ho:o.op = .call c)(hb:c.callee = .builtin .len)(hc:c.args=#[x])(ht:c.argTypes=#[t])(hx:trO x=some x')
 (hk:P.underlying t=some .string\/∃e,P.underlying t=some (.slice e)){v:PV}
 (hv:(match lookG g x' with
 | .str s=>some (PV.int .i64 s.length)
 | .sl n _=>some (.int .i64 n)
 | .view _ _ _ n _=>some (.int .i64 n)
 | .nils=>some (.int .i64 0)
 | _=>Option.none)=some v)(hk':(match lookG g x' with | .str _=>P.underlying t=some .string | _=>∃e,P.underlying t=some (.slice e))):ValAt P o a w L v:=by
 have H:=I.look hx Option.none
 generalize hu:a.eval x=u at H
 have fin:∀m:Nat,(Builtin.len_ #[t] o.type #[u]).run P w = .ok (.int .i64 m) w->ValAt P o a w L (.int .i64 m):=fun m hm=>
  ⟨.int .i64 m,run_builtin ho hb fun ks=>by simp[Go.builtin,hc,ht,hu,hm],fun h=>.int _ _ _,rfl⟩
 split at hv
 ·rename_i s e
  rw[e] at H hk'
  obtain rfl:=Option.some.inj hv
  cases H with
  | str _ b _ eb=>subst eb;exact fin _ (by simp[Builtin.len_,run_underlying' hk',goInt,bytes_len])
 ·rename_i m cs e
  rw[e] at H hk'
  obtain rfl:=Option.some.inj hv
  obtain⟨et,hk'⟩:=hk'
  cases H with
  | sl=>exact fin _ (by simp[Builtin.len_,run_underlying' hk',goInt])
  | sl0=>exact fin _ (by simp[Builtin.len_,run_underlying' hk',goInt])
 ·rename_i r p off m z e
  rw[e] at H hk'
  obtain rfl:=Option.some.inj hv
  obtain⟨et,hk'⟩:=hk'
  cases H
  exact fin _ (by simp[Builtin.len_,run_underlying' hk',goInt])
 ·rename_i e
  rw[e] at H hk'
  obtain rfl:=Option.some.inj hv
  obtain⟨et,hk'⟩:=hk'
  cases H
  exact fin 0 (by simp[Builtin.len_,run_underlying' hk',goInt])
 ·cases hv
theorem ok_lenk(I:Inv n w L a g){c:Call}{t et m:Nat}{x:Operand}(ho:o.op = .call c)(hb:c.callee = .builtin .len)(hc:c.args=#[x])(ht:c.argTypes=#[t])(hk:arrP P t=some (m,et)):
 ValAt P o a w L (.int .i64 m):=
 ⟨.int .i64 m,run_builtin ho hb fun ks=>by simp[Go.builtin,hc,ht,Builtin.len_,run_underlying' (arrP_some hk),goInt],fun h=>.int _ _ _,rfl⟩
theorem ok_mx(I:Inv n w L a g){c:Call}{x y:Operand}{x' y':XO}(ho:o.op = .call c)(hb:c.callee = .builtin .max)(hc:c.args=#[x,y])(hx:trO x=some x')(hy:trO y=some y'){k:IntKind}{i j:Int}
 (e:lookG g x' = .int k i)(e':lookG g y' = .int k j):ValAt P o a w L (.int k (if i<j then j else i)):=
 ⟨.int k (if i<j then j else i),run_builtin ho hb fun ks=>by simp[Go.builtin,hc,Builtin.max_,look_int I hx e,look_int I hy e',Builtin.max2],fun h=>.int _ _ _,rfl⟩
theorem ok_mn(I:Inv n w L a g){c:Call}{x y:Operand}{x' y':XO}(ho:o.op = .call c)(hb:c.callee = .builtin .min)(hc:c.args=#[x,y])(hx:trO x=some x')(hy:trO y=some y'){k:IntKind}{i j:Int}
 (e:lookG g x' = .int k i)(e':lookG g y' = .int k j):ValAt P o a w L (.int k (if j<i then j else i)):=
 ⟨.int k (if j<i then j else i),run_builtin ho hb fun ks=>by simp[Go.builtin,hc,Builtin.min_,look_int I hx e,look_int I hy e',Builtin.min2],fun h=>.int _ _ _,rfl⟩
theorem run_bound(I:Inv n w L a g){y:Operand}{y':XO}(hy:trO y=some y'){m q d:Nat}(hb:bnd (lookG g) m (some y') d=some q){top:Nat}(ht:m<=top)(code:BoundsCode):
 (Instr.sliceBound (a.eval y) top code).run P w = .ok q w/\q<=m:=by
 simp only[bnd] at hb
 split at hb
 ·rename_i k i e
  split at hb
  ·rename_i hi
   obtain rfl:=Option.some.inj hb
   refine⟨?_,by omega⟩
   have h1:0<=i/\i<=(top:Int):=⟨hi.1,by omega⟩
   simp[Instr.sliceBound,look_int I hy e,asIntOf,h1]
  ·cases hb
 ·cases hb
def trOpt:Option Operand->Option (Option XO)
 | Option.none=>some Option.none
 | some x=>(trO x).map some
theorem run_bounds(I:Inv n w L a g){lo hi:Option Operand}{lo' hi':Option XO}(hl:trOpt lo=some lo')(hh:trOpt hi=some hi'){len cap l h:Nat}(hc:len<=cap)(isS:Bool)
 (e1:bnd (lookG g) len hi' len=some h)(e2:bnd (lookG g) h lo' 0=some l):
 (Instr.sliceBounds isS len cap (lo.map a.eval) (hi.map a.eval) Option.none).run P w = .ok (l,h,cap) w/\l<=h/\h<=len:=by
 have Hh:h<=len/\((match hi.map a.eval with
  | some v=>Instr.sliceBound v cap (if isS then .sliceAcap else .sliceAlen)
  | Option.none=>pure len):Sem Nat).run P w = .ok h w:=by
  cases hi with
  | none=>
    simp only[trOpt,Option.some.injEq] at hh;subst hh
    simp only[bnd,Option.some.injEq] at e1;subst e1
    exact⟨Nat.le_refl _,by simp⟩
  | some y=>
    simp only[trOpt,Option.map_eq_some_iff] at hh
    obtain⟨y',hy,rfl⟩:=hh
    have:=run_bound (P:=P) I hy e1 hc (if isS then .sliceAcap else .sliceAlen)
    exact⟨this.2,by simpa using this.1⟩
 have Hl:l<=h/\∀code,((match lo.map a.eval with
  | some v=>Instr.sliceBound v h code
  | Option.none=>pure 0):Sem Nat).run P w = .ok l w:=by
  cases lo with
  | none=>
    simp only[trOpt,Option.some.injEq] at hl;subst hl
    simp only[bnd,Option.some.injEq] at e2;subst e2
    exact⟨Nat.zero_le _,by simp⟩
  | some y=>
    simp only[trOpt,Option.map_eq_some_iff] at hl
    obtain⟨y',hy,rfl⟩:=hl
    exact⟨(run_bound (P:=P) I hy e2 (Nat.le_refl _) .index).2,fun code=>by simpa using (run_bound (P:=P) I hy e2 (Nat.le_refl _) code).1⟩
 refine⟨?_,Hl.1,Hh.1⟩
 unfold Instr.sliceBounds
 cases hi with
 | none=>
   have e:len=h:=by simpa using Hh.2
   subst e
   cases lo with
   | none=>have:=Hl.2 .index;simpa using this
   | some y=>simp only[Option.map_some] at Hl;simp[Hl.2]
 | some z=>
   simp only[Option.map_some] at Hh
   cases lo with
   | none=>have:=Hl.2 .index;simp[Hh.2];simpa using this
   | some y=>simp only[Option.map_some] at Hl;simp[Hh.2,Hl.2]
theorem ok_slc_str(I:Inv n w L a g){t:TypeId}{x:Operand}{x':XO}{lo hi:Option Operand}{lo' hi':Option XO}(ho:o.op = .slice t x lo hi Option.none)(hx:trO x=some x')(hl:trOpt lo=some lo')(hh:trOpt hi=some hi')
 (ht:P.underlying t=some .string){s:List UInt8}(e:lookG g x' = .str s){l h:Nat}(e1:bnd (lookG g) s.length hi' s.length=some h)(e2:bnd (lookG g) h lo' 0=some l):
 ValAt P o a w L (.str ((s.take h).drop l)):=by
 have H:=I.look hx Option.none
 rw[e] at H
 generalize hu:a.eval x=u at H
 cases H with
 | str _ b _ eb=>
   subst eb
   rw[bytes_len] at e1
   obtain⟨hr,h1,h2⟩:=run_bounds (P:=P) I hl hh (Nat.le_refl b.size) false e1 e2
   refine⟨.string (b.extract l h),?_,fun hd=>.str _ _ _ ?_,rfl⟩
   ·simp[execOp,ho,Instr.sliceAt,Instr.slice,run_underlying' ht,hu,hr]
   ·simp[ByteArray.data_extract,List.drop_take]
theorem ok_slc_sl(I:Inv n w L a g){t et sz:Nat}{x:Operand}{x':XO}{lo hi:Option Operand}{lo' hi':Option XO}(ho:o.op = .slice t x lo hi Option.none)(hx:trO x=some x')(hl:trOpt lo=some lo')(hh:trOpt hi=some hi')
 (ht:sliceP P t=some et)(hz:szP P et=some sz){m:Nat}{cs:List PV}(e:lookG g x' = .sl m cs){l h:Nat}(e1:bnd (lookG g) m hi' m=some h)(e2:bnd (lookG g) h lo' 0=some l):
 ValAt P o a w L (.sl (h-l) ((cs.take (h*sz)).drop (l*sz))):=by
 have H:=I.look hx Option.none
 rw[e] at H
 generalize hu:a.eval x=u at H
 cases H with
 | sl _ _ _ b of cap hlc hs hk hc=>
   obtain⟨hr,h1,h2⟩:=run_bounds (P:=P) I hl hh hlc true e1 e2
   refine⟨.slice (if cap=l then some ⟨b,of,Option.none⟩ else some ⟨b,of+l*sz,Option.none⟩) (h-l) (cap-l),?_,fun hd=>?_,rfl⟩
   ·simp[execOp,ho,Instr.sliceAt,Instr.slice,run_underlying' (sliceP_some ht),hu,hr,run_sizeOf' hz,addr_add]
   ·split
    ·have:(cs.take (h*sz)).drop (l*sz)=[]:=List.drop_eq_nil_of_le (by
      have:h=l:=by omega
      subst this;simp;omega)
     rw[this,show h-l=0 by omega]
     exact .sl0 _ _ _
    ·refine .sl _ _ _ _ _ _ (by omega) (fun i hi=>?_) (fun i hi=>?_) fun i hi=>?_
     ·rw[Nat.add_assoc];exact hs _ (by simp at hi;omega)
     ·simp only[List.getElem_drop,List.getElem_take];exact hk _ _
     ·simp only[List.getElem_drop,List.getElem_take,Nat.add_assoc];exact hc _ _
 | sl0 _ a0 cap=>
   obtain⟨hr,h1,h2⟩:=run_bounds (P:=P) I hl hh (Nat.zero_le cap) true e1 e2
   obtain rfl:h=0:=by omega
   obtain rfl:l=0:=by omega
   refine⟨.slice (if cap=0 then a0 else a0.map (·.add (0*sz))) 0 cap,?_,fun hd=>?_,rfl⟩
   ·simp[execOp,ho,Instr.sliceAt,Instr.slice,run_underlying' (sliceP_some ht),hu,hr,run_sizeOf' hz]
   ·simpa using RepV.sl0 _ _ _
theorem ok_slc_view(I:Inv n w L a g){t et sz:Nat}{x:Operand}{x':XO}{lo hi:Option Operand}{lo' hi':Option XO}(ho:o.op = .slice t x lo hi Option.none)(hx:trO x=some x')(hl:trOpt lo=some lo')(hh:trOpt hi=some hi')
 (ht:sliceP P t=some et)(hz:szP P et=some sz)(hz0:0<sz){r:Nat}{p:List Nat}{off m:Nat}(e:lookG g x' = .view r p off m sz){l h:Nat}(e1:bnd (lookG g) m hi' m=some h)(e2:bnd (lookG g) h lo' 0=some l):
 ValAt P o a w L (if l=0 then .view r p off h sz else if l<h then .view r p (off+l*sz) (h-l) sz else .sl 0 []):=by
 have H:=I.look hx Option.none
 rw[e] at H
 generalize hu:a.eval x=u at H
 cases H with
 | view _ _ _ _ _ _ b cap hlc hp hlab=>
   obtain⟨hr,h1,h2⟩:=run_bounds (P:=P) I hl hh hlc true e1 e2
   refine⟨.slice (if cap=l then some ⟨b,off,Option.none⟩ else some ⟨b,off+l*sz,Option.none⟩) (h-l) (cap-l),?_,fun hd=>?_,by (repeat' split)<;>rfl⟩
   ·simp[execOp,ho,Instr.sliceAt,Instr.slice,run_underlying' (sliceP_some ht),hu,hr,run_sizeOf' hz,addr_add]
   ·by_cases hl0:l=0
    ·subst hl0
     simp only[Nat.zero_mul,Nat.add_zero,ite_self,Nat.sub_zero,if_true]
     exact .view _ _ _ _ _ _ _ _ (by omega) hp hlab
    ·simp only[hl0,if_false]
     split
     ·have:¬cap=l:=by omega
      simp only[this,if_false]
      refine .view _ _ _ _ _ _ _ _ (by omega) (by
       have:0<(cap-l)*sz:=Nat.mul_pos (by omega) hz0
       omega) fun j hj=>hlab j ?_
      rw[Nat.sub_mul] at hj
      have:l*sz<=cap*sz:=Nat.mul_le_mul_right _ (by omega)
      omega
     ·rw[show h-l=0 by omega]
      exact .sl0 _ _ _
end
open Go
structure Pw (w:World) (L:LM) (cs:List PV) (vs:Array Value):Prop where
 sz:vs.size=cs.length
 rep:∀i (hi:i<cs.length),RepV w L Option.none cs[i] (vs.getD i undef)
 no:∀i (hi:i<cs.length),noOwn cs[i]=true
theorem ofVals_pw{w:World}{L:LM}:∀{l:List Value} {cs:List PV},ofVals l=some cs->cs.length=l.length/\∀i (hi:i<cs.length),RepV w L Option.none cs[i] (l.getD i undef)/\cs[i].free=true
 | [],cs,h=>by simp[ofVals] at h;subst h;exact⟨rfl,fun i hi=>by simp at hi⟩
 | v::l,cs,h=>by
   simp only[ofVals] at h
   split at h
   ·rename_i x xs hx hxs
    obtain rfl:=Option.some.inj h
    obtain⟨h1,h2⟩:=ofVals_pw (w:=w) (L:=L) hxs
    refine⟨by simp[h1],fun i hi=>?_⟩
    cases i with
    | zero=>exact⟨by simpa using ofVal_rep hx _,ofVal_free hx⟩
    | succ i=>simpa using h2 i (by simpa using hi)
   ·cases h
theorem zero_pw{P:Program}{w:World}{L:LM}{t:TypeId}{z:List PV}(h:zeroP P t=some z):
 ∃i v,P.info? t=some i/\i.zero=some v/\Pw w L z v.cells/\∀c∈z,c.free=true:=by
 unfold zeroP at h
 split at h
 ·rename_i v hv
  cases hi:P.info? t with
  | none=>simp[hi] at hv
  | some i=>
    simp[hi] at hv
    obtain⟨h1,h2⟩:=ofVals_pw (w:=w) (L:=L) h
    refine⟨i,v,rfl,hv,⟨by simpa using h1.symm,fun i hi=>?_,fun i hi=>free_noOwn (h2 i hi).2⟩,fun c hc=>?_⟩
    ·have:=(h2 i hi).1
     have hlt:i<v.cells.size:=by simp[h1] at hi;exact hi
     simpa[Array.getD,hlt,List.getD] using this
    ·obtain⟨k,hk,rfl⟩:=List.getElem_of_mem hc
     exact (h2 k hk).2
 ·cases h
theorem run_zeroValue'{P:Program}{t:TypeId}{i:TypeInfo}{v:Value}(hi:P.info? t=some i)(hz:i.zero=some v)(w:World):(zeroValue t).run P w = .ok v w:=by
 simp[zeroValue,run_typeInfo' hi,hz]
theorem foldl_set_size(off:Nat)(l:List (Value×Nat))(cs:Array Value):(l.foldl (fun cs (x:Value×Nat)=>cs.setIfInBounds (off+x.2) x.1) cs).size=cs.size:=by
 induction l generalizing cs with
 | nil=>rfl
 | cons x l ih=>simp[ih]
theorem foldl_set_get(off:Nat)(vs:List Value):∀(k:Nat) (cs:Array Value) (i:Nat),off+k+vs.length<=cs.size ->
 ((vs.zipIdx k).foldl (fun cs (x:Value×Nat)=>cs.setIfInBounds (off+x.2) x.1) cs).getD i undef = if off+k<=i/\i<off+k+vs.length then vs.getD (i-(off+k)) undef else cs.getD i undef:=by
 induction vs with
 | nil=>intro k cs i h;simp;omega
 | cons v vs ih=>
   intro k cs i h
   simp only[List.zipIdx_cons,List.foldl_cons,List.length_cons] at *
   rw[ih (k+1) _ i (by simp;omega)]
   by_cases h1:off+(k+1)<=i/\i<off+(k+1)+vs.length
   ·rw[if_pos h1,if_pos (by omega)]
    obtain⟨d,hd⟩:∃d,i-(off+k)=d+1:=⟨i-(off+k)-1,by omega⟩
    rw[hd,show i-(off+(k+1))=d by omega]
    simp
   ·rw[if_neg h1]
    by_cases h2:i=off+k
    ·subst h2
     rw[if_pos (by omega)]
     simp[Array.getD,show off+k<cs.size by omega]
    ·rw[if_neg (by omega)]
     simp only[Array.getD]
     by_cases h3:i<cs.size
     ·simp[h3,Array.getElem_setIfInBounds,Ne.symm h2]
     ·simp[h3]
theorem cells_pw{w:World}{L:LM}{h:Hd}{v:PV}{u:Value}(H:RepV w L h v u)(hk:∀c∈cells v,c.lok=true):Pw w L (cells v) u.cells:=by
 have one:v.lok=true->(∀cs,u ≠ .agg cs)->cells v=[v]->Pw w L (cells v) u.cells:=by
  intro hl hu hc
  have hcu:u.cells=#[u]:=by cases u <;> first | rfl|exact absurd rfl (hu _)
  have hn:noOwn v=true:=by cases v<;>simp_all [PV.lok,PV.free,noOwn]
  rw[hc,hcu]
  exact⟨rfl,fun i hi=>by obtain rfl:i=0:=by simpa using hi
                         simpa using H.loose hn _,fun i hi=>by obtain rfl:i=0:=by simpa using hi
                                                               simpa using hn⟩
 cases H with
 | agg _ cs vs hz hc=>
   simp only[cells] at hk
   have hn:∀i (hi:i<cs.length),noOwn cs[i]=true:=fun i hi=>by
    have:=hk cs[i] (List.getElem_mem hi)
    generalize cs[i]=c at *
    cases c<;>simp_all [PV.lok,PV.free,noOwn]
   exact⟨hz,fun i hi=>(hc i hi).loose (hn i hi) _,hn⟩
 | none=>simp[cells,PV.lok,PV.free] at hk
 | tup=>simp[cells,PV.lok,PV.free] at hk
 | fn=>simp[cells,PV.lok,PV.free] at hk
 | _=>exact one (hk _ (by simp[cells])) (by simp) rfl
section
variable {P:Program} {n:Nat} {w:World} {L:LM} {a:Act} {g:Nat->PV} {o:Oper}
inductive PartsOk (place:Nat->Option (Nat×Nat)):List (Nat×Operand)->List (Nat×Nat×XO)->Prop
 | nil:PartsOk place [] []
 | cons {i:Nat} {x:Operand} {x':XO} {off sz:Nat} {l l'} (hp:place i=some (off,sz)) (hx:trO x=some x') (h:PartsOk place l l'):PartsOk place ((i,x)::l) ((off,sz,x')::l')
theorem fill_pw(I:Inv n w L a g){place:Nat->Option (Nat×Nat)}{ok:PV->Bool}(hok:∀v,ok v=true->v.lok=true):∀{l:List (Nat×Operand)} {l':List (Nat×Nat×XO)} (hl:PartsOk place l l')
 {cs cs':List PV} {vs:Array Value} (H:Pw w L cs vs) (h:fillP ok (lookG g) cs l'=some cs'),
 ∃vs',Instr.fill place vs (l.map fun x=>(x.1,a.eval x.2))=some vs'/\Pw w L cs' vs'/\((∀c∈cs,ok c=true)->∀c∈cs',ok c=true):=by
 intro l l' hl
 induction hl with
 | nil=>intro cs cs' vs H h;simp[fillP] at h;subst h;exact⟨vs,rfl,H,fun h=>h⟩
 | @cons i x x' off sz l l' hp hx hl ih=>
   intro cs cs' vs H h
   simp only[fillP] at h
   split at h
   ·rename_i hc
    obtain⟨h1,h2,h3⟩:=hc
    have h3':∀c∈cells (lookG g x'),ok c=true:=fun c hc=>by simpa using (List.all_eq_true.1 h3) c hc
    have hy:=cells_pw (I.look hx Option.none) (fun c hc=>hok _ (h3' c hc))
    generalize cells (lookG g x')=ys at *
    have hsz:(a.eval x).cells.size=sz:=by rw[hy.sz,h1]
    have hcs:off+sz<=vs.size:=by rw[H.sz];exact h2
    have hnew:Pw w L (cs.take off++ys++cs.drop (off+sz)) ((a.eval x).cells.zipIdx.foldl (fun cs (x:Value×Nat)=>cs.setIfInBounds (off+x.2) x.1) vs):=by
     have hfold:((a.eval x).cells.zipIdx.foldl (fun cs (x:Value×Nat)=>cs.setIfInBounds (off+x.2) x.1) vs) =
      (((a.eval x).cells.toList.zipIdx 0).foldl (fun cs (x:Value×Nat)=>cs.setIfInBounds (off+x.2) x.1) vs):=by
      rw[←Array.foldl_toList];simp
     rw[hfold]
     have hg:=fun i=>foldl_set_get off (a.eval x).cells.toList 0 vs i (by simpa[hsz] using hcs)
     simp only[Nat.add_zero,Array.length_toList,hsz] at hg
     have hlen:(cs.take off++ys++cs.drop (off+sz)).length=cs.length:=by simp[h1];omega
     have each:∀i (hi:i<(cs.take off++ys++cs.drop (off+sz)).length),RepV w L Option.none (cs.take off++ys++cs.drop (off+sz))[i] ((((a.eval x).cells.toList.zipIdx 0).foldl (fun cs (x:Value×Nat)=>cs.setIfInBounds (off+x.2) x.1) vs).getD i undef)/\noOwn (cs.take off++ys++cs.drop (off+sz))[i]=true:=by
      intro i hi
      rw[hg i]
      rw[hlen] at hi
      by_cases ha:i<off
      ·rw[if_neg (by omega)]
       have e:(cs.take off++ys++cs.drop (off+sz))[i]'(by rw[hlen];exact hi)=cs[i]:=by
        rw[List.getElem_append_left (by simp;omega),List.getElem_append_left (by simp;omega),List.getElem_take]
       rw[e];exact⟨H.rep i hi,H.no i hi⟩
      ·by_cases hb:i<off+sz
       ·rw[if_pos ⟨by omega,hb⟩]
        have e:(cs.take off++ys++cs.drop (off+sz))[i]'(by rw[hlen];exact hi)=ys[i-off]'(by omega):=by
         rw[List.getElem_append_left (by simp;omega),List.getElem_append_right (by simp;omega)]
         simp[show min off cs.length=off by omega]
        rw[e]
        have h0:i-off<ys.length:=by omega
        have:=hy.rep (i-off) h0
        refine⟨?_,hy.no _ h0⟩
        have hlt:i-off<(a.eval x).cells.size:=by omega
        simpa[Array.getD,hlt,List.getD] using this
       ·rw[if_neg (by omega)]
        have e:(cs.take off++ys++cs.drop (off+sz))[i]'(by rw[hlen];exact hi)=cs[i]:=by
         rw[List.getElem_append_right (by simp;omega)]
         simp only[List.getElem_drop,List.length_append,List.length_take]
         congr 1;simp[h1,show min off cs.length=off by omega];omega
        rw[e];exact⟨H.rep i hi,H.no i hi⟩
     exact⟨by rw[foldl_set_size,H.sz,hlen],fun i hi=>(each i hi).1,fun i hi=>(each i hi).2⟩
    obtain⟨vs',hf,hpw,hall⟩:=ih hnew h
    refine⟨vs',?_,hpw,fun hcs=>hall fun c hc=>?_⟩
    ·simp only[List.map_cons,Instr.fill,hp]
     rw[if_neg (by simp[hsz];omega)]
     exact hf
    ·simp only[List.append_assoc,List.mem_append] at hc
     rcases hc with hc|hc|hc
     ·exact hcs c (List.mem_of_mem_take hc)
     ·exact h3' c hc
     ·exact hcs c (List.mem_of_mem_drop hc)
   ·cases h
end
open Go
def placesP(P:Program)(fs:Array Field):Option (List (Nat×Nat)):=
 fs.toList.foldr (fun f r=>match szP P f.type,r with | some s,some l=>some ((f.offset,s)::l) | _,_=>Option.none) (some [])
theorem run_places{P:Program}{w:World}{fs:Array Field}{l:List (Nat×Nat)}(h:placesP P fs=some l):
 (fs.mapM fun f=>do pure (f.offset,←sizeOf f.type):Sem (Array (Nat×Nat))).run P w = .ok l.toArray w:=by
 have key:∀(xs:List Field) (l:List (Nat×Nat)),xs.foldr (fun f r=>match szP P f.type,r with | some s,some l=>some ((f.offset,s)::l) | _,_=>Option.none) (some [])=some l ->
  (xs.mapM fun f=>do pure (f.offset,←sizeOf f.type):Sem (List (Nat×Nat))).run P w = .ok l w:=by
  intro xs
  induction xs with
  | nil=>intro l h;simp at h;subst h;simp
  | cons f xs ih=>
    intro l h
    simp only[List.foldr_cons] at h
    split at h
    ·rename_i s r hs hr
     obtain rfl:=Option.some.inj h
     simp only[List.mapM_cons,Sem.run_bind,run_sizeOf' hs,Result.andThen_ok,Sem.run_pure,ih _ hr]
    ·cases h
 rw[Array.mapM_eq_mapM_toList,Sem.run_map,key _ _ h]
 simp
theorem rep_get(z:List PV):∀(n i:Nat) (hi:i<(rep n z).length),(rep n z)[i]=z[i % z.length]'(Nat.mod_lt _ (by
 cases z with
 | nil=>exfalso;have:∀n,(rep n ([]:List PV)).length=0:=fun n=>by induction n with
         | zero=>rfl
         | succ n ih=>simp[rep,ih]
        rw[this] at hi;omega
 | cons=>simp))
 | 0,i,hi=>by simp[rep] at hi
 | n+1,i,hi=>by
   simp only[rep]
   by_cases h:i<z.length
   ·rw[List.getElem_append_left h]
    congr 1;exact (Nat.mod_eq_of_lt h).symm
   ·rw[List.getElem_append_right (by omega),rep_get z n (i-z.length) (by simp[rep] at hi;omega)]
    congr 1
    exact (Nat.mod_eq_sub_mod (by omega)).symm
theorem rep_length(z:List PV)(n:Nat):(rep n z).length=n*z.length:=by
 induction n with
 | zero=>simp[rep]
 | succ n ih=>simp[rep,ih,Nat.add_mul,Nat.add_comm]
theorem rep_pw{w:World}{L:LM}{z:List PV}{vs:Array Value}(H:Pw w L z vs)(n:Nat):Pw w L (rep n z) ((Array.range (n*z.length)).map (vs[·% vs.size]!)):=by
 refine⟨by simp[rep_length],fun i hi=>?_,fun i hi=>?_⟩
 ·rw[rep_get z n i hi]
  have hi':i<n*z.length:=by rw[rep_length] at hi;exact hi
  have hz:0<z.length:=by
   rcases Nat.eq_zero_or_pos z.length with h|h
   ·rw[h] at hi';simp at hi'
   ·exact h
  have hm:i % z.length<z.length:=Nat.mod_lt _ hz
  have:=H.rep (i % z.length) hm
  simpa[Array.getD,hi',H.sz,hm] using this
 ·rw[rep_get z n i hi];exact H.no _ _
theorem wrap_id{x:Int}(h1:-9223372036854775808<=x)(h2:x<9223372036854775808):IntKind.i64.wrap x=x:=by
 have e:IntKind.i64.wrap x=(if 9223372036854775808<=x % 18446744073709551616 then x % 18446744073709551616-18446744073709551616 else x % 18446744073709551616):=by
  simp[IntKind.wrap,IntKind.bits,IntKind.signed]
 rw[e]
 split<;>omega
def NoTop(L:LM)(d:Nat):Prop:=∀b j i,L b j ≠ .own d [] i
theorem noTop_drop(L:LM)(d:Nat):NoTop (fun b j=>dropL d [] (L b j)) d:=by
 intro b j i h
 obtain⟨h1,h2⟩:=dropL_own h
 apply h2
 rw[h1,under_iff];simp
def newL(L:LM)(N m d:Nat):LM:=fun b j=>if b=N then (if j<m then .own d [] j else .out) else L b j
theorem cell_push{w:World}{ob:Obj}{b j:Nat}(hb:b<w.heap.size):({ w with heap:=w.heap.push ob }:World).cell? ⟨b,j,Option.none⟩=w.cell? ⟨b,j,Option.none⟩:=by
 simp[World.cell?,Array.getElem?_push,Nat.ne_of_lt hb]
theorem cell_new{w:World}{c:Array Value}{t:TypeId}{fr:Nat×Nat}{j:Nat}:({ w with heap:=w.heap.push (.cells c t fr) }:World).cell? ⟨w.heap.size,j,Option.none⟩=c[j]?:=by
 simp[World.cell?]
theorem grows_new{w:World}{L:LM}(W:WF w L){d:Nat}(hd:NoTop L d)(c:Array Value)(t:TypeId):
 Grows w L { w with heap:=w.heap.push (.cells c t) } (newL L w.heap.size c.size d):=by
 have lt:∀{b j},L b j ≠ .out->b<w.heap.size:=fun h=>W.lt h
 have old:∀{b j},b≠w.heap.size->newL L w.heap.size c.size d b j=L b j:=fun h=>by simp[newL,h]
 refine⟨⟨fun b j b' j' r p i e e'=>?_,fun b j h=>?_,fun b j r p i e=>?_⟩,⟨rfl,rfl,rfl,by simp,fun b j hb hl=>?_,fun b hb=>?_⟩,fun b j h=>?_,fun b j h=>?_⟩
 ·by_cases hb:b=w.heap.size
  ·subst hb
   simp only[newL,if_true] at e
   split at e
   ·simp only[Lab.own.injEq] at e
    obtain⟨rfl,rfl,rfl⟩:=e
    by_cases hb':b'=w.heap.size
    ·subst hb'
     simp only[newL,if_true] at e'
     split at e'
     ·simp only[Lab.own.injEq,true_and] at e';exact⟨rfl,e'⟩
     ·cases e'
    ·rw[old hb'] at e';exact absurd e' (hd _ _ _)
   ·cases e
  ·rw[old hb] at e
   by_cases hb':b'=w.heap.size
   ·subst hb'
    simp only[newL,if_true] at e'
    split at e'
    ·simp only[Lab.own.injEq] at e'
     obtain⟨rfl,rfl,rfl⟩:=e'
     exact absurd e (hd _ _ _)
    ·cases e'
   ·rw[old hb'] at e';exact W.inj _ _ _ _ _ _ _ e e'
 ·by_cases hb:b=w.heap.size
  ·subst hb
   simp only[newL,if_true] at h
   split at h
   ·rename_i hj
    exact⟨c[j],by rw[cell_new];simp[hj]⟩
   ·exact absurd rfl h
  ·rw[old hb] at h
   obtain⟨v,hv⟩:=W.ex b j h
   exact⟨v,by rw[cell_push (lt h)];exact hv⟩
 ·by_cases hb:b=w.heap.size
  ·subst hb;simp[World.frozen?]
  ·rw[old hb] at e
   have:=W.thaw b j r p i e
   have hb':b<w.heap.size:=lt (by rw[e];simp)
   simpa[World.frozen?,Array.getElem?_push,hb] using this
 ·rw[old (Nat.ne_of_lt hb)]
 ·simp only[Array.getElem?_push,Nat.ne_of_lt hb,if_false]
  exact .refl _ _ _
 ·rw[old (Nat.ne_of_lt (lt h))]
 ·rw[cell_push (lt h)]
theorem newL_at(L:LM){N m d j:Nat}(hj:j<m):newL L N m d N j = .own d [] j:=by simp[newL,hj]
theorem rep_box{w:World}{L:LM}(W:WF w L){d:Nat}(hd:NoTop L d){cs:List PV}{vs:Array Value}(H:Pw w L cs vs)(hf:∀c∈cs,c.free=true)(t:TypeId):
 RepV { w with heap:=w.heap.push (.cells vs t) } (newL L w.heap.size vs.size d) (some (d,[])) (.box cs) (.pointer (some ⟨w.heap.size,0,Option.none⟩)):=by
 have G:=grows_new W hd vs t
 refine .box _ _ _ _ _ (fun i hi=>?_) (fun i hi=>free_cok (hf _ (List.getElem_mem hi))) fun i hi=>?_
 ·rw[Nat.zero_add];exact newL_at L (by rw[H.sz];exact hi)
 ·rw[Nat.zero_add]
  have hi':i<vs.size:=by rw[H.sz];exact hi
  have e:cv { w with heap:=w.heap.push (.cells vs t) } w.heap.size i=vs.getD i undef:=by
   simp[cv,cell_new,hi',Array.getD]
  rw[e]
  exact (G.rep (H.rep i hi)).loose (H.no i hi) _
theorem rep_own{w:World}{L:LM}(W:WF w L){d:Nat}(hd:NoTop L d){sz len cap:Nat}{cs:List PV}{vs:Array Value}(hn:cs.length=len*sz)(hl:len<=cap)(hp:0<cap*sz)(hz:vs.size=cap*sz)
 (H:∀i (hi:i<cs.length),RepV w L Option.none cs[i] (vs.getD i undef))(hf:∀c∈cs,c.free=true)(t:TypeId):
 RepV { w with heap:=w.heap.push (.cells vs t) } (newL L w.heap.size vs.size d) (some (d,[])) (.own sz len cs) (.slice (some ⟨w.heap.size,0,Option.none⟩) len cap):=by
 have G:=grows_new W hd vs t
 refine .own _ _ _ _ _ _ _ hn hl hp (fun i hi=>newL_at L (by rw[hz];exact hi)) (fun i hi=>free_cok (hf _ (List.getElem_mem hi))) fun i hi=>?_
 have hi':i<vs.size:=by rw[hz];exact Nat.lt_of_lt_of_le (by rw[←hn];exact hi) (Nat.mul_le_mul_right _ hl)
 have e:cv { w with heap:=w.heap.push (.cells vs t) } w.heap.size i=vs.getD i undef:=by
  simp[cv,cell_new,hi',Array.getD]
 rw[e]
 exact (G.rep (H i hi)).loose (free_noOwn (hf _ (List.getElem_mem hi))) _
theorem rep_mkOwn{w:World}{L:LM}(W:WF w L){d:Nat}(hd:NoTop L d){sz len:Nat}{cs:List PV}{vs:Array Value}(hz0:0<sz)(hn:cs.length=len*sz)
 (H:Pw w L cs vs)(hf:∀c∈cs,c.free=true)(t:TypeId):
 RepV { w with heap:=w.heap.push (.cells vs t) } (newL L w.heap.size vs.size d) (some (d,[])) (mkOwn sz len cs) (.slice (some ⟨w.heap.size,0,Option.none⟩) len len):=by
 unfold mkOwn
 split
 ·rename_i h0;subst h0;exact .nils _ _
 ·exact rep_own W hd hn (Nat.le_refl _) (Nat.mul_pos (by omega) hz0) (by rw[H.sz,hn]) H.rep hf t
theorem norm1_rep{w:World}{L:LM}{h:Hd}{v:PV}{u:Value}(H:RepV w L h v u):RepV w L h (norm1 v) u:=by
 cases H with
 | nils _ ad=>exact .sl0 _ _ _
 | none=>exact .none _ _
 | bool _ b=>exact .bool _ _
 | int _ k n=>exact .int _ _ _
 | str _ s l e=>exact .str _ _ _ e
 | nilp=>exact .nilp _
 | nilf=>exact .nilf _
 | ref _ r p i m b j hp e=>exact .ref _ _ _ _ _ _ _ hp e
 | view _ r p off len sz b cap hl hp e=>exact .view _ _ _ _ _ _ _ _ hl hp e
 | box r p cs b o ho hk hc=>exact .box _ _ _ _ _ ho hk hc
 | own r p sz len cs b cap hn hl hp ho hk hc=>exact .own _ _ _ _ _ _ _ hn hl hp ho hk hc
 | sl _ len cs b o cap hl hs hk hc=>exact .sl _ _ _ _ _ _ hl hs hk hc
 | sl0 _ a cap=>exact .sl0 _ _ _
 | sp _ cs b o hs hk hc=>exact .sp _ _ _ _ hs hk hc
 | agg _ cs vs hz hc=>exact .agg _ _ _ hz hc
 | tup _ cs vs hz hc=>exact .tup _ _ _ hz hc
 | fn _ f cs vs hz hc=>exact .fn _ _ _ _ hz hc
theorem norm1_free{v:PV}(h:v.free=true):(norm1 v).free=true:=by cases v<;>simp_all [norm1,PV.free]
theorem Pw.norm{w:World}{L:LM}{cs:List PV}{vs:Array Value}(H:Pw w L cs vs):Pw w L (cs.map norm1) vs:=
 ⟨by simp[H.sz],fun i hi=>by simp only[List.getElem_map];exact norm1_rep (H.rep i (by simpa using hi)),fun i hi=>by
   simp only[List.getElem_map]
   have:=H.no i (by simpa using hi)
   revert this
   cases cs[i]'(by simpa using hi) <;> simp[norm1,noOwn]⟩
def NewAt(P:Program)(o:Oper)(a:Act)(w:World)(L:LM)(d:Nat)(v:PV):Prop:=
 ∃u w' L',(execOp a.eval o).run P w = .ok (.value u) w'/\Grows w (fun b j=>dropL d [] (L b j)) w' L'/\RepV w' L' (some (d,[])) v u /\
  ∀b j,L' b j=dropL d [] (L b j)\/(∃p i,L' b j = .own d p i)\/L' b j = .sh
theorem newL_labels{w:World}{L:LM}(W:WF w L)(m d:Nat)(b j:Nat):newL L w.heap.size m d b j=L b j\/(∃p i,newL L w.heap.size m d b j = .own d p i)\/newL L w.heap.size m d b j = .sh:=by
 by_cases hb:b=w.heap.size
 ·subst hb
  by_cases hj:j<m
  ·exact .inr (.inl ⟨[],j,by simp[newL,hj]⟩)
  ·exact .inl (by rw[W.out_of_ge (Nat.le_refl _)];simp[newL,hj])
 ·exact .inl (by simp[newL,hb])
theorem Pw.drop{w:World}{L:LM}{cs:List PV}{vs:Array Value}(H:Pw w L cs vs)(hf:∀c∈cs,c.free=true)(r:Nat)(p:List Nat):Pw w (fun b j=>dropL r p (L b j)) cs vs:=
 ⟨H.sz,fun i hi=>(H.rep i hi).drop_free (hf _ (List.getElem_mem hi)) r p _,H.no⟩
section
variable {P:Program} {n:Nat} {w:World} {L:LM} {a:Act} {g:Nat->PV} {o:Oper}
theorem ok_alloc(I:Inv n w L a g){t:TypeId}{z:List PV}(ho:o.op = .alloc t)(hz:zeroP P t=some z)(d:Nat):NewAt P o a w L d (.box z):=by
 obtain⟨i,v,hi,hzv,H,hf⟩:=zero_pw (w:=w) (L:=L) hz
 refine⟨_,_,_,?_,grows_new (I.wf.drop d []) (noTop_drop L d) v.cells t,rep_box (I.wf.drop d []) (noTop_drop L d) (H.drop hf d []) hf t,newL_labels (I.wf.drop d []) _ d⟩
 simp[execOp,ho,Instr.alloc,run_zeroValue' hi hzv,newVar,newRow]
theorem ok_box(I:Inv n w L a g){t:TypeId}{x:Operand}{x':XO}(ho:o.op = .box t x)(hx:trO x=some x')(hf:(cells (lookG g x')).all PV.free=true)(d:Nat):NewAt P o a w L d (.box (cells (lookG g x'))):=by
 have hf':∀c∈cells (lookG g x'),c.free=true:=fun c hc=>by simpa using (List.all_eq_true.1 hf) c hc
 have H:=cells_pw (I.look hx Option.none) fun c hc=>by have:=hf' c hc;cases c<;>simp_all [PV.lok,PV.free]
 refine⟨_,_,_,?_,grows_new (I.wf.drop d []) (noTop_drop L d) (a.eval x).cells t,rep_box (I.wf.drop d []) (noTop_drop L d) (H.drop hf' d []) hf' t,newL_labels (I.wf.drop d []) _ d⟩
 simp[execOp,ho,Instr.box,newVar,newRow]
theorem lok_of_free{c:PV}(h:c.free=true):c.lok=true:=by cases c<;>simp_all [PV.lok,PV.free]
theorem noOwn_of_lok{c:PV}(h:c.lok=true):noOwn c=true:=by cases c<;>simp_all [PV.lok,PV.free,noOwn]
theorem ok_build_struct(I:Inv n w L a g){t:TypeId}{parts:Array (Nat×Operand)}{z:List PV}{ps:List (Nat×Nat×XO)}{fs:Array Field}{pl:List (Nat×Nat)}(ho:o.op = .build t parts)(hz:zeroP P t=some z)
 (ht:P.underlying t=some (.struct fs))(hpl:placesP P fs=some pl)(hps:PartsOk (fun i=>pl[i]?) parts.toList ps){cs:List PV}(hv:fillP PV.lok (lookG g) z ps=some cs):ValAt P o a w L (.agg cs):=by
 obtain⟨i,v,hi,hzv,H,hf⟩:=zero_pw (w:=w) (L:=L) hz
 obtain⟨vs,hfill,H',hall⟩:=fill_pw I (ok:=PV.lok) (fun _ h=>h) hps H hv
 have hl:=hall fun c hc=>lok_of_free (hf c hc)
 refine⟨.agg vs,?_,fun h=>.agg _ _ _ H'.sz fun i hi=>(H'.rep i hi).loose (H'.no i hi) _,by simp only[noOwn];exact noOwnL_of fun c hc=>noOwn_of_lok (hl c hc)⟩
 have e:(Array.map (fun x=>(x.1,a.eval x.2)) parts).toList=parts.toList.map fun x=>(x.1,a.eval x.2):=by simp
 simp only[execOp,ho,Instr.build,Sem.run_bind,run_zeroValue' hi hzv,Result.andThen_ok,run_underlying' ht,run_places hpl]
 have e2:(fun x:Nat=>pl.toArray[x]?) = fun i:Nat=>pl[i]?:=by funext i;simp
 rw[e2,e,hfill]
 simp
theorem ok_build_arr(I:Inv n w L a g){t:TypeId}{parts:Array (Nat×Operand)}{z:List PV}{ps:List (Nat×Nat×XO)}{m et sz:Nat}(ho:o.op = .build t parts)(hz:zeroP P t=some z)
 (ht:arrP P t=some (m,et))(hsz:szP P et=some sz)(hps:PartsOk (fun i=>some (i*sz,sz)) parts.toList ps){cs:List PV}(hv:fillP PV.lok (lookG g) z ps=some cs):ValAt P o a w L (.agg cs):=by
 obtain⟨i,v,hi,hzv,H,hf⟩:=zero_pw (w:=w) (L:=L) hz
 obtain⟨vs,hfill,H',hall⟩:=fill_pw I (ok:=PV.lok) (fun _ h=>h) hps H hv
 have hl:=hall fun c hc=>lok_of_free (hf c hc)
 refine⟨.agg vs,?_,fun h=>.agg _ _ _ H'.sz fun i hi=>(H'.rep i hi).loose (H'.no i hi) _,by simp only[noOwn];exact noOwnL_of fun c hc=>noOwn_of_lok (hl c hc)⟩
 have e:(Array.map (fun x=>(x.1,a.eval x.2)) parts).toList=parts.toList.map fun x=>(x.1,a.eval x.2):=by simp
 simp only[execOp,ho,Instr.build,Sem.run_bind,run_zeroValue' hi hzv,Result.andThen_ok,run_underlying' (arrP_some ht),run_sizeOf' hsz]
 rw[e,hfill]
 simp
theorem ok_bsl(I:Inv n w L a g){t:TypeId}{len:Nat}{parts:Array (Nat×Operand)}{z:List PV}{ps:List (Nat×Nat×XO)}{et sz:Nat}(ho:o.op = .buildSlice t len parts)(ht:sliceP P t=some et)(hz:zeroP P et=some z)
 (hsz:szP P et=some sz)(hz0:0<sz)(hzl:z.length=sz)(hle:len*sz<=2 ^ 24)(hps:PartsOk (fun i=>some (i*sz,sz)) parts.toList ps){cs:List PV}(hv:fillP PV.free (lookG g) (rep len z) ps=some cs)(d:Nat):
 NewAt P o a w L d (mkOwn sz len (cs.map norm1)):=by
 obtain⟨i,v,hi,hzv,H,hf⟩:=zero_pw (w:=w) (L:=L) hz
 obtain⟨vs,hfill,H0,hall⟩:=fill_pw I (ok:=PV.free) (fun _ h=>lok_of_free h) hps (rep_pw H len) hv
 have hf0:=hall fun c hc=>by
  obtain⟨k,hk,rfl⟩:=List.getElem_of_mem hc
  rw[rep_get]
  exact hf _ (List.getElem_mem _)
 have H':=H0.norm
 have hf':∀c∈cs.map norm1,c.free=true:=fun c hc=>by
  obtain⟨c',hc',rfl⟩:=List.mem_map.1 hc
  exact norm1_free (hf0 c' hc')
 have hlen:cs.length=len*sz:=by
  have:∀(ok:PV->Bool) (ps:List (Nat×Nat×XO)) (cs cs':List PV),fillP ok (lookG g) cs ps=some cs'->cs'.length=cs.length:=by
   intro ok ps
   induction ps with
   | nil=>intro cs cs' h;simp[fillP] at h;rw[h]
   | cons x ps ih=>
     obtain⟨off,s,y⟩:=x
     intro cs cs' h
     simp only[fillP] at h
     split at h
     ·rename_i hc
      rw[ih _ _ h]
      simp[hc.1];omega
     ·cases h
  rw[this _ _ _ _ hv,rep_length,hzl]
 refine⟨_,_,_,?_,grows_new (I.wf.drop d []) (noTop_drop L d) vs et,rep_mkOwn (I.wf.drop d []) (noTop_drop L d) hz0 (by simpa using hlen) (H'.drop hf' d []) hf' et,newL_labels (I.wf.drop d []) _ d⟩
 have e:(Array.map (fun x=>(x.1,a.eval x.2)) parts).toList=parts.toList.map fun x=>(x.1,a.eval x.2):=by simp
 have hle':¬len*sz>2 ^ 24:=by omega
 simp only[execOp,ho,Instr.buildSlice,Sem.run_bind,run_underlying' (sliceP_some ht),Result.andThen_ok,run_sizeOf' hsz,hle',if_false]
 have e3:len*sz=len*z.length:=by rw[hzl]
 by_cases h0:len*sz=0
 ·simp only[h0,if_true,Sem.run_bind,Sem.run_pure,Result.andThen_ok]
  have e4:(Array.range 0).map ((#[]:Array Value)[·% (#[]:Array Value).size]!)=(Array.range (len*z.length)).map (v.cells[·% v.cells.size]!):=by rw[←e3,h0];simp
  rw[e4,e,hfill]
  simp[newRow]
 ·simp only[h0,if_false,Sem.run_bind,run_zeroValue' hi hzv,Sem.run_pure,Result.andThen_ok]
  rw[e3,e,hfill]
  simp[newRow]
theorem ok_mksl(I:Inv n w L a g){t et:TypeId}{x y:Operand}{x' y':XO}{z:List PV}{sz by_:Nat}(ho:o.op = .makeSlice t x y)(ht:sliceP P t=some et)(hz:zeroP P et=some z)(hsz:szP P et=some sz)(hz0:0<sz)(hzl:z.length=sz)
 (hby:(P.info? et).map (·.bytes)=some by_)(hx:trO x=some x')(hy:trO y=some y'){k k':IntKind}{m:Int}(e:lookG g x' = .int k m)(e':lookG g y' = .int k' m)(h0:0<=m)(hb:m.toNat*by_<=lim)(hl:m.toNat<=lim)(d:Nat):
 NewAt P o a w L d (mkOwn sz m.toNat (rep m.toNat z)):=by
 obtain⟨i,v,hi,hzv,H,hf⟩:=zero_pw (w:=w) (L:=L) hz
 have hf':∀c∈rep m.toNat z,c.free=true:=fun c hc=>by
  obtain⟨k,hk,rfl⟩:=List.getElem_of_mem hc
  rw[rep_get]
  exact hf _ (List.getElem_mem _)
 have hlen:(rep m.toNat z).length=m.toNat*sz:=by rw[rep_length,hzl]
 refine⟨_,_,_,?_,grows_new (I.wf.drop d []) (noTop_drop L d) ((Array.range (m.toNat*z.length)).map (v.cells[·% v.cells.size]!)) et,rep_mkOwn (I.wf.drop d []) (noTop_drop L d) hz0 hlen ((rep_pw H m.toNat).drop hf' d []) hf' et,newL_labels (I.wf.drop d []) _ d⟩
 have hbi:i.bytes=by_:=by simp[hi] at hby;exact hby
 obtain⟨q,rfl⟩:∃q:Nat,m=q:=⟨m.toNat,by omega⟩
 simp only[Int.toNat_natCast] at *
 unfold lim at hb hl
 have hw:IntKind.i64.wrap (q:Int)=q:=wrap_id (by omega) (by omega)
 have hbig:¬((by_:Int)*(q:Int)>2 ^ 48):=by
  have:((q*by_:Nat):Int)<=2 ^ 40:=by exact_mod_cast hb
  rw[Int.mul_comm];push_cast at this;omega
 have hneg:¬((q:Int)<0):=by omega
 simp only[execOp,ho,Instr.makeSlice,Sem.run_bind,run_underlying' (sliceP_some ht),Result.andThen_ok,look_int I hx e,look_int I hy e',asInt,asIntOf,Sem.run_pure,run_typeInfo' hi,hbi,hw,hneg,hbig,decide_false,Bool.or_false,Bool.false_or,
  Int.lt_irrefl,gt_iff_lt,Bool.false_eq_true,if_false,Int.toNat_natCast,run_askRoom,run_sizeOf' hsz]
 have e3:q*sz=q*z.length:=by rw[hzl]
 by_cases h0:q*sz=0
 ·simp only[h0,if_true,Sem.run_bind,Sem.run_pure,Result.andThen_ok]
  have e4:(Array.range 0).map ((#[]:Array Value)[·% (#[]:Array Value).size]!)=(Array.range (q*z.length)).map (v.cells[·% v.cells.size]!):=by rw[←e3,h0];simp
  rw[e4]
  simp[newRow]
 ·simp only[h0,if_false,Sem.run_bind,run_zeroValue' hi hzv,Sem.run_pure,Result.andThen_ok]
  rw[e3]
  simp[newRow]
end
open Go
structure InvF (n m:Nat) (w:World) (L:LM) (a:Act) (g:Nat->PV):Prop extends Inv n w L a g where
 bd:∀b j r p i,L b j = .own r p i->r<n\/(r=n/\∃k s,p=k::s/\k<m)
 dom:∀t,n<=t->g t = .none
 nr:∀t q,q∈refs (g t)->q.1<n
theorem mem_refsL_iff{cs:List PV}{q:Nat×List Nat}:q∈refsL cs↔∃c∈cs,q∈refs c:=by
 induction cs with
 | nil=>simp[refsL]
 | cons c cs ih=>simp[refsL,ih]
theorem refs_upd:∀(p:List Nat) (T x:PV) (q:Nat×List Nat),q∈refs (Ab.upd T p x)->q∈refs T\/q∈refs x
 | [],_,_,_,h=>.inr h
 | i::p,T,x,q,h=>by
   simp only[Ab.upd] at h
   split at h
   ·rename_i c hc
    have step:∀cs:List PV,cs[i]? = some c->q∈refsL (cs.set i (Ab.upd c p x))->q∈refsL cs\/q∈refs x:=by
     intro cs hc h
     rw[mem_refsL_iff] at h
     obtain⟨d,hd,hq⟩:=h
     rcases List.mem_or_eq_of_mem_set hd with h|h
     ·exact .inl (mem_refsL_iff.2 ⟨d,h,hq⟩)
     ·subst h
      rcases refs_upd p c x q hq with h|h
      ·exact .inl (mem_refsL_iff.2 ⟨c,List.mem_of_getElem? hc,h⟩)
      ·exact .inr h
    cases T <;> simp only[setKid,refs,kids] at h hc ⊢ <;> first
     | (simp at h;done)
     | exact step _ hc h
     | (simp at hc;done)
   ·exact .inl h
theorem InvF.noFly{n m:Nat}{w:World}{L:LM}{a:Act}{g:Nat->PV}(I:InvF n m w L a g){k:Nat}(hk:m<=k){b j:Nat}{s:List Nat}{i:Nat}:L b j ≠ .own n (k::s) i:=by
 intro e
 rcases I.bd _ _ _ _ _ e with h|⟨_,k',s',e',h⟩
 ·omega
 ·simp at e';omega
theorem InvF.congr{n m:Nat}{w:World}{L:LM}{a:Act}{g g':Nat->PV}(I:InvF n m w L a g)(e:∀t,g' t=g t):InvF n m w L a g':=
 ⟨I.toInv.congr e,I.bd,fun t ht=>by rw[e];exact I.dom t ht,fun t=>by rw[e];exact I.nr t⟩
theorem InvF.forget{n m:Nat}{w:World}{L:LM}{a:Act}{g g':Nat->PV}(I:InvF n m w L a g)(e:∀t,g' t=g t\/g' t = .none):InvF n m w L a g':=
 ⟨I.toInv.forget e,I.bd,fun t ht=>by rcases e t with h|h;rw[h];exact I.dom t ht;exact h,fun t q hq=>by rcases e t with h|h <;> rw[h] at hq;exact I.nr t q hq;simp[refs] at hq⟩
theorem InvF.reshape{n m m':Nat}{w:World}{L:LM}{a:Act}{e:Env}(I:InvF n m w L a e.get){r:Nat}{p:List Nat}{σ:Lab->Lab}{x:PV}
 (hs:σ .sh = .sh)(hσ:∀l,¬Under r p l->σ l=l)(hr:r<n)(hp:hasP (e.get r) p=true)(hx:p≠[]->x.cok=true)(hxr:∀q∈refs x,q.1<n)(hc:canUpd e r p=true)
 (new:∀u,RepV w L (some (r,p)) (Ab.sub (e.get r) p) u->RepV w (fun b j=>σ (L b j)) (some (r,p)) x u)
 (wf:WF w (fun b j=>σ (L b j)))(bd:∀b j r p i,σ (L b j) = .own r p i->r<n\/(r=n/\∃k s,p=k::s/\k<m')):
 InvF n m' w (fun b j=>σ (L b j)) a ((e.upd r p x).purge r p).get where
 wf:=wf
 rep t:=by
  rw[get_purge,get_upd]
  by_cases ht:t=r
  ·subst ht
   simp only[if_true]
   refine RepV.purge ?_ _
   refine RepV.repl p (I.rep t) hp hx (by simpa using new) (fun b j _ hn=>hσ _ (by simpa using hn)) (fun _ _ _ _=>rfl) fun hne=>?_
   simp only[canUpd,Bool.or_eq_true,List.isEmpty_iff] at hc
   rcases hc with h|h
   ·exact absurd h hne
   ·exact h
  ·simp only[ht,if_false]
   refine ((I.rep t).purge (und r p)).move hs (fun s i=>hσ _ ?_) fun q hq i=>hσ _ (not_under (refs_purge1 _ _ q hq).2)
   rw[under_iff];simp[ht]
 df:=I.df
 sz:=I.sz
 bd:=bd
 dom t ht:=by
  rw[get_purge,get_upd,if_neg (by omega),I.dom t ht];rfl
 nr t q hq:=by
  rw[get_purge,get_upd] at hq
  obtain⟨hq,_⟩:=refs_purge1 _ _ _ hq
  split at hq
  ·rcases refs_upd p _ _ _ hq with h|h
   ·exact I.nr r q h
   ·exact hxr q h
  ·exact I.nr t q hq
theorem InvF.lt{n m:Nat}{w:World}{L:LM}{a:Act}{g:Nat->PV}(I:InvF n m w L a g){r:Nat}(h:g r ≠ .none):r<n:=by
 rcases Nat.lt_or_ge r n with h'|h'
 ·exact h'
 ·exact absurd (I.dom r h') h
theorem sub_ne{T:PV}{p:List Nat}(h:Ab.sub T p ≠ .none):T ≠ .none:=by
 rintro rfl
 cases p with
 | nil=>exact h rfl
 | cons i p=>simp[Ab.sub,kids] at h
def moveL(r:Nat)(p:List Nat)(r':Nat)(p':List Nat):Lab->Lab
 | .own q s i=>if q=r/\p.isPrefixOf s then .own r' (p'++s.drop p.length) i else .own q s i
 | l=>l
theorem moveL_under{r:Nat}{p:List Nat}{r':Nat}{p' s:List Nat}{i:Nat}:moveL r p r' p' (.own r (p++s) i) = .own r' (p'++s) i:=by
 simp[moveL]
theorem moveL_not{r:Nat}{p:List Nat}{r':Nat}{p':List Nat}{l:Lab}(h:¬Under r p l):moveL r p r' p' l=l:=by
 cases l with
 | own q s i=>
   rw[under_iff] at h
   simp only[moveL,if_neg h]
 | _=>rfl
theorem moveL_cases{r:Nat}{p:List Nat}{r':Nat}{p':List Nat}{l:Lab}:(∃s i,l = .own r (p++s) i/\moveL r p r' p' l = .own r' (p'++s) i)\/(¬Under r p l/\moveL r p r' p' l=l):=by
 by_cases h:Under r p l
 ·obtain⟨s,i,rfl⟩:=h
  exact .inl ⟨s,i,rfl,moveL_under⟩
 ·exact .inr ⟨h,moveL_not h⟩
theorem WF.moved{w:World}{L:LM}(W:WF w L){r:Nat}{p:List Nat}{r':Nat}{p':List Nat}(free:∀b j s i,¬Under r p (L b j)->L b j ≠ .own r' (p'++s) i):WF w (fun b j=>moveL r p r' p' (L b j)) where
 inj b j b' j' q s i e e':=by
  rcases moveL_cases (r:=r) (p:=p) (r':=r') (p':=p') (l:=L b j) with⟨s1,i1,h1,h2⟩|⟨h1,h2⟩
  ·rw[h2] at e
   simp only[Lab.own.injEq] at e
   obtain⟨rfl,rfl,rfl⟩:=e
   rcases moveL_cases (r:=r) (p:=p) (r':=r') (p':=p') (l:=L b' j') with⟨s3,i3,h3,h4⟩|⟨h3,h4⟩
   ·rw[h4] at e'
    simp only[Lab.own.injEq,List.append_cancel_left_eq,true_and] at e'
    obtain⟨rfl,rfl⟩:=e'
    exact W.inj _ _ _ _ _ _ _ h1 h3
   ·rw[h4] at e'
    exact absurd e' (free _ _ _ _ h3)
  ·rw[h2] at e
   rcases moveL_cases (r:=r) (p:=p) (r':=r') (p':=p') (l:=L b' j') with⟨s3,i3,h3,h4⟩|⟨h3,h4⟩
   ·rw[h4] at e'
    simp only[Lab.own.injEq] at e'
    obtain⟨rfl,rfl,rfl⟩:=e'
    exact absurd e (free _ _ _ _ h1)
   ·rw[h4] at e'
    exact W.inj _ _ _ _ _ _ _ e e'
 ex b j h:=W.ex b j fun e=>h (by simp[e,moveL])
 thaw b j q s i e:=by
  rcases moveL_cases (r:=r) (p:=p) (r':=r') (p':=p') (l:=L b j) with⟨s1,i1,h1,h2⟩|⟨h1,h2⟩
  ·exact W.thaw _ _ _ _ _ h1
  ·rw[h2] at e;exact W.thaw _ _ _ _ _ e
def shareL(r:Nat)(p:List Nat):Lab->Lab
 | .own q s i=>if q=r/\p.isPrefixOf s then .sh else .own q s i
 | l=>l
theorem shareL_under{r:Nat}{p s:List Nat}{i:Nat}:shareL r p (.own r (p++s) i) = .sh:=by simp[shareL]
theorem shareL_not{r:Nat}{p:List Nat}{l:Lab}(h:¬Under r p l):shareL r p l=l:=by
 cases l with
 | own q s i=>
   rw[under_iff] at h
   simp only[shareL,if_neg h]
 | _=>rfl
theorem shareL_own{r:Nat}{p:List Nat}{l:Lab}{q:Nat}{s:List Nat}{i:Nat}(h:shareL r p l = .own q s i):l = .own q s i/\¬Under r p l:=by
 by_cases hu:Under r p l
 ·obtain⟨s',i',rfl⟩:=hu
  rw[shareL_under] at h;cases h
 ·rw[shareL_not hu] at h;exact⟨h,hu⟩
theorem WF.shared{w:World}{L:LM}(W:WF w L)(r:Nat)(p:List Nat):WF w (fun b j=>shareL r p (L b j)):=
 W.relabel rfl rfl fun l l' r' p' i e e'=>by
  obtain⟨rfl,_⟩:=shareL_own e
  obtain⟨rfl,_⟩:=shareL_own e'
  exact⟨rfl,_,_,_,rfl⟩
theorem mul_pos_of{len sz:Nat}(h:0<len*sz):0<len/\0<sz:=by
 constructor
 ·rcases Nat.eq_zero_or_pos len with h'|h'
  ·subst h';simp at h
  ·exact h'
 ·rcases Nat.eq_zero_or_pos sz with h'|h'
  ·subst h';simp at h
  ·exact h'
theorem view_own{w:World}{L:LM}(W:WF w L){h:Hd}{r:Nat}{p:List Nat}{len sz:Nat}{cs:List PV}{u u':Value}(V:RepV w L h (.view r p 0 len sz) u)(H:RepV w L (some (r,p)) (.own sz len cs) u'):
 RepV w L (some (r,p)) (.own sz len cs) u:=by
 cases V with
 | view _ _ _ _ _ _ b cap hl hp hlab=>
   cases H with
   | own _ _ _ _ _ b' cap' hn hl' hp' ho hk hc=>
     refine .own _ _ _ _ _ _ _ hn hl (by omega) (fun j hj=>hlab j (by omega)) hk fun i hi=>?_
     have h0:0<len*sz:=by omega
     obtain⟨h1,h2⟩:=mul_pos_of h0
     have hb:0<cap*sz:=Nat.mul_pos (by omega) h2
     have hb':0<cap'*sz:=Nat.mul_pos (by omega) h2
     obtain⟨e,_⟩:=W.inj _ _ _ _ _ _ _ (hlab 0 (by omega)) (ho 0 hb')
     rw[←e]
     exact hc i hi
theorem ref_box{w:World}{L:LM}(W:WF w L){h:Hd}{r:Nat}{p:List Nat}{m:Nat}{cs:List PV}{u u':Value}(V:RepV w L h (.ref r p 0 m) u)(H:RepV w L (some (r,p)) (.box cs) u')(hm:0<m)(hc:0<cs.length):
 RepV w L (some (r,p)) (.box cs) u:=by
 cases V with
 | ref _ _ _ _ _ b j hp hlab=>
   cases H with
   | box _ _ _ b' o' ho hk hc'=>
     obtain⟨e1,e2⟩:=W.inj _ _ _ _ _ _ _ (hlab 0 hm) (ho 0 hc)
     obtain rfl:b'=b:=e1
     obtain rfl:o'=j:=by omega
     exact .box _ _ _ _ _ ho hk hc'
theorem view_shared{w:World}{L:LM}(W:WF w L){h:Hd}{r:Nat}{p:List Nat}{off len sz n0:Nat}{cs ds:List PV}{u u':Value}(V:RepV w L h (.view r p off len sz) u)(H:RepV w L (some (r,p)) (.own sz n0 cs) u')
 (hle:off+len*sz<=cs.length)(hd:frzL ((cs.drop off).take (len*sz))=some ds){σ:Lab->Lab}(hs:σ .sh = .sh)(hσ:∀s i,σ (.own r (p++s) i) = .sh)(h':Hd):
 RepV w (fun b j=>σ (L b j)) h' (.sl len ds) u:=by
 cases V with
 | view _ _ _ _ _ _ b cap hl hp hlab=>
   cases H with
   | own _ _ _ _ _ b' cap' hn hl' hp' ho hk hc=>
     have hlen:=frzL_length hd
     simp only[List.length_take,List.length_drop] at hlen
     have hlen':ds.length=len*sz:=by omega
     have lab:∀i,i<len*sz->L b (off+i) = .own r p (off+i):=fun i hi=>hlab _ (by
      have:len*sz<=cap*sz:=Nat.mul_le_mul_right _ hl
      omega)
     refine .sl _ _ _ _ _ _ hl (fun i hi=>?_) (fun i hi=>?_) fun i hi=>?_
     ·simp only[lab i (by omega)]
      have:=hσ [] (off+i)
      simpa using this
     ·have hi2:i<((cs.drop off).take (len*sz)).length:=by simp;omega
      have:=frzL_get hd i hi2 hi
      refine frz_cok this ?_
      simp only[List.getElem_take,List.getElem_drop]
      exact hk _ _
     ·have hi2:i<((cs.drop off).take (len*sz)).length:=by simp;omega
      have hf:=frzL_get hd i hi2 hi
      simp only[List.getElem_take,List.getElem_drop] at hf
      have hi3:off+i<cs.length:=by omega
      have h0:0<len*sz:=by omega
      obtain⟨h1,h2⟩:=mul_pos_of h0
      have hcap:cs.length<=cap'*sz:=by rw[hn];exact Nat.mul_le_mul_right _ hl'
      obtain⟨e,_⟩:=W.inj _ _ _ _ _ _ _ (lab i (by omega)) (ho (off+i) (by omega))
      have:=(hc (off+i) hi3).share (σ:=σ) hs (fun r' p' e' s k=>by
       simp only[Option.some.injEq,Prod.mk.injEq] at e'
       obtain⟨rfl,rfl⟩:=e'
       rw[List.append_assoc];exact hσ _ _) hf Option.none
      rw[e] at this
      exact this
def FlyOk(w:World)(L:LM)(w':World)(L':LM)(n m:Nat):Prop:=∀k v u,k<m->RepV w L (some (n,[k])) v u->refs v=[]->RepV w' L' (some (n,[k])) v u
def Back(L L':LM)(n:Nat):Prop:=∀b j r p i,r<n->L' b j = .own r p i->L b j = .own r p i
def Later(w:World)(L L':LM)(gone:List (Nat×List Nat)):Prop:=∀y u,RepV w L Option.none y u->RepV w L' Option.none (purges gone y) u
theorem later_of{w:World}{L:LM}{y:PV}{u:Value}(H:RepV w L Option.none y u){r:Nat}{p:List Nat}{σ:Lab->Lab}(hs:σ .sh = .sh)(hσ:∀l,¬Under r p l->σ l=l):
 RepV w (fun b j=>σ (L b j)) Option.none (purges [(r,p)] y) u:=
 (H.purge (und r p)).move (h':=Option.none) hs trivial fun q hq i=>hσ _ (not_under (refs_purge1 _ _ q hq).2)
theorem moved_ext{w:World}{L:LM}{r:Nat}{p:List Nat}{r':Nat}{p':List Nat}:Ext w L w (fun b j=>moveL r p r' p' (L b j)):=Ext.relabel w L rfl rfl
section
variable {P:Program} {n m:Nat} {w:World} {L:LM} {a:Act} {e:Env}
theorem InvF.fly(I:InvF n m w L a e.get){r:Nat}{p:List Nat}{v:PV}{u:Value}(hv:Ab.sub (e.get r) p=v)(hne:v ≠ .none)(hrefs:refs v=[])(hc:canUpd e r p=true)(H:RepV w L (some (r,p)) v u):
 ∃L',InvF n (m+1) w L' a ((e.upd r p .none).purge r p).get/\RepV w L' (some (n,[m])) v u/\(FlyOk w L w L' n m/\Back L L' n)/\Ext w L w L'/\Later w L L' [(r,p)]:=by
 have hr:r<n:=I.lt (sub_ne (p:=p) (by rw[hv];exact hne))
 refine⟨fun b j=>moveL r p n [m] (L b j),?_,?_,⟨?_,?_⟩,moved_ext,fun y uy Hy=>later_of Hy rfl fun l hl=>moveL_not hl⟩
 ·refine I.reshape (σ:=moveL r p n [m]) rfl (fun l hl=>moveL_not hl) hr (hasP_of_sub _ _ (by rw[hv];exact hne)) (fun _=>rfl) (by simp[refs]) hc (fun _ _=>.none _ _) (I.wf.moved fun b j s i _=>by simpa using I.noFly (Nat.le_refl m)) fun b j q s i h=>?_
  rcases moveL_cases (r:=r) (p:=p) (r':=n) (p':=[m]) (l:=L b j) with⟨s1,i1,h1,h2⟩|⟨h1,h2⟩
  ·rw[h2] at h
   simp only[Lab.own.injEq] at h
   obtain⟨rfl,rfl,rfl⟩:=h
   exact .inr ⟨rfl,m,s1,rfl,by omega⟩
  ·rw[h2] at h
   rcases I.bd _ _ _ _ _ h with h|⟨h,k,s',h',h''⟩
   ·exact .inl h
   ·exact .inr ⟨h,k,s',h',by omega⟩
 ·exact H.move (σ:=moveL r p n [m]) rfl (fun s i=>moveL_under) (by simp[hrefs])
 ·intro k y uy hk Hy hy
  refine Hy.move (σ:=moveL r p n [m]) rfl (fun s i=>moveL_not ?_) (by simp[hy])
  rw[under_iff];rintro⟨h,_⟩;omega
 ·intro b j q s i hq h
  have h:moveL r p n [m] (L b j) = .own q s i:=h
  rcases moveL_cases (r:=r) (p:=p) (r':=n) (p':=[m]) (l:=L b j) with⟨s1,i1,h1,h2⟩|⟨h1,h2⟩
  ·rw[h2] at h;simp only[Lab.own.injEq] at h;omega
  ·rw[h2] at h;exact h
theorem InvF.share(I:InvF n m w L a e.get){r:Nat}{p:List Nat}{e':Env}{s0 n0:Nat}{cs0:List PV}(hv:Ab.sub (e.get r) p = .own s0 n0 cs0)(hc:canUpd e r p=true)(h:Ab.share e r p=some e'):
 InvF n m w (fun b j=>shareL r p (L b j)) a e'.get/\(FlyOk w L w (fun b j=>shareL r p (L b j)) n m/\Back L (fun b j=>shareL r p (L b j)) n)/\Ext w L w (fun b j=>shareL r p (L b j))/\Later w L (fun b j=>shareL r p (L b j)) [(r,p)]:=by
 have hne:Ab.sub (e.get r) p ≠ .none:=by rw[hv];simp
 simp only[Ab.share,Option.map_eq_some_iff] at h
 obtain⟨x,hx,rfl⟩:=h
 have hr:r<n:=I.lt (sub_ne hne)
 refine⟨?_,⟨fun k y uy hk Hy hy=>?_,fun b j q s i _ h=>(shareL_own h).1⟩,Ext.relabel w L rfl rfl,fun y uy Hy=>later_of Hy rfl fun l hl=>shareL_not hl⟩
 ·refine I.reshape (σ:=shareL r p) rfl (fun l hl=>shareL_not hl) hr (hasP_of_sub _ _ hne) (fun hp=>?_) (fun q hq=>?_) hc (fun u hu=>hu.share (σ:=shareL r p) rfl (fun r' p' e' s i=>by
   simp only[Option.some.injEq,Prod.mk.injEq] at e'
   obtain⟨rfl,rfl⟩:=e'
   exact shareL_under) hx _) (I.wf.shared r p) fun b j q s i h=>I.bd _ _ _ _ _ (shareL_own h).1
  ·have hx':frz (.own s0 n0 cs0)=some x:=by rw[←hv];exact hx
   simp only[frz,Option.map_eq_some_iff] at hx'
   obtain⟨_,_,rfl⟩:=hx'
   rfl
  ·have hx':frz (.own s0 n0 cs0)=some x:=by rw[←hv];exact hx
   simp only[frz,Option.map_eq_some_iff] at hx'
   obtain⟨_,_,rfl⟩:=hx'
   simp[refs] at hq
 ·refine Hy.move (σ:=shareL r p) rfl (fun s i=>shareL_not ?_) (by simp[hy])
  rw[under_iff];rintro⟨h,_⟩;omega
theorem take1_sound(I:InvF n m w L a e.get){v x:PV}{u:Value}{e':Env}(V:RepV w L Option.none v u)(h:take1 e v=some (x,e')):
 ∃L',InvF n (m+1) w L' a e'.get/\RepV w L' (some (n,[m])) x u/\refs x=[]/\x.cok=true/\(FlyOk w L w L' n m/\Back L L' n)/\Ext w L w L'/\Later w L L' (refs v):=by
 have same:v.free=true->∃L',InvF n (m+1) w L' a e.get/\RepV w L' (some (n,[m])) v u/\refs v=[]/\v.cok=true/\(FlyOk w L w L' n m/\Back L L' n)/\Ext w L w L'/\Later w L L' (refs v):=fun hf=>
  ⟨L,⟨I.toInv,fun b j r p i h=>by
    rcases I.bd b j r p i h with h|⟨h,k,s,h',h''⟩
    ·exact .inl h
    ·exact .inr ⟨h,k,s,h',by omega⟩,I.dom,I.nr⟩,V.any hf _,free_refs hf,free_cok hf,⟨fun _ _ _ _ H _=>H,fun _ _ _ _ _ _ h=>h⟩,.refl _ _,by rw[free_refs hf];intro y uy H;exact H⟩
 unfold take1 at h
 split at h
 ·rename_i r p off len z
  split at h
  ·rename_i sz n0 cs hs
   split at h
   ·cases h
   ·rename_i hz
    have hz':z=sz/\canUpd e r p=true:=by
     constructor
     ·apply Classical.byContradiction;intro hh;exact hz (.inl hh)
     ·cases hcu:canUpd e r p
      ·exact absurd (.inr hcu) hz
      ·rfl
    obtain⟨rfl,hcu⟩:=hz'
    have hne:Ab.sub (e.get r) p ≠ .none:=by
     have:Ab.sub (e.get r) p = .own z n0 cs:=hs
     rw[this];simp
    obtain⟨u',hu'⟩:=I.obj hne
    rw[show Ab.sub (e.get r) p = .own z n0 cs from hs] at hu'
    split at h
    ·rename_i h0
     obtain⟨rfl,rfl⟩:=h0
     simp only[Option.some.injEq,Prod.mk.injEq] at h
     obtain⟨rfl,rfl⟩:=h
     obtain⟨L',h1,h2,h3,h4,h5⟩:=I.fly (v:=.own z len cs) hs (by simp) rfl hcu (view_own I.wf V hu')
     exact⟨L',h1,h2,rfl,rfl,h3,h4,h5⟩
    ·split at h
     ·rename_i hle
      split at h
      ·rename_i ds e1 hd hsh
       simp only[Option.some.injEq,Prod.mk.injEq] at h
       obtain⟨rfl,rfl⟩:=h
       obtain⟨h1,h2,h3,h4⟩:=I.share hs hcu hsh
       refine⟨_,⟨h1.toInv,fun b j r p i h=>?_,h1.dom,h1.nr⟩,view_shared I.wf V hu' hle hd (σ:=shareL r p) rfl (fun s i=>shareL_under) _,rfl,rfl,h2,h3,h4⟩
       rcases h1.bd b j r p i h with h|⟨h,k,s,h',h''⟩
       ·exact .inl h
       ·exact .inr ⟨h,k,s,h',by omega⟩
      ·cases h
     ·cases h
  ·cases h
 ·rename_i r p mm
  split at h
  ·rename_i cs hs
   split at h
   ·rename_i hcond
    obtain⟨hcu,hm,hcs⟩:=hcond
    simp only[Option.some.injEq,Prod.mk.injEq] at h
    obtain⟨rfl,rfl⟩:=h
    have hs':Ab.sub (e.get r) p = .box cs:=hs
    obtain⟨u',hu'⟩:=I.obj (r:=r) (p:=p) (by rw[hs'];simp)
    rw[hs'] at hu'
    obtain⟨L',h1,h2,h3,h4,h5⟩:=I.fly (v:=.box cs) hs' (by simp) rfl hcu (ref_box I.wf V hu' hm hcs)
    exact⟨L',h1,h2,rfl,rfl,h3,h4,h5⟩
   ·cases h
  ·cases h
 ·split at h
  ·rename_i hf
   simp only[Option.some.injEq,Prod.mk.injEq] at h
   obtain⟨rfl,rfl⟩:=h
   exact same hf
  ·cases h
theorem purges_append(l l':List (Nat×List Nat))(c:PV):purges (l++l') c=purges l (purges l' c):=by
 induction l with
 | nil=>rfl
 | cons q l ih=>simp[purges,ih]
theorem takeL_sound:∀{cs:List PV} {us:List Value} {l:List (Nat×List Nat)} {n m:Nat} {w:World} {L:LM} {a:Act} {e e':Env} {xs:List PV} (I:InvF n m w L a e.get) (hl:us.length=cs.length)
 (V:∀i (hi:i<cs.length) (hi':i<us.length),RepV w L Option.none (purges l cs[i]) us[i]) (h:takeL e l cs=some (xs,e')),
 ∃L',InvF n (m+cs.length) w L' a e'.get/\xs.length=cs.length/\(∀i (hi:i<xs.length) (hi':i<us.length),RepV w L' (some (n,[m+i])) xs[i] us[i]/\refs xs[i]=[]/\xs[i].cok=true)/\(FlyOk w L w L' n m/\Back L L' n)/\Ext w L w L'
 | [],us,l,n,m,w,L,a,e,e',xs,I,hl,V,h=>by
   simp only[takeL,Option.some.injEq,Prod.mk.injEq] at h
   obtain⟨rfl,rfl⟩:=h
   exact⟨L,by simpa using I,rfl,fun i hi=>by simp at hi,⟨fun _ _ _ _ H _=>H,fun _ _ _ _ _ _ h=>h⟩,.refl _ _⟩
 | c::cs,us,l,n,m,w,L,a,e,e',xs,I,hl,V,h=>by
   simp only[takeL] at h
   split at h
   ·rename_i x e1 h1
    split at h
    ·rename_i xs1 e2 h2
     simp only[Option.some.injEq,Prod.mk.injEq] at h
     obtain⟨rfl,rfl⟩:=h
     cases us with
     | nil=>simp at hl
     | cons u us=>
       obtain⟨L1,I1,H1,hr1,hk1,⟨F1,B1⟩,E1,T1⟩:=take1_sound I (V 0 (by simp) (by simp)) h1
       obtain⟨L2,I2,hlen,H2,⟨F2,B2⟩,E2⟩:=takeL_sound (m:=m+1) (us:=us) I1 (by simpa using hl) (fun i hi hi'=>by
        have:=T1 _ _ (V (i+1) (by simpa using hi) (by simpa using hi'))
        rw[purges_append]
        simpa using this) h2
       refine⟨L2,by simpa[Nat.add_assoc,Nat.add_comm 1] using I2,by simp[hlen],fun i hi hi'=>?_,⟨fun k y uy hk H hy=>F2 k y uy (by omega) (F1 k y uy hk H hy) hy,fun b j r p i hr h=>B1 b j r p i hr (B2 b j r p i hr h)⟩,E1.trans E2⟩
       cases i with
       | zero=>exact⟨F2 m _ _ (by omega) (by simpa using H1) hr1,hr1,hk1⟩
       | succ i=>
         have:=H2 i (by simpa using hi) (by simpa using hi')
         simpa[Nat.add_assoc,Nat.add_comm 1] using this
    ·cases h
   ·cases h
end
open Go
structure Wrote (w w':World) (b lo:Nat) (vs:List Value):Prop where
 os:w'.os=w.os
 tape:w'.tape=w.tape
 output:w'.output=w.output
 size:w'.heap.size=w.heap.size
 other:∀b',b'≠b->w'.heap[b']? = w.heap[b']?
 blk:∃c c' t fr,w.heap[b]? = some (.cells c t fr)/\w'.heap[b]? = some (.cells c' t fr)/\c'.size=c.size/\∀j,c'[j]? = if lo<=j/\j<lo+vs.length then vs[j-lo]? else c[j]?
theorem run_storeCells{P:Program}{b o:Nat}:∀(vs:List Value) (i:Nat) (w:World),(∃c t fr,w.heap[b]? = some (.cells c t fr)/\o+i+vs.length<=c.size)->(∀k,k<vs.length->w.frozen? ⟨b,o+i+k,Option.none⟩=false)->(∀v∈vs,v.oneCell'=true) ->
 ∃w',(storeCells ⟨b,o,Option.none⟩ vs i).run P w = .ok () w'/\Wrote w w' b (o+i) vs
 | [],i,w,⟨c,t,fr,hc,hle⟩,_,_=>⟨w,by simp[storeCells],rfl,rfl,rfl,rfl,fun _ _=>rfl,c,c,t,fr,hc,hc,rfl,fun j=>by simp;intro h1 h2;omega⟩
 | v::vs,i,w,⟨c,t,fr,hc,hle⟩,hf,hone=>by
   simp only[List.length_cons] at hle hf
   have hcell:w.cell? ⟨b,o+i,Option.none⟩=some (c[o+i]'(by omega)):=by simp[World.cell?,hc,show o+i<c.size by omega]
   have hfr:=hf 0 (by omega)
   simp only[Nat.add_zero] at hfr
   let w1:=w.setCell ⟨b,o+i,Option.none⟩ v
   have hlt:b<w.heap.size:=by
    rcases Nat.lt_or_ge b w.heap.size with h|h
    ·exact h
    ·rw[Array.getElem?_eq_none h] at hc;cases hc
   have h1:w1.heap[b]? = some (.cells (c.setIfInBounds (o+i) v) t fr):=by
    simp only[w1,World.setCell,Array.getElem?_modify,if_true,hc,Option.map_some]
    simp
   have hfz:∀k,k<vs.length->w1.frozen? ⟨b,o+(i+1)+k,Option.none⟩=false:=fun k hk=>by
    have:=hf (k+1) (by omega)
    simp only[World.frozen?,hc] at this
    simp only[World.frozen?,h1]
    rw[show o+(i+1)+k=o+i+(k+1) by omega]
    exact this
   obtain⟨w',hr,W⟩:=run_storeCells vs (i+1) w1 ⟨_,_,_,h1,by simp;omega⟩ hfz fun v hv=>hone v (by simp[hv])
   refine⟨w',?_,W.os.trans rfl,W.tape.trans rfl,W.output.trans rfl,by rw[W.size];simp[w1,World.setCell],fun b' hb'=>?_,?_⟩
   ·simp only[storeCells,Sem.run_bind,addr_add,run_store P w ⟨b,o+i,Option.none⟩ v .plain (hone v (by simp)),hcell,hfr]
    exact hr
   ·rw[W.other b' hb']
    simp only[w1,World.setCell,Array.getElem?_modify]
    rw[if_neg (by simpa using Ne.symm hb')]
   ·obtain⟨c1,c',t1,fr1,e1,e2,e3,e4⟩:=W.blk
    rw[h1] at e1
    simp only[Option.some.injEq,Obj.cells.injEq] at e1
    obtain⟨rfl,rfl,rfl⟩:=e1
    refine⟨c,c',_,_,hc,e2,by simpa using e3,fun j=>?_⟩
    rw[e4 j]
    simp only[List.length_cons]
    by_cases ha:o+(i+1)<=j/\j<o+(i+1)+vs.length
    ·rw[if_pos ha,if_pos (by omega)]
     rw[show j-(o+i)=(j-(o+(i+1)))+1 by omega]
     simp
    ·rw[if_neg ha]
     by_cases hb:j=o+i
     ·subst hb
      rw[if_pos (by omega)]
      simp[show o+i<c.size by omega]
     ·rw[if_neg (by omega)]
      simp[Array.getElem?_setIfInBounds,Ne.symm hb]
theorem Wrote.cell{w w':World}{b lo:Nat}{vs:List Value}(W:Wrote w w' b lo vs){b' j:Nat}(h:b'≠b\/j<lo\/lo+vs.length<=j):w'.cell? ⟨b',j,Option.none⟩=w.cell? ⟨b',j,Option.none⟩:=by
 by_cases hb:b'=b
 ·subst hb
  obtain⟨c,c',t,fr,e1,e2,e3,e4⟩:=W.blk
  have:=e4 j
  have hn:¬(lo<=j/\j<lo+vs.length):=by
   rcases h with h|h|h
   ·exact absurd rfl h
   ·omega
   ·omega
  rw[if_neg hn] at this
  simp[World.cell?,e1,e2,this]
 ·simp[World.cell?,W.other b' hb]
theorem Wrote.cell_new{w w':World}{b lo:Nat}{vs:List Value}(W:Wrote w w' b lo vs){k:Nat}(hk:k<vs.length):cv w' b (lo+k)=vs[k]:=by
 obtain⟨c,c',t,fr,e1,e2,e3,e4⟩:=W.blk
 have:=e4 (lo+k)
 rw[if_pos (by omega),show lo+k-lo=k by omega] at this
 simp[cv,World.cell?,e2,this,hk]
theorem Wrote.frozen{w w':World}{b lo:Nat}{vs:List Value}(W:Wrote w w' b lo vs)(a:Addr):w'.frozen? a=w.frozen? a:=by
 by_cases hb:a.block=b
 ·obtain⟨c,c',t,fr,e1,e2,e3,e4⟩:=W.blk
  rw[←hb] at e1 e2
  simp[World.frozen?,e1,e2]
 ·simp[World.frozen?,W.other a.block hb]
theorem Wrote.ex{w w':World}{b lo:Nat}{vs:List Value}(W:Wrote w w' b lo vs){b' j:Nat}{v:Value}(h:w.cell? ⟨b',j,Option.none⟩=some v):∃v',w'.cell? ⟨b',j,Option.none⟩=some v':=by
 by_cases hb:b'=b
 ·subst hb
  obtain⟨c,c',t,fr,e1,e2,e3,e4⟩:=W.blk
  have hj:j<c.size:=by
   rcases Nat.lt_or_ge j c.size with h'|h'
   ·exact h'
   ·simp[World.cell?,e1,Array.getElem?_eq_none h'] at h
  exact⟨c'[j]'(by omega),by simp[World.cell?,e2,show j<c'.size by omega]⟩
 ·exact⟨v,by simpa[World.cell?,W.other b' hb] using h⟩
theorem Wrote.ext{w w':World}{b lo:Nat}{vs:List Value}(W:Wrote w w' b lo vs){L L':LM}(hl:∀j,lo<=j->j<lo+vs.length->∃r p i,L b j = .own r p i)(hlab:∀b j,(L b j = .out\/L b j = .sh)->L' b j=L b j):Ext w L w' L':=by
 refine⟨W.os,W.tape,W.output,Nat.le_of_eq W.size.symm,fun b' j _ h=>hlab b' j h,fun b' hb'=>?_⟩
 by_cases hb:b'=b
 ·subst hb
  obtain⟨c,c',t,fr,e1,e2,e3,e4⟩:=W.blk
  rw[e1,e2]
  refine⟨rfl,rfl,e3,fun j hj=>?_⟩
  rw[e4 j]
  split
  ·rename_i h
   obtain⟨r,p,i,e⟩:=hl j h.1 h.2
   rw[e] at hj
   rcases hj with hj|hj <;> cases hj
  ·rfl
 ·rw[W.other b' hb];exact .refl _ _ _
open Go
def landL(n d:Nat)(l:Lab):Lab:=moveL n [] d [] (dropL d [] l)
theorem landL_fly{n d k:Nat}(hd:d≠n){s:List Nat}{i:Nat}:landL n d (.own n (k::s) i) = .own d (k::s) i:=by
 simp[landL,dropL,Ne.symm hd,moveL]
section
variable {P:Program} {n m:Nat} {w:World} {L:LM} {a:Act} {e:Env}
theorem under_nil{n t:Nat}{s:List Nat}{i:Nat}:Under n [] (.own t s i)↔t=n:=by
 rw[under_iff];simp
theorem InvF.land(I:InvF n m w L a e.get){d:Nat}(hd:d<n):
 InvF n 0 w (fun b j=>landL n d (L b j)) a (fun t=>if t=d then .none else purge1 (und d []) (e.get t))/\NoTop (fun b j=>landL n d (L b j)) d /\
 (∀k v u,k<m->RepV w L (some (n,[k])) v u->refs v=[]->RepV w (fun b j=>landL n d (L b j)) (some (d,[k])) v u)/\Ext w L w (fun b j=>landL n d (L b j)):=by
 have W1:=I.wf.drop d []
 have cases_:∀l,(∃s i,l=Lab.own n s i/\landL n d l = .own d s i)\/(landL n d l=dropL d [] l/\¬Under n [] (dropL d [] l)):=by
  intro l
  rcases moveL_cases (r:=n) (p:=[]) (r':=d) (p':=[]) (l:=dropL d [] l) with⟨s,i,h1,h2⟩|⟨h1,h2⟩
  ·obtain⟨h3,_⟩:=dropL_own h1
   exact .inl ⟨s,i,by simpa using h3,by simpa[landL] using h2⟩
  ·exact .inr ⟨h2,h1⟩
 refine⟨⟨⟨?_,fun t=>?_,I.df,I.sz⟩,fun b j r p i h=>?_,fun t ht=>?_,fun t q hq=>?_⟩,fun b j i h=>?_,fun k v u hk H hr=>?_,Ext.relabel w L rfl rfl⟩
 ·exact W1.moved fun b j s i _ h=>by
   simp only[List.nil_append] at h
   obtain⟨h1,h2⟩:=dropL_own h
   apply h2;rw[h1,under_nil]
 ·by_cases ht:t=d
  ·simp only[ht,if_true];exact .none _ _
  ·simp only[ht,if_false]
   rcases Nat.lt_or_ge t n with h|h
   ·have H:=(I.rep t).drop (r:=d) (p:=[]) fun s i=>by rw[under_nil];exact ht
    refine H.move (σ:=moveL n [] d []) rfl (fun s i=>moveL_not ?_) fun q hq i=>moveL_not ?_
    ·rw[under_nil];omega
    ·rw[under_nil]
     have:=I.nr t q (refs_purge1 _ _ q hq).1
     omega
   ·rw[I.dom t h];exact .none _ _
 ·rcases cases_ (L b j) with⟨s,i',h1,h2⟩|⟨h1,h2⟩
  ·rw[h2] at h;simp only[Lab.own.injEq] at h;exact .inl (by omega)
  ·rw[h1] at h
   obtain⟨h3,h4⟩:=dropL_own h
   rw[h,under_nil] at h2
   rcases I.bd _ _ _ _ _ h3 with h5|⟨h5,_⟩
   ·exact .inl h5
   ·exact absurd h5 h2
 ·rw[if_neg (by omega),I.dom t ht];rfl
 ·split at hq
  ·simp[refs] at hq
  ·exact I.nr t q (refs_purge1 _ _ q hq).1
 ·have h:landL n d (L b j) = .own d [] i:=h
  rcases cases_ (L b j) with⟨s,i',h1,h2⟩|⟨h1,h2⟩
  ·rw[h2] at h
   simp only[Lab.own.injEq,true_and] at h
   obtain⟨rfl,rfl⟩:=h
   rcases I.bd _ _ _ _ _ h1 with h5|⟨_,k,s',h5,_⟩
   ·omega
   ·cases h5
  ·rw[h1] at h
   obtain⟨h3,h4⟩:=dropL_own h
   apply h4;rw[h3,under_nil]
 ·exact H.move (σ:=landL n d) rfl (fun s i=>landL_fly (by omega)) (by simp[hr])
end
open Go
theorem rep_refs{w:World}{L:LM}{h:Hd}{v:PV}{u:Value}(H:RepV w L h v u):∀q∈refs v,∃b j i,L b j = .own q.1 q.2 i:=by
 have key:∀{cs:List PV},(∀i (hi:i<cs.length),∀q∈refs cs[i],∃b j k,L b j = .own q.1 q.2 k)->∀q∈refsL cs,∃b j k,L b j = .own q.1 q.2 k:=by
  intro cs h q hq
  obtain⟨c,hc,hq⟩:=mem_refsL_iff.1 hq
  obtain⟨i,hi,rfl⟩:=List.getElem_of_mem hc
  exact h i hi q hq
 induction H with
 | ref h r p i n b j hp e=>intro q hq;simp only[refs,List.mem_singleton] at hq;subst hq;exact⟨b,j,i,by simpa using e 0 hp⟩
 | view h r p off len sz b cap hl hp e=>intro q hq;simp only[refs,List.mem_singleton] at hq;subst hq;exact⟨b,0,0,e 0 hp⟩
 | agg h cs vs hz hc ih=>exact key ih
 | tup h cs vs hz hc ih=>exact key ih
 | fn h f cs vs hz hc ih=>exact key ih
 | _=>intro q hq;simp[refs] at hq
section
variable {P:Program} {n:Nat} {w:World} {L:LM} {a:Act} {e:Env} {o:Oper} {Q:Exit->Act->World->Prop}
def StepOk(P:Program)(n:Nat)(o:Oper)(a:Act)(w:World)(L:LM)(e':Env)(Q:Exit->Act->World->Prop):Prop:=
 o.wp P a w (fun a' w'=>∃L',InvF n 0 w' L' a' e'.get/\Ext w L w' L') Q
theorem InvF.drop{m:Nat}{g:Nat->PV}(I:InvF n m w L a g)(d:Nat):InvF n m w (fun b j=>dropL d [] (L b j)) a (fun t=>if t=d then .none else purge1 (und d []) (g t)):=
 ⟨I.toInv.drop d,fun b j r p i h=>I.bd b j r p i (dropL_own h).1,fun t ht=>by
   by_cases h:t=d
   ·simp[h]
   ·simp only[h,if_false,I.dom t ht];rfl,fun t q hq=>by
   split at hq
   ·simp[refs] at hq
   ·exact I.nr t q (refs_purge1 _ _ q hq).1⟩
theorem InvF.put{g:Nat->PV}{w':World}{L':LM}(I:InvF n 0 w L a g){d:Nat}(hd:d<n)(G:Grows w L w' L'){v:PV}{u:Value}(H:RepV w' L' (some (d,[])) v u)
 (hb:∀b j r p i,L' b j = .own r p i->r<n):InvF n 0 w' L' (a.put (some d) u) (fun t=>if t=d then v else g t) where
 toInv:=I.toInv.put hd G H
 bd b j r p i h:=.inl (hb b j r p i h)
 dom t ht:=by rw[if_neg (by omega)];exact I.dom t ht
 nr t q hq:=by
  split at hq
  ·obtain⟨b,j,i,h⟩:=rep_refs H q hq
   exact hb _ _ _ _ _ h
  ·exact I.nr t q hq
theorem InvF.roots(I:InvF n 0 w L a e.get){b j r:Nat}{p:List Nat}{i:Nat}(h:L b j = .own r p i):r<n:=by
 rcases I.bd _ _ _ _ _ h with h|⟨_,k,s,_,h⟩
 ·exact h
 ·omega
theorem StepOk.val(I:InvF n 0 w L a e.get){d:Nat}(hd:d<n)(ho:o.dst=some d){v:PV}(h:ValAt P o a w L v):StepOk P n o a w L (e.setD d (purge1 (und d []) v)) Q:=by
 obtain⟨u,hr,hrep,hn⟩:=h
 unfold StepOk Oper.wp
 rw[hr]
 simp only[Oper.upon,ho]
 refine⟨fun b j=>dropL d [] (L b j),?_,Ext.relabel w L rfl rfl⟩
 refine ((I.drop d).put hd (Grows.refl (I.wf.drop d [])) ((hrep Option.none).loose_drop hn d [] (some (d,[]))) fun b j r p i h=>I.roots (dropL_own h).1).congr fun t=>?_
 rw[get_setD];by_cases h:t=d <;> simp[h]
theorem StepOk.new(I:InvF n 0 w L a e.get){d:Nat}(hd:d<n)(ho:o.dst=some d){v:PV}(h:NewAt P o a w L d v):StepOk P n o a w L (e.setD d v) Q:=by
 obtain⟨u,w',L',hr,G,hrep,hlab⟩:=h
 unfold StepOk Oper.wp
 rw[hr]
 simp only[Oper.upon,ho]
 refine⟨L',?_,(Ext.relabel w L rfl rfl).trans G.ext⟩
 refine ((I.drop d).put hd G hrep fun b j r p i h=>?_).congr fun t=>?_
 ·rcases hlab b j with h'|⟨p',i',h'⟩|h'
  ·rw[h'] at h;exact I.roots (dropL_own h).1
  ·rw[h'] at h;simp only[Lab.own.injEq] at h;omega
  ·rw[h'] at h;cases h
 ·rw[get_setD];by_cases h:t=d <;> simp[h]
theorem InvF.land1(I:InvF n 1 w L a e.get){d:Nat}(hd:d<n){v:PV}{u:Value}(H:RepV w L (some (n,[0])) v u)(hr:refs v=[]):
 ∃L',InvF n 0 w L' (a.put (some d) u) (e.setD d v).get/\Ext w L w L':=by
 have W1:=I.wf.drop d []
 have fl:∀l,(∃s i,l=Lab.own n (0::s) i/\moveL n [0] d [] (dropL d [] l) = .own d s i)\/(moveL n [0] d [] (dropL d [] l)=dropL d [] l/\¬Under n [0] (dropL d [] l)):=by
  intro l
  rcases moveL_cases (r:=n) (p:=[0]) (r':=d) (p':=[]) (l:=dropL d [] l) with⟨s,i,h1,h2⟩|⟨h1,h2⟩
  ·obtain⟨h3,_⟩:=dropL_own h1
   exact .inl ⟨s,i,by simpa using h3,by simpa using h2⟩
  ·exact .inr ⟨h2,h1⟩
 have notd:∀b j s i,dropL d [] (L b j) ≠ .own d s i:=by
  intro b j s i h
  obtain⟨h1,h2⟩:=dropL_own h
  apply h2;rw[h1,under_nil]
 have wf':WF w (fun b j=>moveL n [0] d [] (dropL d [] (L b j))):=W1.moved fun b j s i _ h=>notd b j s i (by simpa using h)
 have bd':∀b j r p i,moveL n [0] d [] (dropL d [] (L b j)) = .own r p i->r<n:=by
  intro b j r p i h
  rcases fl (L b j) with⟨s,i',h1,h2⟩|⟨h1,h2⟩
  ·rw[h2] at h;simp only[Lab.own.injEq] at h;omega
  ·rw[h1] at h
   obtain⟨h3,_⟩:=dropL_own h
   rw[h] at h2
   rcases I.bd _ _ _ _ _ h3 with h5|⟨h5,k,s,h6,h7⟩
   ·exact h5
   ·exfalso;apply h2;rw[under_iff,h6];obtain rfl:k=0:=by omega
    exact⟨h5,by simp⟩
 have I':InvF n 0 w (fun b j=>moveL n [0] d [] (dropL d [] (L b j))) a (fun t=>if t=d then .none else purge1 (und d []) (e.get t)):=by
  refine⟨⟨wf',fun t=>?_,I.df,I.sz⟩,fun b j r p i h=>.inl (bd' b j r p i h),fun t ht=>?_,fun t q hq=>?_⟩
  ·by_cases ht:t=d
   ·simp only[ht,if_true];exact .none _ _
   ·simp only[ht,if_false]
    rcases Nat.lt_or_ge t n with h|h
    ·have H:=(I.rep t).drop (r:=d) (p:=[]) fun s i=>by rw[under_nil];exact ht
     refine H.move (σ:=moveL n [0] d []) rfl (fun s i=>moveL_not ?_) fun q hq i=>moveL_not ?_
     ·rw[under_iff];rintro⟨h',_⟩;omega
     ·rw[under_iff]
      rintro⟨h',_⟩
      have:=I.nr t q (refs_purge1 _ _ q hq).1
      omega
    ·rw[I.dom t h];exact .none _ _
  ·rw[if_neg (by omega),I.dom t ht];rfl
  ·split at hq
   ·simp[refs] at hq
   ·exact I.nr t q (refs_purge1 _ _ q hq).1
 refine⟨_,(I'.put hd (Grows.refl wf') (v:=v) (u:=u) ?_ bd').congr fun t=>?_,Ext.relabel w L (σ:=fun l=>moveL n [0] d [] (dropL d [] l)) rfl rfl⟩
 ·refine H.move (σ:=fun l=>moveL n [0] d [] (dropL d [] l)) rfl (fun s i=>?_) (by simp[hr])
  have:dropL d [] (.own n ([0]++s) i) = .own n ([0]++s) i:=dropL_of_not (by rw[under_nil];omega)
  simp only[this,moveL_under]
 ·rw[get_setD];by_cases h:t=d <;> simp[h]
theorem StepOk.take1(I:InvF n 0 w L a e.get){d:Nat}(hd:d<n)(ho:o.dst=some d){v x:PV}{u:Value}{e':Env}(hr:(execOp a.eval o).run P w = .ok (.value u) w)(V:RepV w L Option.none v u)(h:Ab.take1 e v=some (x,e')):
 StepOk P n o a w L (e'.setD d x) Q:=by
 obtain⟨L1,I1,H1,hr1,_,_,E1,_⟩:=take1_sound I V h
 obtain⟨L2,I2,E2⟩:=I1.land1 hd H1 hr1
 unfold StepOk Oper.wp
 rw[hr]
 simp only[Oper.upon,ho]
 exact⟨L2,I2,E1.trans E2⟩
theorem StepOk.takeL(I:InvF n 0 w L a e.get){d:Nat}(hd:d<n)(ho:o.dst=some d){cs ys:List PV}{us:Array Value}{e':Env}(hr:(execOp a.eval o).run P w = .ok (.value (.agg us)) w)(V:RepV w L Option.none (.agg cs) (.agg us))
 (h:Ab.takeL e [] cs=some (ys,e')):StepOk P n o a w L (e'.setD d (.agg ys)) Q:=by
 cases V with
 | agg _ _ _ hz hc=>
   obtain⟨L1,I1,hlen,H1,_,E1⟩:=takeL_sound (us:=us.toList) I (by simpa using hz) (fun i hi hi'=>by
    have:=hc i hi
    simpa[purges,Array.getD,show i<us.size by omega,Hd.snoc] using this) h
   rw[Nat.zero_add] at I1
   obtain⟨I2,T2,F2,E2⟩:=I1.land hd
   unfold StepOk Oper.wp
   rw[hr]
   simp only[Oper.upon,ho]
   refine⟨_,(I2.put hd (Grows.refl I2.wf) (v:=.agg ys) (u:=.agg us) ?_ fun b j r p i h=>?_).congr fun t=>?_,E1.trans E2⟩
   ·refine .agg _ _ _ (by omega) fun i hi=>?_
    have:=H1 i hi (by simp;omega)
    have h2:=F2 i _ _ (by omega) (by simpa using this.1) this.2.1
    simpa[Hd.snoc,Array.getD,show i<us.size by omega] using h2
   ·rcases I2.bd b j r p i h with h|⟨_,k,s,_,h⟩
    ·exact h
    ·omega
   ·rw[get_setD];by_cases h:t=d <;> simp[h]
end
open Go
section
variable {P:Program} {n:Nat} {w:World} {L:LM} {a:Act} {e:Env} {o:Oper} {Q:Exit->Act->World->Prop}
theorem StepOk.cut(I:InvF n 0 w L a e.get){d:Nat}(ho:o.dst=some d){sz n0 len:Nat}{cs:List PV}{u:Value}(hr:(execOp a.eval o).run P w = .ok (.value u) w)(V:RepV w L Option.none (.view d [] 0 len sz) u)
 (hd:e.get d = .own sz n0 cs)(hle:len*sz<=cs.length):StepOk P n o a w L (e.setD d (.own sz len (cs.take (len*sz)))) Q:=by
 have hdn:d<n:=I.lt (by rw[hd];simp)
 have H:=I.rep d
 rw[hd] at H
 have H':RepV w L (some (d,[])) (.own sz len (cs.take (len*sz))) u:=by
  generalize a.eval (.tmp d)=u0 at H
  cases V with
  | view _ _ _ _ _ _ b cap hl hp hlab=>
    cases H with
    | own _ _ _ _ _ b' cap' hn hl' hp' ho' hk hc=>
      refine .own _ _ _ _ _ _ _ (by simp;omega) hl (by omega) (fun j hj=>hlab j (by omega)) (fun i hi=>?_) fun i hi=>?_
      ·simp only[List.getElem_take];exact hk _ _
      ·simp only[List.getElem_take]
       have hi':i<cs.length:=by simp at hi;omega
       have h0:0<len*sz:=by simp at hi;omega
       obtain⟨e1,_⟩:=I.wf.inj _ _ _ _ _ _ _ (hlab 0 hp) (ho' 0 hp')
       rw[←e1]
       exact hc i hi'
 unfold StepOk Oper.wp
 rw[hr]
 simp only[Oper.upon,ho]
 refine⟨L,?_,.refl _ _⟩
 have Ip:InvF n 0 w L a (fun t=>purge1 (und d []) (e.get t)):=
  ⟨⟨I.wf,fun t=>(I.rep t).purge _,I.df,I.sz⟩,I.bd,fun t ht=>by rw[I.dom t ht];rfl,fun t q hq=>I.nr t q (refs_purge1 _ _ q hq).1⟩
 refine (Ip.put hdn (Grows.refl I.wf) H' fun b j r p i h=>I.roots h).congr fun t=>?_
 rw[get_setD]
theorem StepOk.cutShared(I:InvF n 0 w L a e.get){d:Nat}(ho:o.dst=some d){sz n0 len off:Nat}{cs ds:List PV}{u:Value}(hr:(execOp a.eval o).run P w = .ok (.value u) w)(V:RepV w L Option.none (.view d [] off len sz) u)
 (hd:e.get d = .own sz n0 cs)(hle:off+len*sz<=cs.length)(hds:frzL ((cs.drop off).take (len*sz))=some ds):StepOk P n o a w L (e.setD d (.sl len ds)) Q:=by
 have hdn:d<n:=I.lt (by rw[hd];simp)
 have H:=I.rep d
 rw[hd] at H
 have H':=view_shared I.wf V H hle hds (σ:=shareL d []) rfl (fun s i=>by simpa using shareL_under (r:=d) (p:=[]) (s:=s) (i:=i)) (some (d,[]))
 unfold StepOk Oper.wp
 rw[hr]
 simp only[Oper.upon,ho]
 refine⟨fun b j=>shareL d [] (L b j),?_,Ext.relabel w L rfl rfl⟩
 have Ip:InvF n 0 w (fun b j=>shareL d [] (L b j)) a (fun t=>if t=d then .none else purge1 (und d []) (e.get t)):=by
  refine⟨⟨I.wf.shared d [],fun t=>?_,I.df,I.sz⟩,fun b j r p i h=>I.bd b j r p i (shareL_own h).1,fun t ht=>?_,fun t q hq=>?_⟩
  ·by_cases h:t=d
   ·simp only[h,if_true];exact .none _ _
   ·simp only[h,if_false]
    refine ((I.rep t).purge (und d [])).move (σ:=shareL d []) rfl (fun s i=>shareL_not (by rw[under_nil];exact h)) fun q hq i=>shareL_not (not_under (refs_purge1 _ _ q hq).2)
  ·by_cases h:t=d
   ·simp[h]
   ·simp only[h,if_false,I.dom t ht];rfl
  ·split at hq
   ·simp[refs] at hq
   ·exact I.nr t q (refs_purge1 _ _ q hq).1
 refine (Ip.put hdn (Grows.refl (I.wf.shared d [])) H' fun b j r p i h=>I.roots (shareL_own h).1).congr fun t=>?_
 rw[get_setD];by_cases h:t=d <;> simp[h]
theorem landNew{m:Nat}(I:InvF n m w L a e.get){d:Nat}(hd:d<n){ys:List PV}{vs:Array Value}(hlen:vs.size=ys.length)(hm:ys.length<=m)
 (H:∀i (hi:i<ys.length),RepV w L (some (n,[i])) ys[i] (vs.getD i undef)/\refs ys[i]=[]/\ys[i].cok=true)(t:TypeId){v:PV}{u:Value}
 (K:∀L',(∀j,j<vs.size->L' w.heap.size j = .own d [] j)->(∀i (hi:i<ys.length),RepV { w with heap:=w.heap.push (.cells vs t) } L' (some (d,[i])) ys[i] (cv { w with heap:=w.heap.push (.cells vs t) } w.heap.size i)) ->
   RepV { w with heap:=w.heap.push (.cells vs t) } L' (some (d,[])) v u):
 ∃L',InvF n 0 { w with heap:=w.heap.push (.cells vs t) } L' (a.put (some d) u) (e.setD d v).get/\Ext w L { w with heap:=w.heap.push (.cells vs t) } L':=by
 obtain⟨I2,T2,F2,E2⟩:=I.land hd
 have G:=grows_new I2.wf T2 vs t
 refine⟨_,(I2.put hd G (v:=v) (u:=u) ?_ fun b j r p i h=>?_).congr fun t=>?_,E2.trans G.ext⟩
 ·refine K _ (fun j hj=>newL_at _ hj) fun i hi=>?_
  have h1:=F2 i _ _ (by omega) (H i hi).1 (H i hi).2.1
  have h2:=G.rep h1
  have e1:cv { w with heap:=w.heap.push (.cells vs t) } w.heap.size i=vs.getD i undef:=by
   simp[cv,cell_new,show i<vs.size by omega,Array.getD]
  rw[e1]
  exact h2
 ·rcases newL_labels I2.wf vs.size d b j with h'|⟨p',i',h'⟩|h'
  ·rw[h'] at h
   rcases I2.bd b j r p i h with h|⟨_,k,s,_,h⟩
   ·exact h
   ·omega
  ·rw[h'] at h;simp only[Lab.own.injEq] at h;omega
  ·rw[h'] at h;cases h
 ·rw[get_setD];by_cases h:t=d <;> simp[h]
theorem cells_rep{v:PV}{u:Value}(V:RepV w L Option.none v u)(hne:∀c∈cells v,c ≠ .none)(hnt:∀cs,v ≠ .tup cs):u.cells.size=(cells v).length/\∀i (hi:i<(cells v).length),RepV w L Option.none (cells v)[i] (u.cells.getD i undef):=by
 cases V with
 | agg _ cs vs hz hc=>exact⟨hz,fun i hi=>hc i hi⟩
 | none=>exact absurd rfl (hne _ (by simp[cells]))
 | tup=>exact absurd rfl (hnt _)
 | bool _ b=>exact⟨rfl,fun i hi=>by obtain rfl:i=0:=by simpa[cells] using hi
                                    exact .bool _ _⟩
 | int _ k z=>exact⟨rfl,fun i hi=>by obtain rfl:i=0:=by simpa[cells] using hi
                                     exact .int _ _ _⟩
 | str _ s l e=>exact⟨rfl,fun i hi=>by obtain rfl:i=0:=by simpa[cells] using hi
                                       exact .str _ _ _ e⟩
 | nilp=>exact⟨rfl,fun i hi=>by obtain rfl:i=0:=by simpa[cells] using hi
                                exact .nilp _⟩
 | nils _ a=>exact⟨rfl,fun i hi=>by obtain rfl:i=0:=by simpa[cells] using hi
                                    exact .nils _ _⟩
 | nilf=>exact⟨rfl,fun i hi=>by obtain rfl:i=0:=by simpa[cells] using hi
                                exact .nilf _⟩
 | ref _ r p i m b j hp h=>exact⟨rfl,fun i hi=>by obtain rfl:i=0:=by simpa[cells] using hi
                                                  exact .ref _ _ _ _ _ _ _ hp h⟩
 | view _ r p off len sz b cap hl hp h=>exact⟨rfl,fun i hi=>by obtain rfl:i=0:=by simpa[cells] using hi
                                                               exact .view _ _ _ _ _ _ _ _ hl hp h⟩
 | sl _ len cs b o cap hl hs hk hc=>exact⟨rfl,fun i hi=>by obtain rfl:i=0:=by simpa[cells] using hi
                                                           exact .sl _ _ _ _ _ _ hl hs hk hc⟩
 | sl0 _ a cap=>exact⟨rfl,fun i hi=>by obtain rfl:i=0:=by simpa[cells] using hi
                                       exact .sl0 _ _ _⟩
 | sp _ cs b o hs hk hc=>exact⟨rfl,fun i hi=>by obtain rfl:i=0:=by simpa[cells] using hi
                                                exact .sp _ _ _ _ hs hk hc⟩
 | fn _ f caps vs hz hc=>exact⟨rfl,fun i hi=>by obtain rfl:i=0:=by simpa[cells] using hi
                                                exact .fn _ _ _ _ hz hc⟩
theorem purges_none(l:List (Nat×List Nat)):purges l .none = .none:=by
 induction l with
 | nil=>rfl
 | cons q l ih=>simp[purges,ih,purge1]
theorem purges_tup(l:List (Nat×List Nat))(ds:List PV):∃ds',purges l (.tup ds) = .tup ds':=by
 induction l generalizing ds with
 | nil=>exact⟨ds,rfl⟩
 | cons q l ih=>
   obtain⟨ds',hd⟩:=ih ds
   exact⟨purgeL (und q.1 q.2) ds',by simp[purges,hd,purge1]⟩
theorem takeL_ne:∀{cs:List PV} {l:List (Nat×List Nat)} {e e':Env} {ys:List PV},Ab.takeL e l cs=some (ys,e')->∀c∈cs,c ≠ .none/\∀ds,c ≠ .tup ds
 | [],l,e,e',ys,h=>by simp
 | c::cs,l,e,e',ys,h=>by
   simp only[Ab.takeL] at h
   split at h
   ·rename_i x e1 h1
    split at h
    ·rename_i xs e2 h2
     intro y hy
     simp only[List.mem_cons] at hy
     rcases hy with rfl|hy
     ·constructor
      ·rintro rfl;rw[purges_none] at h1;simp[Ab.take1,PV.free] at h1
      ·rintro ds rfl;obtain⟨ds',hd⟩:=purges_tup l ds;rw[hd] at h1;simp[Ab.take1,PV.free] at h1
     ·exact takeL_ne h2 y hy
    ·cases h
   ·cases h
theorem StepOk.boxed(I:InvF n 0 w L a e.get){d:Nat}(hd:d<n)(ho:o.dst=some d){t:TypeId}{x:Operand}{x':XO}(hop:o.op = .box t x)(hx:trO x=some x'){ys:List PV}{e':Env}
 (h:Ab.takeL e [] (cells (look e x'))=some (ys,e')):StepOk P n o a w L (e'.setD d (.box ys)) Q:=by
 have V:=I.look hx Option.none
 have hne:=takeL_ne h
 have hnt:∀cs,lookG e.get x' ≠ .tup cs:=fun cs hh=>by
  have:=hne (.tup cs) (by simp[look,hh,cells])
  exact this.2 cs rfl
 obtain⟨hsz,hrep⟩:=cells_rep V (fun c hc=>(hne c hc).1) hnt
 obtain⟨L1,I1,hlen,H1,_,E1⟩:=takeL_sound (us:=(a.eval x).cells.toList) I (by simpa[look] using hsz) (fun i hi hi'=>by
  have:=hrep i hi
  have hi2:i<(a.eval x).cells.size:=by simpa using hi'
  have e1:(a.eval x).cells.getD i undef=(a.eval x).cells.toList[i]:=by simp[Array.getD,hi2]
  rw[e1] at this
  exact this) h
 rw[Nat.zero_add] at I1
 have hsz':(a.eval x).cells.size=ys.length:=by rw[hlen,hsz];rfl
 obtain⟨L2,I2,E2⟩:=landNew I1 hd (vs:=(a.eval x).cells) (ys:=ys) hsz' (by omega) (fun i hi=>by
  have:=H1 i hi (by simp;omega)
  simpa[Array.getD,show i<(a.eval x).cells.size by omega] using this) t (v:=.box ys) (u:=.pointer (some ⟨w.heap.size,0,Option.none⟩)) fun L' hlab hcell=>
   .box _ _ _ _ _ (fun i hi=>by rw[Nat.zero_add];exact hlab i (by omega)) (fun i hi=>(H1 i hi (by simp;omega)).2.2) fun i hi=>by rw[Nat.zero_add];exact hcell i hi
 unfold StepOk Oper.wp
 have hr:(execOp a.eval o).run P w = .ok (.value (.pointer (some ⟨w.heap.size,0,Option.none⟩))) { w with heap:=w.heap.push (.cells (a.eval x).cells t) }:=by
  simp[execOp,hop,Instr.box,newVar,newRow]
 rw[hr]
 simp only[Oper.upon,ho]
 exact⟨L2,I2,E1.trans E2⟩
theorem StepOk.row0(I:InvF n 0 w L a e.get){d:Nat}(hd:d<n)(ho:o.dst=some d){t et:TypeId}{x:Operand}{x':XO}{z:List PV}{sz:Nat}(hop:o.op = .buildSlice t 1 #[(0,x)])(hx:trO x=some x')(ht:sliceP P t=some et)(hz:zeroP P et=some z)
 (hsz:szP P et=some sz)(hz0:0<sz)(hzl:z.length=sz)(hle:sz<=2 ^ 24){ys:List PV}{e':Env}
 (hc:(cells (look e x')).length=sz)(hvs:(a.eval x).cells.size=(cells (lookG e.get x')).length)(hlen:ys.length=(cells (look e x')).length){L1:LM}(I1:InvF n (0+(cells (look e x')).length) w L1 a e'.get)
 (H1:∀i (hi:i<ys.length) (hi':i<(a.eval x).cells.toList.length),RepV w L1 (some (n,[0+i])) ys[i] (a.eval x).cells.toList[i]/\refs ys[i]=[]/\ys[i].cok=true)(E1:Ext w L w L1):StepOk P n o a w L (e'.setD d (.own sz 1 ys)) Q:=by
 rw[Nat.zero_add] at I1
 have hsz':(a.eval x).cells.size=sz:=by rw[hvs];exact hc
 obtain⟨i,v,hi,hzv,HZ,hf⟩:=zero_pw (w:=w) (L:=L) hz
 have hvsz:v.cells.size=sz:=by rw[HZ.sz,hzl]
 have hfill:∃vs,Instr.fill (fun i=>some (i*sz,sz)) ((Array.range (1*z.length)).map (v.cells[·% v.cells.size]!)) [(0,a.eval x)]=some vs/\vs.size=sz/\∀i,i<sz->vs.getD i undef=(a.eval x).cells.getD i undef:=by
  simp only[Instr.fill,Nat.zero_mul,Nat.zero_add]
  rw[if_neg (by simp[hsz',hzl])]
  refine⟨_,rfl,?_,fun i hi=>?_⟩
  ·rw[←Array.foldl_toList,show (a.eval x).cells.zipIdx.toList=(a.eval x).cells.toList.zipIdx 0 by simp]
   have:=foldl_set_size 0 ((a.eval x).cells.toList.zipIdx 0) ((Array.range (1*z.length)).map (v.cells[·% v.cells.size]!))
   simp only[Nat.zero_add] at this
   rw[this];simp[hzl]
  ·rw[←Array.foldl_toList,show (a.eval x).cells.zipIdx.toList=(a.eval x).cells.toList.zipIdx 0 by simp]
   have:=foldl_set_get 0 (a.eval x).cells.toList 0 ((Array.range (1*z.length)).map (v.cells[·% v.cells.size]!)) i (by simp[hzl,hsz'])
   simp only[Nat.zero_add,Nat.zero_le,true_and,Array.length_toList,hsz',hi,if_true,Nat.sub_zero] at this
   rw[this]
   simp[Array.getD,List.getD,show i<(a.eval x).cells.size by omega]
 obtain⟨vs,hfl,hvs1,hvs2⟩:=hfill
 have hys:ys.length=sz:=by rw[hlen];exact hc
 obtain⟨L2,I2,E2⟩:=landNew I1 hd (vs:=vs) (ys:=ys) (by omega) (by omega) (fun i hi=>by
  have:=H1 i hi (by simp;omega)
  rw[hvs2 i (by omega)]
  simpa[Array.getD,show i<(a.eval x).cells.size by omega] using this) et (v:=.own sz 1 ys) (u:=.slice (some ⟨w.heap.size,0,Option.none⟩) 1 1) fun L' hlab hcell=>
   .own _ _ _ _ _ _ _ (by omega) (Nat.le_refl _) (by omega) (fun i hi=>hlab i (by omega)) (fun i hi=>(H1 i hi (by simp;omega)).2.2) fun i hi=>hcell i hi
 unfold StepOk Oper.wp
 have hr:(execOp a.eval o).run P w = .ok (.value (.slice (some ⟨w.heap.size,0,Option.none⟩) 1 1)) { w with heap:=w.heap.push (.cells vs et) }:=by
  have e3:1*sz=1*z.length:=by rw[hzl]
  have h0:¬(1*sz=0):=by omega
  have hle':¬1*sz>2 ^ 24:=by omega
  simp only[execOp,hop,Instr.buildSlice,Sem.run_bind,run_underlying' (sliceP_some ht),Result.andThen_ok,run_sizeOf' hsz,hle',h0,if_false,run_zeroValue' hi hzv,Sem.run_pure]
  rw[e3,show (Array.map (fun x=>(x.1,a.eval x.2)) #[((0:Nat),x)]).toList=[(0,a.eval x)] by simp,hfl]
  simp[newRow]
 rw[hr]
 simp only[Oper.upon,ho]
 exact⟨L2,I2,E1.trans E2⟩
theorem StepOk.row1(I:InvF n 0 w L a e.get){d:Nat}(hd:d<n)(ho:o.dst=some d){t et:TypeId}{x:Operand}{x':XO}{z:List PV}{sz:Nat}(hop:o.op = .buildSlice t 1 #[(0,x)])(hx:trO x=some x')(ht:sliceP P t=some et)(hz:zeroP P et=some z)
 (hsz:szP P et=some sz)(hz0:0<sz)(hzl:z.length=sz)(hle:sz<=2 ^ 24){ys:List PV}{e':Env}
 (hc:(cells (look e x')).length=sz)(h:Ab.takeL e [] (cells (look e x'))=some (ys,e')):StepOk P n o a w L (e'.setD d (.own sz 1 ys)) Q:=by
 have V:=I.look hx Option.none
 have hne:=takeL_ne h
 have hnt:∀cs,lookG e.get x' ≠ .tup cs:=fun cs hh=>by
  have:=hne (.tup cs) (by simp[look,hh,cells])
  exact this.2 cs rfl
 obtain⟨hvs,hrep⟩:=cells_rep V (fun c hc=>(hne c hc).1) hnt
 obtain⟨L1,I1,hlen,H1,_,E1⟩:=takeL_sound (us:=(a.eval x).cells.toList) I (by simpa[look] using hvs) (fun i hi hi'=>by
  have:=hrep i hi
  have hi2:i<(a.eval x).cells.size:=by simpa using hi'
  have e1:(a.eval x).cells.getD i undef=(a.eval x).cells.toList[i]:=by simp[Array.getD,hi2]
  rw[e1] at this
  exact this) h
 exact StepOk.row0 I hd ho hop hx ht hz hsz hz0 hzl hle hc hvs hlen I1 H1 E1
theorem StepOk.ext(I:InvF n 0 w L a e.get){d:Nat}(hd:d<n)(ho:o.dst=some d){s i:Nat}(hop:o.op = .extract (.tmp s) i){vs:List PV}{v:PV}(hs:e.get s = .tup vs)(hi:vs[i]? = some v)(hv:v ≠ .none)(hc:canUpd e s [i]=true):
 StepOk P n o a w L (((e.upd s [i] .none).purge s [i]).setD d v) Q:=by
 have H:=I.rep s
 rw[hs] at H
 generalize hu:a.eval (.tmp s)=u at H
 cases H with
 | tup _ _ us hz hcs=>
   obtain⟨hlt,rfl⟩:=List.getElem?_eq_some_iff.1 hi
   have hlt':i<us.size:=by omega
   have hrefs:refs vs[i]=[]:=by
    simp only[canUpd,List.isEmpty_cons,Bool.false_or,List.isEmpty_iff,hs,refs] at hc
    cases hq:refs vs[i] with
    | nil=>rfl
    | cons y ys=>have:=mem_refsL i hlt (q:=y) (by rw[hq];simp);rw[hc] at this;cases this
   obtain⟨L1,I1,H1,_,E1,_⟩:=I.fly (r:=s) (p:=[i]) (v:=vs[i]) (u:=us[i]) (by simp[hs,Ab.sub,kids,hlt]) hv hrefs hc (by
    have:=hcs i hlt
    simpa[Hd.snoc,Array.getD,hlt'] using this)
   obtain⟨L2,I2,E2⟩:=I1.land1 hd H1 hrefs
   unfold StepOk Oper.wp
   have hr:(execOp a.eval o).run P w = .ok (.value us[i]) w:=by simp[execOp,hop,hu,Instr.extract,hlt']
   rw[hr]
   simp only[Oper.upon,ho]
   exact⟨L2,I2,E1.trans E2⟩
end
open Go
def hit(p:List Nat)(i m:Nat)(s:List Nat):Bool:=
 p.isPrefixOf s&&(match s.drop p.length with | k::_=>decide (i<=k/\k<i+m) | []=>false)
theorem hit_iff{p:List Nat}{i m:Nat}{s:List Nat}:hit p i m s=true↔∃k s',s=p++k::s'/\i<=k/\k<i+m:=by
 constructor
 ·intro h
  simp only[hit,Bool.and_eq_true] at h
  obtain⟨h1,h2⟩:=h
  obtain⟨t,rfl⟩:=List.isPrefixOf_iff_prefix.1 h1
  simp only[List.drop_left] at h2
  cases t with
  | nil=>simp at h2
  | cons k t=>exact⟨k,t,rfl,by simpa using h2⟩
 ·rintro⟨k,s',rfl,h⟩
  simp[hit,h]
def storeL(n r:Nat)(p:List Nat)(i m:Nat):Lab->Lab
 | .own q s idx=>
   if q=n then (match s with | k::s'=>.own r (p++(i+k)::s') idx | []=>.out)
   else if q=r/\hit p i m s=true then .out
   else .own q s idx
 | l=>l
theorem storeL_fly{n r:Nat}{p:List Nat}{i m k:Nat}{s:List Nat}{idx:Nat}:storeL n r p i m (.own n (k::s) idx) = .own r (p++(i+k)::s) idx:=by simp[storeL]
theorem storeL_keep{n r:Nat}{p:List Nat}{i m q:Nat}{s:List Nat}{idx:Nat}(h1:q≠n)(h2:q=r->hit p i m s=false):storeL n r p i m (.own q s idx) = .own q s idx:=by
 simp only[storeL,h1,if_false]
 rw[if_neg]
 rintro⟨h3,h4⟩
 rw[h2 h3] at h4;cases h4
theorem storeL_own{n r:Nat}{p:List Nat}{i m:Nat}{l:Lab}{q:Nat}{s:List Nat}{idx:Nat}(h:storeL n r p i m l = .own q s idx):
 (∃k s',l = .own n (k::s') idx/\q=r/\s=p++(i+k)::s')\/(l = .own q s idx/\q≠n/\(q=r->hit p i m s=false)):=by
 cases l with
 | out=>cases h
 | sh=>cases h
 | own q' s' idx'=>
   simp only[storeL] at h
   split at h
   ·rename_i hq
    subst hq
    split at h
    ·rename_i k s2
     simp only[Lab.own.injEq] at h
     obtain⟨rfl,rfl,rfl⟩:=h
     exact .inl ⟨k,s2,rfl,rfl,rfl⟩
    ·cases h
   ·rename_i hq
    split at h
    ·cases h
    ·rename_i hh
     simp only[Lab.own.injEq] at h
     obtain⟨rfl,rfl,rfl⟩:=h
     refine .inr ⟨rfl,hq,fun hr=>?_⟩
     cases hb:hit p i m s'
     ·rfl
     ·exact absurd ⟨hr,hb⟩ hh
theorem not_hit_self{p:List Nat}{i m:Nat}:hit p i m p=false:=by
 cases h:hit p i m p
 ·rfl
 ·obtain⟨k,s',e,_⟩:=hit_iff.1 h
  have:=congrArg List.length e
  simp at this
theorem setCells_length:∀(ys cs:List PV) (i:Nat),(setCells cs i ys).length=cs.length
 | [],_,_=>rfl
 | y::ys,cs,i=>by simp[setCells,setCells_length ys]
theorem setCells_get:∀(ys cs:List PV) (i k:Nat),i+ys.length<=cs.length->(setCells cs i ys)[k]? = if i<=k/\k<i+ys.length then ys[k-i]? else cs[k]?
 | [],cs,i,k,_=>by simp[setCells];intro h1 h2;omega
 | y::ys,cs,i,k,h=>by
   simp only[List.length_cons] at h
   rw[setCells,setCells_get ys _ _ _ (by simp;omega)]
   simp only[List.length_cons]
   by_cases h1:i+1<=k/\k<i+1+ys.length
   ·rw[if_pos h1,if_pos (by omega),show k-i=(k-(i+1))+1 by omega];simp
   ·rw[if_neg h1]
    by_cases h2:k=i
    ·subst h2;rw[if_pos (by omega)];simp[show k<cs.length by omega]
    ·rw[if_neg (by omega)];simp[List.getElem?_set,Ne.symm h2]
theorem setCells_new{ys cs:List PV}{i:Nat}(h:i+ys.length<=cs.length){k:Nat}(hk:k<(setCells cs i ys).length)(h1:i<=k/\k<i+ys.length):(setCells cs i ys)[k]=ys[k-i]'(by omega):=by
 have:=setCells_get ys cs i k h
 rw[if_pos h1,List.getElem?_eq_getElem hk,List.getElem?_eq_getElem (by omega)] at this
 exact Option.some.inj this
theorem setCells_old{ys cs:List PV}{i:Nat}(h:i+ys.length<=cs.length){k:Nat}(hk:k<(setCells cs i ys).length)(h1:¬(i<=k/\k<i+ys.length)):(setCells cs i ys)[k]=cs[k]'(by rw[setCells_length] at hk;exact hk):=by
 have hk':k<cs.length:=by rw[setCells_length] at hk;exact hk
 have:=setCells_get ys cs i k h
 rw[if_neg h1,List.getElem?_eq_getElem hk,List.getElem?_eq_getElem hk'] at this
 exact Option.some.inj this
section
variable {P:Program} {n m:Nat} {w w':World} {L:LM} {a:Act} {e:Env} {r:Nat} {p:List Nat} {i b j:Nat} {us:List Value}
theorem WF.stored(I:InvF n m w L a e.get)(W:Wrote w w' b j us)(hr:r<n):WF w' (fun b j=>storeL n r p i m (L b j)) where
 inj b1 j1 b2 j2 q s idx e1 e2:=by
  rcases storeL_own e1 with⟨k1,s1,h1,h2,h3⟩|⟨h1,h2,h3⟩ <;> rcases storeL_own e2 with⟨k2,s2,h4,h5,h6⟩|⟨h4,h5,h6⟩
  ·rw[h3] at h6
   simp only[List.append_cancel_left_eq,List.cons.injEq] at h6
   obtain⟨h7,rfl⟩:=h6
   obtain rfl:k1=k2:=by omega
   exact I.wf.inj _ _ _ _ _ _ _ h1 h4
  ·exfalso
   rcases I.bd _ _ _ _ _ h1 with h|⟨_,k,s',h,hk⟩
   ·omega
   ·simp only[List.cons.injEq] at h
    obtain⟨rfl,rfl⟩:=h
    have:=h6 h2
    rw[h3] at this
    have h9:hit p i m (p++(i+k1)::s1)=true:=hit_iff.2 ⟨i+k1,s1,rfl,by omega,by omega⟩
    rw[h9] at this;cases this
  ·exfalso
   rcases I.bd _ _ _ _ _ h4 with h|⟨_,k,s',h,hk⟩
   ·omega
   ·simp only[List.cons.injEq] at h
    obtain⟨rfl,rfl⟩:=h
    have:=h3 h5
    rw[h6] at this
    have h9:hit p i m (p++(i+k2)::s2)=true:=hit_iff.2 ⟨i+k2,s2,rfl,by omega,by omega⟩
    rw[h9] at this;cases this
  ·exact I.wf.inj _ _ _ _ _ _ _ h1 h4
 ex b1 j1 h:=by
  obtain⟨v,hv⟩:=I.wf.ex b1 j1 fun e=>h (by simp[e,storeL])
  exact W.ex hv
 thaw b1 j1 q s idx h:=by
  rw[W.frozen]
  rcases storeL_own h with⟨k1,s1,h1,_⟩|⟨h1,_⟩
  ·exact I.wf.thaw _ _ _ _ _ h1
  ·exact I.wf.thaw _ _ _ _ _ h1
theorem RepV.stored(W:Wrote w w' b j us)(hb:∀k,k<us.length->L b (j+k) = .own r p (i+k))(hr:r≠n){h h':Hd}{v:PV}{u:Value}(H:RepV w L h v u)(g:Goes (storeL n r p i m) h h')
 (hs:∀r' p' s,h'=some (r',p')->¬(r'=r/\p'++s=p))(hrf:∀q∈refs v,q.1≠n/\(q.1=r->hit p i m q.2=false)):RepV w' (fun b j=>storeL n r p i m (L b j)) h' v u:=by
 refine (H.move (σ:=storeL n r p i m) rfl g fun q hq k=>storeL_keep (hrf q hq).1 (hrf q hq).2).frame (fun _ _ _=>rfl) (fun _ _ _ _ _ _=>rfl) fun b1 j1 hrel=>W.cell ?_
 by_cases hb1:b1=b
 ·subst hb1
  refine .inr ?_
  by_cases hj:j<=j1/\j1<j+us.length
  ·exfalso
   have:=hb (j1-j) (by omega)
   rw[show j+(j1-j)=j1 by omega] at this
   rw[this,storeL_keep hr fun _=>not_hit_self] at hrel
   rcases hrel with h1|⟨r',p',s,k,h1,h2⟩
   ·cases h1
   ·simp only[Lab.own.injEq] at h2
    exact hs _ _ s h1 ⟨h2.1.symm,h2.2.1.symm⟩
  ·omega
 ·exact .inl hb1
theorem InvF.store(I:InvF n m w L a e.get){cs ys:List PV}(hT:objCells (Ab.sub (e.get r) p)=some cs)(hys:ys.length=m)(hus:us.length=m)(hi:i+m<=cs.length)(hm:0<m)(hc:canUpd e r p=true)
 (F:∀k (hk:k<ys.length) (hk':k<us.length),RepV w L (some (n,[k])) ys[k] us[k]/\refs ys[k]=[]/\ys[k].cok=true)(hl:L b j = .own r p i)(W:Wrote w w' b j us):
 ∃L',InvF n 0 w' L' a ((putObj e r p (setCells cs i ys)).purgeBy (deep r p)).get/\Ext w L w' L':=by
 have hne:=objCells_ne hT
 have hrn:r<n:=I.lt (sub_ne hne)
 obtain⟨T,hTr⟩:=I.obj hne
 have lab:∀k,k<us.length->L b (j+k) = .own r p (i+k):=fun k hk=>(obj_cells I.wf hTr hT hl (by omega) k (by omega)).1
 have wf':WF w' (fun b j=>storeL n r p i m (L b j)):=WF.stored I W hrn
 have keepT:∀idx,storeL n r p i m (.own r p idx) = .own r p idx:=fun idx=>storeL_keep (by omega) fun _=>not_hit_self
 have cells_:∀(o:Nat),(∀k,k<cs.length->L b (o+k) = .own r p k)->j=o+i->(∀k (hk:k<cs.length),cs[k].cok=true)->(∀k (hk:k<cs.length),RepV w L (some (r,p++[k])) cs[k] (cv w b (o+k))) ->
  ∀k (hk:k<(setCells cs i ys).length),(setCells cs i ys)[k].cok=true/\RepV w' (fun b j=>storeL n r p i m (L b j)) (some (r,p++[k])) (setCells cs i ys)[k] (cv w' b (o+k)):=by
  intro o ho hj hcok hrep k hk
  have hk':k<cs.length:=by rw[setCells_length] at hk;exact hk
  have safe:∀r' p' s,(some (r,p++[k]):Hd)=some (r',p')->¬(r'=r/\p'++s=p):=by
   rintro r' p' s h ⟨_,h2⟩
   simp only[Option.some.injEq,Prod.mk.injEq] at h
   obtain⟨rfl,rfl⟩:=h
   have:=congrArg List.length h2
   simp at this
  by_cases h1:i<=k/\k<i+ys.length
  ·rw[setCells_new (by omega) hk h1]
   obtain⟨f1,f2,f3⟩:=F (k-i) (by omega) (by omega)
   refine⟨f3,?_⟩
   have e1:cv w' b (o+k)=us[k-i]'(by omega):=by
    have:=W.cell_new (k:=k-i) (by omega)
    rw[show j+(k-i)=o+k by omega] at this
    exact this
   rw[e1]
   refine RepV.stored W lab (by omega) f1 (fun s idx=>?_) safe (by simp[f2])
   rw[List.singleton_append,storeL_fly,show i+(k-i)=k by omega]
   simp
  ·rw[setCells_old (by omega) hk h1]
   refine⟨hcok k hk',?_⟩
   have e1:cv w' b (o+k)=cv w b (o+k):=cv_eq (W.cell (by omega))
   rw[e1]
   refine RepV.stored W lab (by omega) (hrep k hk') (fun s idx=>?_) safe (by simp[refs_cok (hcok k hk')])
   refine storeL_keep (by omega) fun _=>?_
   cases hh:hit p i m (p++[k]++s)
   ·rfl
   ·obtain⟨k2,s2,e2,e3⟩:=hit_iff.1 hh
    simp only[List.append_assoc,List.append_cancel_left_eq,List.cons_append,List.nil_append,List.cons.injEq] at e2
    omega
 obtain⟨T',hput,hT'c,hT'i,hnew⟩:∃T',putObj e r p (setCells cs i ys)=e.upd r p T'/\T'.cok=true/\refs T'=[]/\∀u,RepV w L (some (r,p)) (Ab.sub (e.get r) p) u->RepV w' (fun b j=>storeL n r p i m (L b j)) (some (r,p)) T' u:=by
  cases hs:Ab.sub (e.get r) p with
  | box cs0=>
    rw[hs] at hT
    simp only[objCells,Option.some.injEq] at hT
    subst hT
    refine⟨.box (setCells cs0 i ys),by simp[putObj,Env.sub,hs],rfl,rfl,fun u H=>?_⟩
    cases H with
    | box _ _ _ b' o ho hk hcc=>
      obtain⟨rfl,h2⟩:=I.wf.inj _ _ _ _ _ _ _ hl (ho i (by omega))
      have:=cells_ o ho h2.symm hk hcc
      exact .box _ _ _ _ _ (fun k hk=>by rw[setCells_length] at hk;simp only[ho k hk,keepT]) (fun k hk=>(this k hk).1) fun k hk=>(this k hk).2
  | own sz len cs0=>
    rw[hs] at hT
    simp only[objCells,Option.some.injEq] at hT
    subst hT
    refine⟨.own sz len (setCells cs0 i ys),by simp[putObj,Env.sub,hs],rfl,rfl,fun u H=>?_⟩
    cases H with
    | own _ _ _ _ _ b' cap hn hl' hp ho hk hcc=>
      have hcap:cs0.length<=cap*sz:=by rw[hn];exact Nat.mul_le_mul_right _ hl'
      obtain⟨rfl,h2⟩:=I.wf.inj _ _ _ _ _ _ _ hl (ho i (by omega))
      have:=cells_ 0 (fun k hk=>by rw[Nat.zero_add];exact ho k (by omega)) (by omega) hk (fun k hk=>by rw[Nat.zero_add];exact hcc k hk)
      exact .own _ _ _ _ _ _ _ (by rw[setCells_length];exact hn) hl' hp (fun k hk=>by simp only[ho k hk,keepT]) (fun k hk=>(this k hk).1) fun k hk=>by have:=(this k hk).2;rw[Nat.zero_add] at this;exact this
  | _=>rw[hs] at hT;simp[objCells] at hT
 refine⟨fun b j=>storeL n r p i m (L b j),⟨⟨wf',fun t=>?_,I.df,I.sz⟩,fun b1 j1 q s idx h=>?_,fun t ht=>?_,fun t q hq=>?_⟩,W.ext (fun j1 h1 h2=>?_) fun b1 j1 h=>?_⟩
 ·rw[hput,get_purgeBy,get_upd]
  by_cases ht:t=r
  ·subst ht
   simp only[if_true]
   refine RepV.purge ?_ _
   refine RepV.repl p (I.rep t) (hasP_of_sub _ _ hne) (fun _=>hT'c) (by simpa using hnew) (fun b1 j1 hr hn=>?_) (fun b1 j1 hr hn=>W.cell ?_) fun hne=>?_
   ·rcases hr with h|⟨r',p',s,k,h1,h2⟩
    ·simp[h,storeL]
    ·simp only[Option.some.injEq,Prod.mk.injEq] at h1
     obtain⟨rfl,rfl⟩:=h1
     rw[h2] at hn ⊢
     refine storeL_keep (by omega) fun _=>?_
     cases hh:hit p i m ([]++s)
     ·rfl
     ·obtain⟨k2,s2,e2,e3⟩:=hit_iff.1 hh
      exfalso;apply hn
      rw[e2];exact⟨k2::s2,k,by simp⟩
   ·by_cases hb1:b1=b
    ·subst hb1
     refine .inr ?_
     by_cases hj:j<=j1/\j1<j+us.length
     ·exfalso
      have:=lab (j1-j) (by omega)
      rw[show j+(j1-j)=j1 by omega] at this
      rw[this] at hn
      exact hn ⟨[],i+(j1-j),by simp⟩
     ·omega
    ·exact .inl hb1
   ·simp only[canUpd,Bool.or_eq_true,List.isEmpty_iff] at hc
    rcases hc with h|h
    ·exact absurd h hne
    ·exact h
  ·simp only[ht,if_false]
   rcases Nat.lt_or_ge t n with htn|htn
   ·refine RepV.stored W lab (by omega) ((I.rep t).purge (deep r p)) (fun s idx=>storeL_keep (by omega) fun h=>absurd h ht) (fun r' p' s h=>?_) fun q hq=>?_
    ·simp only[Option.some.injEq,Prod.mk.injEq] at h
     obtain⟨rfl,rfl⟩:=h
     rintro⟨h,_⟩;exact ht h
    ·obtain⟨h1,h2⟩:=refs_purge1 _ _ _ hq
     refine⟨by have:=I.nr t q h1;omega,fun h=>?_⟩
     cases hh:hit p i m q.2
     ·rfl
     ·obtain⟨k2,s2,e2,e3⟩:=hit_iff.1 hh
      have h3:deep r p q.1 q.2=true:=by simp[deep,h,e2]
      rw[h3] at h2;cases h2
   ·rw[I.dom t htn];exact .none _ _
 ·rcases storeL_own h with⟨k1,s1,h1,h2,h3⟩|⟨h1,h2,h3⟩
  ·exact .inl (by omega)
  ·rcases I.bd _ _ _ _ _ h1 with h|⟨h,_⟩
   ·exact .inl h
   ·exact absurd h h2
 ·rw[hput,get_purgeBy,get_upd,if_neg (by omega),I.dom t ht];rfl
 ·rw[hput,get_purgeBy,get_upd] at hq
  obtain⟨hq,_⟩:=refs_purge1 _ _ _ hq
  split at hq
  ·rcases refs_upd p _ _ _ hq with h|h
   ·exact I.nr r q h
   ·rw[hT'i] at h;cases h
  ·exact I.nr t q hq
 ·have:=lab (j1-j) (by omega)
  rw[show j+(j1-j)=j1 by omega] at this
  exact⟨_,_,_,this⟩
 ·rcases h with h|h <;> simp[h,storeL]
end
open Go
theorem take1_nn{e e':Env}{v x:PV}(h:Ab.take1 e v=some (x,e')):x ≠ .none:=by
 unfold Ab.take1 at h
 split at h
 ·split at h
  ·split at h
   ·cases h
   ·split at h
    ·simp only[Option.some.injEq,Prod.mk.injEq] at h;obtain⟨rfl,_⟩:=h;simp
    ·split at h
     ·split at h
      ·simp only[Option.some.injEq,Prod.mk.injEq] at h;obtain⟨rfl,_⟩:=h;simp
      ·cases h
     ·cases h
  ·cases h
 ·split at h
  ·split at h
   ·simp only[Option.some.injEq,Prod.mk.injEq] at h;obtain⟨rfl,_⟩:=h;simp
   ·cases h
  ·cases h
 ·split at h
  ·rename_i hf
   simp only[Option.some.injEq,Prod.mk.injEq] at h
   obtain⟨rfl,_⟩:=h
   rintro rfl;simp[PV.free] at hf
  ·cases h
theorem takeL_nn:∀{cs:List PV} {l:List (Nat×List Nat)} {e e':Env} {ys:List PV},Ab.takeL e l cs=some (ys,e')->∀y∈ys,y ≠ .none
 | [],l,e,e',ys,h=>by simp[Ab.takeL] at h;obtain⟨rfl,_⟩:=h;simp
 | c::cs,l,e,e',ys,h=>by
   simp only[Ab.takeL] at h
   split at h
   ·rename_i x e1 h1
    split at h
    ·rename_i xs e2 h2
     simp only[Option.some.injEq,Prod.mk.injEq] at h
     obtain⟨rfl,_⟩:=h
     intro y hy
     simp only[List.mem_cons] at hy
     rcases hy with rfl|hy
     ·exact take1_nn h1
     ·exact takeL_nn h2 y hy
    ·cases h
   ·cases h
theorem one_of_cok{w:World}{L:LM}{h:Hd}{v:PV}{u:Value}(H:RepV w L h v u)(hk:v.cok=true)(hn:v ≠ .none):u.oneCell'=true:=by
 cases H<;>simp_all [PV.cok,Value.oneCell']
section
variable {P:Program} {n:Nat} {w:World} {L:LM} {a:Act} {e:Env} {o:Oper} {Q:Exit->Act->World->Prop}
theorem StepOk.store(I:InvF n 0 w L a e.get)(ho:o.dst=Option.none){t:TypeId}{xa xv:Operand}{ya yv:XO}(hop:o.op = .store t xa xv)(ha:trO xa=some ya)(hv:trO xv=some yv){sz:Nat}(hz:szP P t=some sz)
 {r:Nat}{p:List Nat}{i mm:Nat}(ea:look e ya = .ref r p i mm){ys:List PV}{e':Env}(h:Ab.takeL e [] (cells (look e yv))=some (ys,e')){cs:List PV}(hT:objCells (e'.sub r p)=some cs)
 (hlen:ys.length=sz)(hi:i+sz<=cs.length)(hz0:0<sz)(hc:canUpd e' r p=true):StepOk P n o a w L ((putObj e' r p (setCells cs i ys)).purgeBy (deep r p)) Q:=by
 have V:=I.look hv Option.none
 have A:=I.look ha Option.none
 rw[show lookG e.get ya = .ref r p i mm from ea] at A
 generalize hua:a.eval xa=ua at A
 cases A with
 | ref _ _ _ _ _ b j hp hlab=>
   have hne:=takeL_ne h
   have hnt:∀cs,lookG e.get yv ≠ .tup cs:=fun cs hh=>by
    have:=hne (.tup cs) (by simp[look,hh,cells])
    exact this.2 cs rfl
   obtain⟨hsz,hrep⟩:=cells_rep V (fun c hc=>(hne c hc).1) hnt
   obtain⟨L1,I1,hlen1,H1,⟨_,B1⟩,E1⟩:=takeL_sound (us:=(a.eval xv).cells.toList) I (by simpa[look] using hsz) (fun i hi hi'=>by
    have:=hrep i hi
    have hi2:i<(a.eval xv).cells.size:=by simpa using hi'
    have e1:(a.eval xv).cells.getD i undef=(a.eval xv).cells.toList[i]:=by simp[Array.getD,hi2]
    rw[e1] at this
    exact this) h
   rw[Nat.zero_add] at I1
   rw[←hlen1] at I1
   have hus:(a.eval xv).cells.toList.length=ys.length:=by
    rw[hlen1];simpa[look] using hsz
   have hne':=objCells_ne hT
   have hrn:r<n:=I1.lt (sub_ne hne')
   obtain⟨T,hTr⟩:=I1.obj hne'
   have hl:L1 b j = .own r p i:=by
    have key:∃b' j',L1 b' j' = .own r p i:=by
     cases hs:Ab.sub (e'.get r) p with
     | box cs0=>
       rw[hs] at hTr
       have hT2:objCells (Ab.sub (e'.get r) p)=some cs:=hT
       rw[hs] at hT2
       simp only[objCells,Option.some.injEq] at hT2
       subst hT2
       cases hTr with
       | box _ _ _ b' o' ho _ _=>exact⟨b',o'+i,ho i (by omega)⟩
     | own s0 l0 cs0=>
       rw[hs] at hTr
       have hT2:objCells (Ab.sub (e'.get r) p)=some cs:=hT
       rw[hs] at hT2
       simp only[objCells,Option.some.injEq] at hT2
       subst hT2
       cases hTr with
       | own _ _ _ _ _ b' cap hn hl' hp' ho _ _=>
         have hcap:cs0.length<=cap*s0:=by rw[hn];exact Nat.mul_le_mul_right _ hl'
         exact⟨b',i,ho i (by omega)⟩
     | _=>
       have hT2:objCells (Ab.sub (e'.get r) p)=some cs:=hT
       rw[hs] at hT2;simp[objCells] at hT2
    obtain⟨b',j',h1⟩:=key
    have h2:=B1 _ _ _ _ _ hrn h1
    have h3:=hlab 0 hp
    simp only[Nat.add_zero] at h3
    obtain⟨rfl,rfl⟩:=I.wf.inj _ _ _ _ _ _ _ h3 h2
    exact h1
   have lab:∀k,k<ys.length->L1 b (j+k) = .own r p (i+k):=fun k hk=>(obj_cells I1.wf hTr hT hl (by omega) k (by omega)).1
   have hex:∃c t fr,w.heap[b]? = some (.cells c t fr)/\j+0+(a.eval xv).cells.toList.length<=c.size:=by
    obtain⟨v,hv⟩:=I1.wf.ex b (j+(ys.length-1)) (by rw[lab _ (by omega)];simp)
    simp only[World.cell?] at hv
    split at hv
    ·rename_i c t fr hc
     refine⟨c,t,fr,hc,?_⟩
     have:j+(ys.length-1)<c.size:=by
      rcases Nat.lt_or_ge (j+(ys.length-1)) c.size with h|h
      ·exact h
      ·rw[Array.getElem?_eq_none h] at hv;cases hv
     omega
    ·cases hv
   obtain⟨w',hrun,W⟩:=run_storeCells (P:=P) (a.eval xv).cells.toList 0 w hex (fun k hk=>by
    have:=lab k (by omega)
    exact I1.wf.thaw _ _ _ _ _ (by simpa using this)) fun v hv=>by
    obtain⟨k,hk,rfl⟩:=List.getElem_of_mem hv
    obtain⟨f1,_,f3⟩:=H1 k (by omega) hk
    exact one_of_cok f1 f3 (takeL_nn h _ (List.getElem_mem _))
   rw[Nat.add_zero] at W
   obtain⟨L2,I2,E2⟩:=I1.store hT rfl hus (by omega) (by omega) hc (fun k hk hk'=>by
    have:=H1 k hk hk'
    rw[Nat.zero_add] at this
    exact this) hl W
   unfold StepOk Oper.wp
   have hr:(execOp a.eval o).run P w = .ok .skip w':=by
    have hsz':(a.eval xv).cells.size=sz:=by rw[←hlen,←hus];simp
    simp only[execOp,hop,Instr.storeAt,Instr.sureAddr,hua,Sem.run_bind,Sem.run_pure,Result.andThen_ok,storeVar,run_sizeOf' hz,hsz',ne_eq,not_true,if_false,hrun]
   rw[hr]
   simp only[Oper.upon,ho]
   exact⟨L2,by simpa[Act.put] using I2,E1.trans E2⟩
end
open Go
def explodeL(n m:Nat):Lab->Lab
 | .own q s i=>if q=n then (match s with | _::k::s'=>if k<m then .own n (k::s') i else .out | _=>.out) else .own q s i
 | l=>l
theorem explodeL_own{n m:Nat}{l:Lab}{q:Nat}{s:List Nat}{i:Nat}(h:explodeL n m l = .own q s i):
 (∃x k s',l = .own n (x::k::s') i/\q=n/\s=k::s'/\k<m)\/(l = .own q s i/\q≠n):=by
 cases l with
 | out=>cases h
 | sh=>cases h
 | own q' s' i'=>
   simp only[explodeL] at h
   split at h
   ·rename_i hq;subst hq
    split at h
    ·rename_i x k s2
     split at h
     ·rename_i hk
      simp only[Lab.own.injEq] at h
      obtain⟨rfl,rfl,rfl⟩:=h
      exact .inl ⟨x,k,s2,rfl,rfl,rfl,hk⟩
     ·cases h
    ·cases h
   ·rename_i hq
    simp only[Lab.own.injEq] at h
    obtain⟨rfl,rfl,rfl⟩:=h
    exact .inr ⟨rfl,hq⟩
theorem explodeL_keep{n m q:Nat}(h:q≠n)(s:List Nat)(i:Nat):explodeL n m (.own q s i) = .own q s i:=by simp[explodeL,h]
section
variable {P:Program} {n m:Nat} {w:World} {L:LM} {a:Act} {e:Env}
theorem InvF.explode{g:Nat->PV}(I:InvF n 1 w L a g){sz len:Nat}{cs:List PV}{u:Value}(H:RepV w L (some (n,[0])) (.own sz len cs) u):
 InvF n cs.length w (fun b j=>explodeL n cs.length (L b j)) a g/\Ext w L w (fun b j=>explodeL n cs.length (L b j))/\(∀v u,v.free=true->RepV w L Option.none v u->RepV w (fun b j=>explodeL n cs.length (L b j)) Option.none v u) /\
 ∃b cap,u = .slice (some ⟨b,0,Option.none⟩) len cap/\cs.length=len*sz/\len<=cap/\0<cap*sz/\(∀j,j<cap*sz->L b j = .own n [0] j) /\
  ∀i (hi:i<cs.length),RepV w (fun b j=>explodeL n cs.length (L b j)) (some (n,[i])) cs[i] (cv w b i)/\refs cs[i]=[]/\cs[i].cok=true:=by
 refine⟨⟨⟨⟨fun b j b' j' q s i e1 e2=>?_,fun b j h=>I.wf.ex b j fun e=>h (by simp[e,explodeL]),fun b j q s i h=>?_⟩,fun t=>?_,I.df,I.sz⟩,fun b j q s i h=>?_,I.dom,I.nr⟩,Ext.relabel w L rfl rfl,fun v u hv H=>H.move (h':=Option.none) (σ:=explodeL n cs.length) rfl trivial (by simp[free_refs hv]),?_⟩
 ·rcases explodeL_own e1 with⟨x1,k1,s1,h1,h2,h3,h4⟩|⟨h1,h2⟩ <;> rcases explodeL_own e2 with⟨x2,k2,s2,h5,h6,h7,h8⟩|⟨h5,h6⟩
  ·have hx:∀{b j x s i},L b j = .own n (x::s) i->x=0:=by
    intro b j x s i h
    rcases I.bd _ _ _ _ _ h with h|⟨_,k,s',h,hk⟩
    ·omega
    ·simp only[List.cons.injEq] at h;omega
   obtain rfl:=hx h1
   obtain rfl:=hx h5
   rw[h3] at h7
   simp only[List.cons.injEq] at h7
   obtain⟨rfl,rfl⟩:=h7
   exact I.wf.inj _ _ _ _ _ _ _ h1 h5
  ·exact absurd h2 h6
  ·exact absurd h6 h2
  ·exact I.wf.inj _ _ _ _ _ _ _ h1 h5
 ·rcases explodeL_own h with⟨_,_,_,h1,_⟩|⟨h1,_⟩
  ·exact I.wf.thaw _ _ _ _ _ h1
  ·exact I.wf.thaw _ _ _ _ _ h1
 ·rcases Nat.lt_or_ge t n with ht|ht
  ·exact (I.rep t).move (σ:=explodeL n cs.length) rfl (fun s i=>explodeL_keep (by omega) _ _) fun q hq i=>explodeL_keep (by have:=I.nr t q hq;omega) _ _
  ·rw[I.dom t ht];exact .none _ _
 ·rcases explodeL_own h with⟨_,k,s',_,h2,h3,h4⟩|⟨h1,h2⟩
  ·exact .inr ⟨h2,k,s',h3,h4⟩
  ·rcases I.bd _ _ _ _ _ h1 with h|⟨h,_⟩
   ·exact .inl h
   ·exact absurd h h2
 ·cases H with
  | own _ _ _ _ _ b cap hn hl hp ho hk hc=>
    refine⟨b,cap,rfl,hn,hl,hp,ho,fun i hi=>⟨?_,refs_cok (hk i hi),hk i hi⟩⟩
    refine (hc i hi).move (σ:=explodeL n cs.length) rfl (fun s k=>?_) (by simp[refs_cok (hk i hi)])
    simp[explodeL,hi]
theorem InvF.more{g:Nat->PV}(I:InvF n m w L a g){m':Nat}(h:m<=m'):InvF n m' w L a g:=
 ⟨I.toInv,fun b j r p i hl=>by
   rcases I.bd b j r p i hl with h'|⟨h',k,s,e,hk⟩
   ·exact .inl h'
   ·exact .inr ⟨h',k,s,e,by omega⟩,I.dom,I.nr⟩
theorem InvF.fly'(I:InvF n m w L a e.get){r:Nat}{p:List Nat}{v:PV}{u:Value}(hs:Ab.sub (e.get r) p ≠ .none)(hrefs:refs v=[])(hc:canUpd e r p=true)(H:RepV w L (some (r,p)) v u):
 ∃L',InvF n (m+1) w L' a ((e.upd r p .none).purge r p).get/\RepV w L' (some (n,[m])) v u/\Ext w L w L'/\Later w L L' [(r,p)]:=by
 have hr:r<n:=I.lt (sub_ne (p:=p) hs)
 refine⟨fun b j=>moveL r p n [m] (L b j),?_,?_,moved_ext,fun y uy Hy=>later_of Hy rfl fun l hl=>moveL_not hl⟩
 ·refine I.reshape (σ:=moveL r p n [m]) rfl (fun l hl=>moveL_not hl) hr (hasP_of_sub _ _ hs) (fun _=>rfl) (by simp[refs]) hc (fun _ _=>.none _ _) (I.wf.moved fun b j s i _=>by simpa using I.noFly (Nat.le_refl m)) fun b j q s i h=>?_
  rcases moveL_cases (r:=r) (p:=p) (r':=n) (p':=[m]) (l:=L b j) with⟨s1,i1,h1,h2⟩|⟨h1,h2⟩
  ·rw[h2] at h
   simp only[Lab.own.injEq] at h
   obtain⟨rfl,rfl,rfl⟩:=h
   exact .inr ⟨rfl,m,s1,rfl,by omega⟩
  ·rw[h2] at h
   rcases I.bd _ _ _ _ _ h with h|⟨h,k,s',h',h''⟩
   ·exact .inl h
   ·exact .inr ⟨h,k,s',h',by omega⟩
 ·exact H.move (σ:=moveL r p n [m]) rfl (fun s i=>moveL_under) (by simp[hrefs])
theorem InvF.wroteFly{g:Nat->PV}{w':World}(I:InvF n 1 w L a g){b lo:Nat}{vs:List Value}(W:Wrote w w' b lo vs)(hl:∀k,k<vs.length->L b (lo+k) = .own n [0] (lo+k)):
 InvF n 1 w' L a g/\Ext w L w' L/\∀h v u,RepV w L h v u->(∀r p s,h=some (r,p)->p++s≠[0]\/r≠n)->RepV w' L h v u:=by
 have fr:∀h v u,RepV w L h v u->(∀r p s,h=some (r,p)->p++s≠[0]\/r≠n)->RepV w' L h v u:=by
  intro h v u H hs
  refine H.frame (fun _ _ _=>rfl) (fun _ _ _ _ _ _=>rfl) fun b1 j1 hrel=>W.cell ?_
  by_cases hb1:b1=b
  ·subst hb1
   refine .inr ?_
   by_cases hj:lo<=j1/\j1<lo+vs.length
   ·exfalso
    have:=hl (j1-lo) (by omega)
    rw[show lo+(j1-lo)=j1 by omega] at this
    rw[this] at hrel
    rcases hrel with h1|⟨r',p',s,k,h1,h2⟩
    ·cases h1
    ·simp only[Lab.own.injEq] at h2
     rcases hs _ _ s h1 with h3|h3
     ·exact h3 h2.2.1.symm
     ·exact h3 h2.1.symm
   ·omega
  ·exact .inl hb1
 refine⟨⟨⟨⟨I.wf.inj,fun b1 j1 h=>?_,fun b1 j1 q s i h=>by rw[W.frozen];exact I.wf.thaw _ _ _ _ _ h⟩,fun t=>?_,I.df,I.sz⟩,I.bd,I.dom,I.nr⟩,W.ext (fun j1 h1 h2=>?_) fun _ _ _=>rfl,fr⟩
 ·obtain⟨v,hv⟩:=I.wf.ex b1 j1 h
  exact W.ex hv
 ·rcases Nat.lt_or_ge t n with ht|ht
  ·refine fr _ _ _ (I.rep t) fun r p s h=>.inr ?_
   simp only[Option.some.injEq,Prod.mk.injEq] at h
   omega
  ·rw[I.dom t ht];exact .none _ _
 ·have:=hl (j1-lo) (by omega)
  rw[show lo+(j1-lo)=j1 by omega] at this
  exact⟨_,_,_,this⟩
theorem slCells_run{g:Nat->PV}(I:Inv n w L a g){S:Subs}(hS:SubsOk S g){x:PV}{u:Value}(V:RepV w L Option.none x u){k sz:Nat}{cs:List PV}(h:slCells S x=some (k,cs))(hlen:cs.length=k*sz):
 ∃(xb:Option Addr) (xc:Nat) (vs:List Value),u = .slice xb k xc/\vs.length=cs.length/\(∀w':World,w'.heap=w.heap->(Builtin.firstCells sz k u).run P w' = .ok vs.toArray w') /\
  ∀i (hi:i<cs.length),(cs[i].free=true->RepV w L Option.none cs[i] (vs.getD i undef))/\cs[i].cok=true:=by
 have cell':∀{w':World},w'.heap=w.heap->∀a,w'.cell? a=w.cell? a:=fun hw a=>by simp[World.cell?,hw]
 have nilCase:∀(ad:Option Addr) (c:Nat),k=0->cs=[]->∃(xb:Option Addr) (xc:Nat) (vs:List Value),Value.slice ad 0 c = .slice xb k xc/\vs.length=cs.length/\(∀w':World,w'.heap=w.heap->(Builtin.firstCells sz k (Value.slice ad 0 c)).run P w' = .ok vs.toArray w') /\
  ∀i (hi:i<cs.length),(cs[i].free=true->RepV w L Option.none cs[i] (vs.getD i undef))/\cs[i].cok=true:=by
  rintro ad c rfl rfl
  refine⟨ad,c,[],rfl,rfl,fun w' hw=>?_,fun i hi=>by simp at hi⟩
  cases ad with
  | none=>simp[Builtin.firstCells]
  | some b=>exact run_firstCells_some w' sz 0 b 0 c [] (by simp) (by simp)
 cases V with
 | nils _ ad=>
   simp only[slCells,Option.some.injEq,Prod.mk.injEq] at h
   exact nilCase ad 0 h.1.symm h.2.symm
 | sl0 _ ad c=>
   simp only[slCells,Option.some.injEq,Prod.mk.injEq] at h
   exact nilCase ad c h.1.symm h.2.symm
 | sl _ len ds b o cap hl hs hk hc=>
   simp only[slCells,Option.some.injEq,Prod.mk.injEq] at h
   obtain⟨rfl,rfl⟩:=h
   refine⟨_,_,(List.range ds.length).map fun i=>cv w b (o+i),rfl,by simp,fun w' hw=>?_,fun i hi=>⟨fun _=>?_,hk i hi⟩⟩
   ·refine run_firstCells_some w' sz len _ len cap _ (by simpa using hlen) fun j v hj=>?_
    rw[addr_add,cell' hw]
    obtain⟨hlt,rfl⟩:=List.getElem?_eq_some_iff.1 hj
    simp only[List.length_map,List.length_range] at hlt
    simpa using sp_cell I.wf (hs j hlt)
   ·have:=hc i hi
    simpa[List.getD,hi] using this
 | view _ r p off len z b cap hl hp hlab=>
   simp only[slCells] at h
   split at h
   ·rename_i sz' n0 ds hsub
    split at h
    ·rename_i hle
     simp only[Option.some.injEq,Prod.mk.injEq] at h
     obtain⟨rfl,rfl⟩:=h
     have hsub':Ab.sub (g r) p = .own sz' n0 ds:=by
      rcases hS r p with h|h
      ·rw[h] at hsub;cases hsub
      ·rw[←h];exact hsub
     obtain⟨T,hT⟩:=I.obj (r:=r) (p:=p) (by rw[hsub'];simp)
     have cell:∀i,i<len*sz'->RepV w L (some (r,p++[off+i])) (ds.getD (off+i) .none) (cv w b (off+i))/\w.cell? ⟨b,off+i,Option.none⟩=some (cv w b (off+i))/\(ds.getD (off+i) .none).cok=true:=fun i hi=>by
      have h0:=hlab 0 hp
      have h1:off+i<ds.length:=by omega
      have:=obj_cells I.wf hT (cs:=ds) (by rw[hsub'];rfl) h0 (by omega) (off+i) (by omega)
      simp only[Nat.zero_add] at this
      rw[show ds.getD (off+i) .none=ds[off+i] from by simp[h1]]
      refine⟨this.2.1,this.2.2,?_⟩
      rw[hsub'] at hT
      exact obj_cok hT (cs:=ds) rfl _ h1
     have hl2:((ds.drop off).take (len*sz')).length=len*sz':=by simp;omega
     have hg:∀i (hi:i<((ds.drop off).take (len*sz')).length),((ds.drop off).take (len*sz'))[i]=ds.getD (off+i) .none:=fun i hi=>by
      simp only[List.getElem_take,List.getElem_drop]
      rw[hl2] at hi
      simp[show off+i<ds.length by omega]
     refine⟨_,_,(List.range (len*sz')).map fun i=>cv w b (off+i),rfl,by simp;omega,fun w' hw=>?_,fun i hi=>?_⟩
     ·refine run_firstCells_some w' sz len _ len cap _ (by rw[hl2] at hlen;simpa using hlen) fun j v hj=>?_
      rw[addr_add,cell' hw]
      obtain⟨hlt,rfl⟩:=List.getElem?_eq_some_iff.1 hj
      simp only[List.length_map,List.length_range] at hlt
      simpa using (cell j hlt).2.1
     ·have hi':i<len*sz':=by rw[hl2] at hi;exact hi
      rw[hg i hi]
      refine⟨fun hf=>?_,(cell i hi').2.2⟩
      have:=(cell i hi').1.any hf Option.none
      simpa[List.getD,hi'] using this
    ·cases h
   ·cases h
 | _=>simp[slCells] at h
theorem run_app{t ty et:TypeId}{i:TypeInfo}{z:Value}(w:World)(ht:P.underlying t=some (.slice et))(hi:P.info? et=some i)(hz:i.zero=some z){base:Option Addr}{len cap m:Nat}{xb:Option Addr}{xc:Nat}{olds news:List Value}
 (hol:∀w':World,w'.heap=w.heap->(Builtin.firstCells i.size len (.slice base len cap)).run P w' = .ok olds.toArray w')(hnew:∀w':World,w'.heap=w.heap->(Builtin.firstCells i.size m (.slice xb m xc)).run P w' = .ok news.toArray w')
 (hb:(len+m)*i.bytes<=lim)(hl:len+m<=lim):
 (Builtin.append_ #[t,t] ty #[.slice base len cap,.slice xb m xc]).run P w =
   if len+m<=cap then (match base with | some ad=>((storeCells (ad.add (len*i.size)) news).run P w).andThen fun _ w'=>.ok (.slice base (len+m) cap) w'|Option.none=>.ok (.slice base (len+m) cap) w)
   else .ok (.slice (some ⟨w.heap.size,0,Option.none⟩) (len+m) (grownCap w (len+m) cap et)) (w.drew.alloc (.cells (olds.toArray++news.toArray++Builtin.zeroCells z.cells (grownCap w (len+m) cap et-(len+m))) et)):=by
 unfold lim at hb hl
 by_cases hr:len+m<=cap
 ·rw[if_pos hr]
  have hf:=hnew w rfl
  cases base with
  | none=>simp[Builtin.append_,run_underlying ht,sizeOf,typeInfo,hi,Builtin.lenOf,hr,hf]
  | some ad=>simp[Builtin.append_,run_underlying ht,sizeOf,typeInfo,hi,Builtin.lenOf,hr,hf]
 ·rw[if_neg hr]
  have h63':¬(9223372036854775807<((len:Int)+(m:Int))):=by omega
  have h48:=growslice_fits (need:=len+m) (old:=cap) (bytes:=i.bytes) (by omega) (by omega)
  have h48':¬(281474976710656<Builtin.nextslicecap (len+m) cap*i.bytes):=by omega
  have hf:=hnew w.drew rfl
  have hfo:=hol w.drew rfl
  simp[Builtin.append_,run_underlying ht,sizeOf,typeInfo,zeroValue,hi,hz,Builtin.lenOf,hr,h63',h48',Question.forced,hf,hfo,newRow,grownCap]
  congr 2
  apply Array.ext'
  simp[List.append_assoc]
end
open Go
theorem Grows.drew{w:World}{L:LM}(W:WF w L):Grows w L w.drew L:=
 ⟨⟨W.inj,fun b j h=>W.ex b j h,fun b j r p i h=>W.thaw b j r p i h⟩,⟨rfl,rfl,rfl,Nat.le_refl _,fun _ _ _ _=>rfl,fun _ _=>.refl _ _ _⟩,fun _ _ _=>rfl,fun _ _ _=>rfl⟩
section
variable {P:Program} {n m:Nat} {w:World} {L:LM} {a:Act} {e:Env} {o:Oper} {Q:Exit->Act->World->Prop}
theorem InvF.drew{g:Nat->PV}(I:InvF n m w L a g):InvF n m w.drew L a g:=
 ⟨⟨(Grows.drew I.wf).wf,fun t=>(Grows.drew I.wf).rep (I.rep t),I.df,I.sz⟩,I.bd,I.dom,I.nr⟩
theorem landNew'(I:InvF n m w L a e.get){d:Nat}(hd:d<n){ys:List PV}{vs:Array Value}(hlen:ys.length<=vs.size)(hm:ys.length<=m)
 (H:∀i (hi:i<ys.length),RepV w L (some (n,[i])) ys[i] (vs.getD i undef)/\refs ys[i]=[]/\ys[i].cok=true)(t:TypeId){v:PV}{u:Value}
 (K:∀L',(∀j,j<vs.size->L' w.heap.size j = .own d [] j)->(∀i (hi:i<ys.length),RepV { w with heap:=w.heap.push (.cells vs t) } L' (some (d,[i])) ys[i] (cv { w with heap:=w.heap.push (.cells vs t) } w.heap.size i)) ->
   RepV { w with heap:=w.heap.push (.cells vs t) } L' (some (d,[])) v u):
 ∃L',InvF n 0 { w with heap:=w.heap.push (.cells vs t) } L' (a.put (some d) u) (e.setD d v).get/\Ext w L { w with heap:=w.heap.push (.cells vs t) } L':=by
 obtain⟨I2,T2,F2,E2⟩:=I.land hd
 have G:=grows_new I2.wf T2 vs t
 refine⟨_,(I2.put hd G (v:=v) (u:=u) ?_ fun b j r p i h=>?_).congr fun t=>?_,E2.trans G.ext⟩
 ·refine K _ (fun j hj=>newL_at _ hj) fun i hi=>?_
  have h1:=F2 i _ _ (by omega) (H i hi).1 (H i hi).2.1
  have h2:=G.rep h1
  have e1:cv { w with heap:=w.heap.push (.cells vs t) } w.heap.size i=vs.getD i undef:=by
   simp[cv,cell_new,show i<vs.size by omega,Array.getD]
  rw[e1]
  exact h2
 ·rcases newL_labels I2.wf vs.size d b j with h'|⟨p',i',h'⟩|h'
  ·rw[h'] at h
   rcases I2.bd b j r p i h with h|⟨_,k,s,_,h⟩
   ·exact h
   ·omega
  ·rw[h'] at h;simp only[Lab.own.injEq] at h;omega
  ·rw[h'] at h;cases h
 ·rw[get_setD];by_cases h:t=d <;> simp[h]
theorem getD_getElem{vs:List Value}{i:Nat}(h:i<vs.length):vs.getD i undef=vs[i]:=by simp[h]
theorem StepOk.app(I:InvF n 0 w L a e.get){d:Nat}(hd:d<n)(ho:o.dst=some d){s x:Operand}{s' x':XO}{t et:TypeId}{at_:Array TypeId}{z:List PV}{sz by_:Nat}(hop:o.op = .call { callee:=.builtin .append,args:=#[s,x],argTypes:=#[t,t] })
 (hs:trO s=some s')(hx:trO x=some x')(ht:P.underlying t=some (.slice et))(hz:zeroP P et=some z)(hsz:szP P et=some sz)(hz0:0<sz)(hzl:z.length=sz)(hby:(P.info? et).map (·.bytes)=some by_)
 {r:Nat}{p:List Nat}{len n0 k:Nat}{cs new:List PV}(es:look e s' = .view r p 0 len sz)(hsub:e.sub r p = .own sz n0 cs)(ex:slCells e.sub (look e x')=some (k,new))(hle:len*sz<=cs.length)(hk:k*sz=new.length)
 (hb:(len+k)*by_<=lim)(hl:len+k<=lim)(hf:new.all PV.free=true)(hc:canUpd e r p=true):
 StepOk P n o a w L (((e.upd r p .none).purge r p).setD d (.own sz (len+k) (cs.take (len*sz)++new))) Q:=by
 obtain⟨i,v,hi,hzv,HZ,hzf⟩:=zero_pw (w:=w) (L:=L) hz
 have hisz:i.size=sz:=by simp[szP,hi] at hsz;exact hsz
 have hiby:i.bytes=by_:=by simp[hi] at hby;exact hby
 have hf':∀c∈new,c.free=true:=fun c hc=>by simpa using (List.all_eq_true.1 hf) c hc
 have hsub':Ab.sub (e.get r) p = .own sz n0 cs:=hsub
 have hsne:Ab.sub (e.get r) p ≠ .none:=by rw[hsub'];simp
 obtain⟨xb,xc,news,hxv,hnl,hnr,hnc⟩:=slCells_run (P:=P) I.toInv (S:=e.sub) (fun r p=>.inr rfl) (I.look hx Option.none) (sz:=sz) ex hk.symm
 have V:=I.look hs Option.none
 rw[show lookG e.get s' = .view r p 0 len sz from es] at V
 generalize hsv:a.eval s=sv at V
 obtain⟨T,hT⟩:=I.obj hsne
 rw[hsub'] at hT
 have htr:(cs.take (len*sz)).length=len*sz:=by simp;omega
 obtain⟨b,cap,rfl,hO⟩:∃b cap,sv = .slice (some ⟨b,0,Option.none⟩) len cap/\RepV w L (some (r,p)) (.own sz len (cs.take (len*sz))) (.slice (some ⟨b,0,Option.none⟩) len cap):=by
  cases V with
  | view _ _ _ _ _ _ b cap hl hp hlab=>
    refine⟨b,cap,rfl,?_⟩
    cases hT with
    | own _ _ _ _ _ b' cap' hn hl' hp' ho hk hcc=>
      refine .own _ _ _ _ _ _ _ htr hl (by omega) (fun j hj=>hlab j (by omega)) (fun i hi=>by rw[List.getElem_take];exact hk _ _) fun i hi=>?_
      have h2:=hlab 0 (by omega)
      obtain⟨rfl,_⟩:=I.wf.inj _ _ _ _ _ _ _ h2 (ho 0 hp')
      rw[List.getElem_take]
      exact hcc i _
 obtain⟨L1,I1,H1,E1,T1⟩:=I.fly' hsne (v:=.own sz len (cs.take (len*sz))) rfl hc hO
 have F1:∀v u,v.free=true->RepV w L Option.none v u->RepV w L1 Option.none v u:=fun v u hv H=>by
  have:=T1 _ _ H
  simpa[purges,free_purge hv] using this
 obtain⟨I2,E2,F2,b2,cap2,hu2,_,hlc,hcp,hlab1,hkids⟩:=I1.explode H1
 simp only[Value.slice.injEq,Option.some.injEq,Addr.mk.injEq,and_true,true_and] at hu2
 obtain⟨rfl,rfl⟩:=hu2
 simp only[htr] at I2 E2 F2 hkids
 have hcell:∀i,i<len*sz->w.cell? ⟨b,i,Option.none⟩=some (cv w b i):=fun i hi=>by
  have hcap:len*sz<=cap*sz:=Nat.mul_le_mul_right _ hlc
  obtain⟨v,hv⟩:=I1.wf.ex b i (by rw[hlab1 i (by omega)];simp)
  simp[cv,hv]
 have hol:∀w':World,w'.heap=w.heap->(Builtin.firstCells sz len (.slice (some ⟨b,0,Option.none⟩) len cap)).run P w' = .ok ((List.range (len*sz)).map fun i=>cv w b i).toArray w':=fun w' hw=>by
  refine run_firstCells_some w' sz len _ len cap _ (by simp) fun j v hj=>?_
  rw[addr_add,Nat.zero_add]
  obtain⟨hlt,rfl⟩:=List.getElem?_eq_some_iff.1 hj
  simp only[List.length_map,List.length_range] at hlt
  have:=hcell j hlt
  simp only[World.cell?,hw] at this ⊢
  simpa using this
 have hrun:=run_app (ty:=o.type) (z:=v) w ht hi hzv (base:=some ⟨b,0,Option.none⟩) (len:=len) (cap:=cap) (m:=k) (xb:=xb) (xc:=xc) (by rw[hisz];exact hol) (by rw[hisz,←hxv];exact hnr) (by rw[hiby];exact hb) hl
 have hop':(execOp a.eval o).run P w=((Builtin.append_ #[t,t] o.type #[.slice (some ⟨b,0,Option.none⟩) len cap,.slice xb k xc]).run P w).andThen fun v w'=>.ok (.value v) w':=by
  simp[execOp,hop,resolve,invoke,builtin,hsv,hxv]
 have hkl:(cs.take (len*sz)++new).length=(len+k)*sz:=by rw[List.length_append,htr,←hk,Nat.add_mul]
 have hkl2:(cs.take (len*sz)++new).length=len*sz+new.length:=by rw[List.length_append,htr]
 unfold StepOk Oper.wp
 rw[hop',hrun]
 by_cases hroom:len+k<=cap
 ·
  rw[if_pos hroom]
  simp only[addr_add,Nat.zero_add,hisz]
  have hcap:(len+k)*sz<=cap*sz:=Nat.mul_le_mul_right _ hroom
  rw[Nat.add_mul] at hcap
  have hnlen:news.length=k*sz:=by omega
  have hlabn:∀q,q<news.length->L1 b (len*sz+q) = .own n [0] (len*sz+q):=fun q hq=>hlab1 _ (by omega)
  have hone:∀v∈news,v.oneCell'=true:=fun v hv=>by
   obtain⟨q,hq,rfl⟩:=List.getElem_of_mem hv
   obtain⟨h1,h2⟩:=hnc q (by omega)
   have h3:=hf' _ (List.getElem_mem (show q<new.length by omega))
   have:=one_of_cok (h1 h3) h2 (by intro hh;rw[hh] at h3;simp[PV.free] at h3)
   rwa [getD_getElem hq] at this
  obtain⟨v9,hv9⟩:=I1.wf.ex b (cap*sz-1) (by rw[hlab1 _ (by omega)];simp)
  have hex:∃c t fr,w.heap[b]? = some (.cells c t fr)/\len*sz+0+news.length<=c.size:=by
   simp only[World.cell?] at hv9
   split at hv9
   ·rename_i c t fr hc
    refine⟨c,t,fr,hc,?_⟩
    have:cap*sz-1<c.size:=by
     rcases Nat.lt_or_ge (cap*sz-1) c.size with h|h
     ·exact h
     ·rw[Array.getElem?_eq_none h] at hv9;cases hv9
    omega
   ·cases hv9
  obtain⟨w',hst,W⟩:=run_storeCells (P:=P) news 0 w hex (fun q hq=>I1.wf.thaw _ _ _ _ _ (by rw[Nat.add_zero];exact hlabn q hq)) hone
  rw[Nat.add_zero] at W
  rw[hst]
  simp only[Result.andThen_ok,Oper.upon,ho]
  obtain⟨I3,E3,F3⟩:=I1.wroteFly W hlabn
  obtain⟨L4,I4,E4⟩:=I3.land1 hd (v:=.own sz (len+k) (cs.take (len*sz)++new)) (u:=.slice (some ⟨b,0,Option.none⟩) (len+k) cap) (by
   cases H1 with
   | own _ _ _ _ _ _ _ hn _ _ ho1 hk1 hc1=>
     refine .own _ _ _ _ _ _ _ hkl hroom hcp ho1 (fun q hq=>?_) fun q hq=>?_
     ·by_cases h:q<len*sz
      ·rw[List.getElem_append_left (by omega)];exact hk1 q (by omega)
      ·rw[List.getElem_append_right (by omega)]
       exact free_cok (hf' _ (List.getElem_mem _))
     ·by_cases h:q<len*sz
      ·rw[List.getElem_append_left (by omega),cv_eq (W.cell (b':=b) (j:=q) (by omega))]
       refine F3 _ _ _ (hc1 q (by omega)) fun r p s h=>.inl ?_
       simp only[Option.some.injEq,Prod.mk.injEq] at h
       obtain⟨rfl,rfl⟩:=h
       simp
      ·rw[List.getElem_append_right (by omega)]
       have hq':q-len*sz<new.length:=by omega
       simp only[htr]
       have h1:=(hnc (q-len*sz) hq').1 (hf' _ (List.getElem_mem hq'))
       have h2:=W.cell_new (k:=q-len*sz) (by omega)
       rw[show len*sz+(q-len*sz)=q by omega] at h2
       rw[h2]
       rw[getD_getElem (by omega)] at h1
       exact (F3 _ _ _ (F1 _ _ (hf' _ (List.getElem_mem hq')) h1) (by simp)).any (hf' _ (List.getElem_mem hq')) _) (by simp[refs])
  exact⟨L4,I4,E1.trans (E3.trans E4)⟩
 ·rw[if_neg hroom]
  simp only[Result.andThen_ok,Oper.upon,ho]
  have hge:=grownCap_ge w (len+k) cap et
  have hzsz:v.cells.size=sz:=by rw[HZ.sz,hzl]
  have hnlen:news.length=k*sz:=by omega
  generalize hcapn:grownCap w (len+k) cap et=ncap at hge
  have hvs:(((List.range (len*sz)).map fun i=>cv w b i).toArray++news.toArray++Builtin.zeroCells v.cells (ncap-(len+k))).size=ncap*sz:=by
   simp only[Array.size_append,List.size_toArray,List.length_map,List.length_range,size_zeroCells,hzsz,hnlen,←Nat.add_mul]
   congr 1;omega
  have hcapge:(len+k)*sz<=ncap*sz:=Nat.mul_le_mul_right _ hge
  have hys:(cs.take (len*sz)++new).length<=ncap*sz:=by rw[hkl];exact hcapge
  have I3:=(I2.drew).more (m':=(cs.take (len*sz)++new).length) (by rw[hkl2];omega)
  have G:=Grows.drew I2.wf
  have hget1:∀q,q<len*sz->(((List.range (len*sz)).map fun i=>cv w b i).toArray++news.toArray++Builtin.zeroCells v.cells (ncap-(len+k))).getD q undef=cv w b q:=fun q hq=>by
   have h1:q<len*sz+news.length+(ncap-(len+k))*v.cells.size:=by omega
   have h2:q<len*sz+news.length:=by omega
   simp[Array.getD,h1,Array.getElem_append,h2,hq,size_zeroCells]
  have hget2:∀q (hq:q<news.length),(((List.range (len*sz)).map fun i=>cv w b i).toArray++news.toArray++Builtin.zeroCells v.cells (ncap-(len+k))).getD (len*sz+q) undef=news[q]:=fun q hq=>by
   have h1:len*sz+q<len*sz+news.length+(ncap-(len+k))*v.cells.size:=by omega
   have h2:len*sz+q<len*sz+news.length:=by omega
   simp[Array.getD,h1,Array.getElem_append,h2,hq,size_zeroCells]
  obtain⟨L4,I4,E4⟩:=landNew' I3 hd (ys:=cs.take (len*sz)++new) (by rw[hvs];exact hys) (Nat.le_refl _) (fun q hq=>by
   by_cases h:q<len*sz
   ·rw[List.getElem_append_left (by omega),hget1 q h]
    obtain⟨h1,h2,h3⟩:=hkids q (by omega)
    exact⟨G.rep h1,h2,h3⟩
   ·rw[List.getElem_append_right (by omega)]
    have hq':q-len*sz<new.length:=by omega
    simp only[htr]
    have hff:=hf' _ (List.getElem_mem hq')
    have h1:=(hnc (q-len*sz) hq').1 hff
    have h2:=hget2 (q-len*sz) (by omega)
    rw[show len*sz+(q-len*sz)=q by omega] at h2
    rw[h2]
    rw[getD_getElem (by omega)] at h1
    exact⟨(G.rep (F2 _ _ hff (F1 _ _ hff h1))).any hff _,free_refs hff,free_cok hff⟩) et (v:=.own sz (len+k) (cs.take (len*sz)++new)) (u:=.slice (some ⟨w.heap.size,0,Option.none⟩) (len+k) ncap) fun L' hlab' hcell'=>by
    have hpos:0<(len+k)*sz:=Nat.mul_pos (by omega) hz0
    refine .own _ _ _ _ _ _ _ hkl hge (by omega) (fun j hj=>hlab' j (by rw[hvs];exact hj)) (fun q hq=>?_) hcell'
    by_cases h:q<len*sz
    ·rw[List.getElem_append_left (by omega)];exact (hkids q (by omega)).2.2
    ·rw[List.getElem_append_right (by omega)]
     exact free_cok (hf' _ (List.getElem_mem _))
  exact⟨L4,I4,E1.trans (E2.trans (G.ext.trans E4))⟩
end
open Go
def PureOk(P:Program)(o:Oper)(a:Act)(w:World)(L:LM)(d:Nat)(v:PV)(Q:Exit->Act->World->Prop):Prop:=
 o.wp P a w (fun a' w'=>∃u L',a'=a.put (some d) u/\Grows w (fun b j=>dropL d [] (L b j)) w' L'/\RepV w' L' (some (d,[])) v u /\
  ∀b j,L' b j=dropL d [] (L b j)\/(∃p i,L' b j = .own d p i)\/L' b j = .sh) Q
mutual
theorem purge1_id(f:Nat->List Nat->Bool):∀(v:PV),refs v=[]->purge1 f v=v
 | .ref ..,h=>by simp[refs] at h
 | .view ..,h=>by simp[refs] at h
 | .agg cs,h=>by simp only[refs] at h;simp[purge1,purgeL_id f cs h]
 | .tup cs,h=>by simp only[refs] at h;simp[purge1,purgeL_id f cs h]
 | .fn g cs,h=>by simp only[refs] at h;simp[purge1,purgeL_id f cs h]
 | .none,_=>rfl
 | .bool _,_=>rfl
 | .int _ _,_=>rfl
 | .str _,_=>rfl
 | .nilp,_=>rfl
 | .nils,_=>rfl
 | .nilf,_=>rfl
 | .box _,_=>rfl
 | .own _ _ _,_=>rfl
 | .sl _ _,_=>rfl
 | .sp _,_=>rfl
theorem purgeL_id(f:Nat->List Nat->Bool):∀(cs:List PV),refsL cs=[]->purgeL f cs=cs
 | [],_=>rfl
 | c::cs,h=>by
   simp only[refsL,List.append_eq_nil_iff] at h
   simp[purgeL,purge1_id f c h.1,purgeL_id f cs h.2]
end
section
variable {P:Program} {n:Nat} {w:World} {L:LM} {a:Act} {g:Nat->PV} {o:Oper} {Q:Exit->Act->World->Prop}
theorem ValAt.pure(W:WF w L){d:Nat}(ho:o.dst=some d){v:PV}(h:ValAt P o a w L v):PureOk P o a w L d (purge1 (und d []) v) Q:=by
 obtain⟨u,hr,hrep,hn⟩:=h
 unfold PureOk Oper.wp
 rw[hr]
 simp only[Oper.upon,ho]
 exact⟨u,_,rfl,Grows.refl (W.drop d []),(hrep Option.none).loose_drop hn d [] (some (d,[])),fun _ _=>.inl rfl⟩
theorem NewAt.pure{d:Nat}(ho:o.dst=some d){v:PV}(h:NewAt P o a w L d v)(hv:refs v=[]):PureOk P o a w L d (purge1 (und d []) v) Q:=by
 obtain⟨u,w',L',hr,G,hrep,hlab⟩:=h
 unfold PureOk Oper.wp
 rw[hr,purge1_id _ _ hv]
 simp only[Oper.upon,ho]
 exact⟨u,L',rfl,G,hrep,hlab⟩
theorem ok_app_nil(I:Inv n w L a g){S:Subs}(hS:SubsOk S g){s x:Operand}{s' x':XO}{t et:TypeId}{z:List PV}{sz by_:Nat}(hop:o.op = .call { callee:=.builtin .append,args:=#[s,x],argTypes:=#[t,t] })
 (hs:trO s=some s')(hx:trO x=some x')(ht:P.underlying t=some (.slice et))(hz:zeroP P et=some z)(hsz:szP P et=some sz)(hz0:0<sz)(hzl:z.length=sz)(hby:(P.info? et).map (·.bytes)=some by_)
 (es:lookG g s' = .nils){k:Nat}{new:List PV}(ex:slCells S (lookG g x')=some (k,new))(hk:k*sz=new.length)(hb:k*by_<=lim)(hl:k<=lim)(hf:new.all PV.free=true)(d:Nat):
 NewAt P o a w L d (mkOwn sz k new):=by
 obtain⟨i,v,hi,hzv,HZ,hzf⟩:=zero_pw (w:=w) (L:=L) hz
 have hisz:i.size=sz:=by simp[szP,hi] at hsz;exact hsz
 have hiby:i.bytes=by_:=by simp[hi] at hby;exact hby
 have hf':∀c∈new,c.free=true:=fun c hc=>by simpa using (List.all_eq_true.1 hf) c hc
 obtain⟨xb,xc,news,hxv,hnl,hnr,hnc⟩:=slCells_run (P:=P) I hS (I.look hx Option.none) (sz:=sz) ex hk.symm
 have V:=I.look hs Option.none
 rw[es] at V
 generalize hsv:a.eval s=sv at V
 cases V with
 | nils _ base=>
   have hol:∀w':World,w'.heap=w.heap->(Builtin.firstCells i.size 0 (.slice base 0 0)).run P w' = .ok ([]:List Value).toArray w':=fun w' hw=>by
    cases base with
    | none=>simp[Builtin.firstCells]
    | some b=>exact run_firstCells_some w' i.size 0 b 0 0 [] (by simp) (by simp)
   have hrun:=run_app (ty:=o.type) (z:=v) w ht hi hzv (base:=base) (len:=0) (cap:=0) (m:=k) (xb:=xb) (xc:=xc) hol (by rw[hisz,←hxv];exact hnr) (by rw[hiby];simpa using hb) (by simpa using hl)
   have hop':(execOp a.eval o).run P w=((Builtin.append_ #[t,t] o.type #[.slice base 0 0,.slice xb k xc]).run P w).andThen fun v w'=>.ok (.value v) w':=by
    simp[execOp,hop,resolve,invoke,builtin,hsv,hxv]
   rw[hrun] at hop'
   simp only[Nat.zero_add,Nat.le_zero_eq] at hop'
   by_cases hk0:k=0
   ·subst hk0
    have hn0:news=[]:=by
     have:news.length=0:=by rw[hnl,←hk];simp
     exact List.length_eq_zero_iff.1 this
    subst hn0
    refine⟨.slice base 0 0,w,fun b j=>dropL d [] (L b j),?_,Grows.refl (I.wf.drop d []),by simp[mkOwn];exact .nils _ _,fun _ _=>.inl rfl⟩
    rw[hop',if_pos rfl]
    cases base <;> simp[storeCells]
   ·rw[if_neg hk0] at hop'
    have hge:=grownCap_ge w k 0 et
    have hzsz:v.cells.size=sz:=by rw[HZ.sz,hzl]
    have hnlen:news.length=k*sz:=by omega
    generalize hcapn:grownCap w k 0 et=ncap at hge hop'
    have W1:=(Grows.drew I.wf).wf.drop d []
    have hvs:(([]:List Value).toArray++news.toArray++Builtin.zeroCells v.cells (ncap-k)).size=ncap*sz:=by
     simp only[Array.size_append,List.size_toArray,List.length_nil,size_zeroCells,hzsz,hnlen,Nat.zero_add,←Nat.add_mul]
     congr 1;omega
    have hcapge:k*sz<=ncap*sz:=Nat.mul_le_mul_right _ hge
    have hpos:0<k*sz:=Nat.mul_pos (by omega) hz0
    refine⟨_,_,_,hop',(Grows.drew (I.wf.drop d [])).trans (grows_new W1 (noTop_drop L d) _ et),?_,newL_labels W1 _ d⟩
    have:mkOwn sz k new = .own sz k new:=by simp[mkOwn,hk0]
    rw[this]
    refine rep_own W1 (noTop_drop L d) hk.symm hge (by omega) hvs (fun q hq=>?_) hf' et
    have hff:=hf' _ (List.getElem_mem hq)
    have h1:=(hnc q hq).1 hff
    have h2:(([]:List Value).toArray++news.toArray++Builtin.zeroCells v.cells (ncap-k)).getD q undef=news.getD q undef:=by
     have e1:q<news.length+(ncap-k)*v.cells.size:=by omega
     have e2:q<news.length:=by omega
     simp[Array.getD,e1,Array.getElem_append,e2,size_zeroCells]
    rw[h2]
    exact (Grows.drew (I.wf.drop d [])).rep (h1.drop_free hff d [] _)
end
end Go.Ab
