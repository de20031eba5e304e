/-
  Printed by gen.py.
-/
import Derived.Test.YtebfbfgighmedaaC
namespace Go.Ab
open Go
set_option linter.unusedVariables false
set_option linter.unusedSimpArgs false
set_option maxRecDepth 100000
set_option maxHeartbeats 4000000
structure Ins where
  Op : Int
  Id : Int
  N : Int
  Type' : Int
  Args : List Int
  To : List Int
  Name : Str
  At : Int
  deriving DecidableEq
instance : Inhabited Ins := ⟨⟨default, default, default, default, default, default, default, default⟩⟩
def cIns (x : Ins) : List PV := [.int .i64 x.Op, .int .i64 x.Id, .int .i64 x.N, .int .i64 (x.Type'), .sl x.Args.length (x.Args.flatMap (cint .i64)), .sl x.To.length (x.To.flatMap (cint .i64)), .str x.Name, .int .i64 x.At]
theorem szIns : Sz cIns 8 := fun _ => rfl
theorem fzIns : Fz cIns := fun _ => ⟨rfl, rfl⟩
theorem nzIns : type_of% (And.intro @cIns.eq_1 (And.intro (enl_len szIns) (And.intro (enl_frz fzIns) (And.intro (enl_free fzIns) (And.intro (enl_take szIns) (And.intro (enl_purge fzIns) (And.intro (enl_al fzIns) (And.intro (enl_refs fzIns) ((enl_noRefs fzIns)))))))))) := And.intro @cIns.eq_1 (And.intro (enl_len szIns) (And.intro (enl_frz fzIns) (And.intro (enl_free fzIns) (And.intro (enl_take szIns) (And.intro (enl_purge fzIns) (And.intro (enl_al fzIns) (And.intro (enl_refs fzIns) ((enl_noRefs fzIns)))))))))
structure Fun where
  Name : Str
  Params : List Int
  Ret : Int
  Blocks : List (List Ins)
  At : Int
  deriving DecidableEq
instance : Inhabited Fun := ⟨⟨default, default, default, default, default⟩⟩
def cFun (x : Fun) : List PV := [.str x.Name, .sl x.Params.length (x.Params.flatMap (cint .i64)), .int .i64 x.Ret, .sl x.Blocks.length (x.Blocks.flatMap (csl cIns)), .int .i64 x.At]
theorem szFun : Sz cFun 5 := fun _ => rfl
theorem fzFun : Fz cFun := fun _ => ⟨rfl, rfl⟩
theorem nzFun : type_of% (And.intro @cFun.eq_1 (And.intro (enl_len szFun) (And.intro (enl_frz fzFun) (And.intro (enl_free fzFun) (And.intro (enl_take szFun) (And.intro (enl_purge fzFun) (And.intro (enl_al fzFun) (And.intro (enl_refs fzFun) ((enl_noRefs fzFun)))))))))) := And.intro @cFun.eq_1 (And.intro (enl_len szFun) (And.intro (enl_frz fzFun) (And.intro (enl_free fzFun) (And.intro (enl_take szFun) (And.intro (enl_purge fzFun) (And.intro (enl_al fzFun) (And.intro (enl_refs fzFun) ((enl_noRefs fzFun)))))))))
structure Prg where
  Funcs : List Fun
  deriving DecidableEq
instance : Inhabited Prg := ⟨⟨default⟩⟩
def cPrg (x : Prg) : List PV := [.sl x.Funcs.length (x.Funcs.flatMap cFun)]
theorem szPrg : Sz cPrg 1 := fun _ => rfl
theorem fzPrg : Fz cPrg := fun _ => ⟨rfl, rfl⟩
theorem nzPrg : type_of% (And.intro @cPrg.eq_1 (And.intro (enl_len szPrg) (And.intro (enl_frz fzPrg) (And.intro (enl_free fzPrg) (And.intro (enl_take szPrg) (And.intro (enl_purge fzPrg) (And.intro (enl_al fzPrg) (And.intro (enl_refs fzPrg) ((enl_noRefs fzPrg)))))))))) := And.intro @cPrg.eq_1 (And.intro (enl_len szPrg) (And.intro (enl_frz fzPrg) (And.intro (enl_free fzPrg) (And.intro (enl_take szPrg) (And.intro (enl_purge fzPrg) (And.intro (enl_al fzPrg) (And.intro (enl_refs fzPrg) ((enl_noRefs fzPrg)))))))))
structure Err where
  Code : Int
  At : Int
  deriving DecidableEq
instance : Inhabited Err := ⟨⟨default, default⟩⟩
def cErr (x : Err) : List PV := [.int .i64 x.Code, .int .i64 x.At]
theorem szErr : Sz cErr 2 := fun _ => rfl
theorem fzErr : Fz cErr := fun _ => ⟨rfl, rfl⟩
theorem nzErr : type_of% (And.intro @cErr.eq_1 (And.intro (enl_len szErr) (And.intro (enl_frz fzErr) (And.intro (enl_free fzErr) (And.intro (enl_take szErr) (And.intro (enl_purge fzErr) (And.intro (enl_al fzErr) (And.intro (enl_refs fzErr) ((enl_noRefs fzErr)))))))))) := And.intro @cErr.eq_1 (And.intro (enl_len szErr) (And.intro (enl_frz fzErr) (And.intro (enl_free fzErr) (And.intro (enl_take szErr) (And.intro (enl_purge fzErr) (And.intro (enl_al fzErr) (And.intro (enl_refs fzErr) ((enl_noRefs fzErr)))))))))
structure A2_Int where
  a0 : Int
  a1 : Int
  deriving DecidableEq
instance : Inhabited A2_Int := ⟨⟨default, default⟩⟩
def cA2_Int (x : A2_Int) : List PV := [.int .i64 x.a0, .int .i64 x.a1]
theorem szA2_Int : Sz cA2_Int 2 := fun _ => rfl
theorem fzA2_Int : Fz cA2_Int := fun _ => ⟨rfl, rfl⟩
theorem nzA2_Int : type_of% (And.intro @cA2_Int.eq_1 (And.intro (enl_len szA2_Int) (And.intro (enl_frz fzA2_Int) (And.intro (enl_free fzA2_Int) (And.intro (enl_take szA2_Int) (And.intro (enl_purge fzA2_Int) (And.intro (enl_al fzA2_Int) (And.intro (enl_refs fzA2_Int) ((enl_noRefs fzA2_Int)))))))))) := And.intro @cA2_Int.eq_1 (And.intro (enl_len szA2_Int) (And.intro (enl_frz fzA2_Int) (And.intro (enl_free fzA2_Int) (And.intro (enl_take szA2_Int) (And.intro (enl_purge fzA2_Int) (And.intro (enl_al fzA2_Int) (And.intro (enl_refs fzA2_Int) ((enl_noRefs fzA2_Int)))))))))
structure ops_row where
  word : Str
  takes : A2_Int
  makes : Int
  traps : Bool
  reads : Bool
  writes : Bool
  seen : Bool
  ends : Bool
  deriving DecidableEq
instance : Inhabited ops_row := ⟨⟨default, default, default, default, default, default, default, default⟩⟩
def cops_row (x : ops_row) : List PV := [.str x.word, .int .i64 x.takes.a0, .int .i64 x.takes.a1, .int .i64 x.makes, .bool x.traps, .bool x.reads, .bool x.writes, .bool x.seen, .bool x.ends]
theorem szops_row : Sz cops_row 9 := fun _ => rfl
theorem fzops_row : Fz cops_row := fun _ => ⟨rfl, rfl⟩
theorem nzops_row : type_of% (And.intro @cops_row.eq_1 (And.intro (enl_len szops_row) (And.intro (enl_frz fzops_row) (And.intro (enl_free fzops_row) (And.intro (enl_take szops_row) (And.intro (enl_purge fzops_row) (And.intro (enl_al fzops_row) (And.intro (enl_refs fzops_row) ((enl_noRefs fzops_row)))))))))) := And.intro @cops_row.eq_1 (And.intro (enl_len szops_row) (And.intro (enl_frz fzops_row) (And.intro (enl_free fzops_row) (And.intro (enl_take szops_row) (And.intro (enl_purge fzops_row) (And.intro (enl_al fzops_row) (And.intro (enl_refs fzops_row) ((enl_noRefs fzops_row)))))))))
noncomputable def r05_Size_j60 (p0 : Prg) (p1 : Int) (v2 : Int) (x_4 : Fun) (v6 : Int) (v8 : Int) (v9 : Int) : Option Bool :=
  (ix x_4.Blocks v6).bind fun x_10 =>
  if decide (v9 < ((x_10.length : Int))) then
    some (decide (v8 ≤ p1))
  else
    some false
noncomputable def r05_Size_l61_b (p0 : Prg) (p1 : Int) (v2 : Int) (x_4 : Fun) (v6 : Int) (v8 : Int) (v9 : Int) : Option (Stp (Int × Int) Int) :=
  (r05_Size_j60 p0 p1 v2 x_4 v6 v8 v9).bind fun v11 =>
  if v11 then
    (ix x_4.Blocks v6).bind fun x_12 =>
    (ix x_12 v9).bind fun x_13 =>
    some (.next (IntKind.wrap .i64 ((IntKind.wrap .i64 ((IntKind.wrap .i64 ((IntKind.wrap .i64 (v8 + 1)) + (IntKind.wrap .i64 (Int.tdiv ((x_13.Args.length : Int)) 4)))) + (IntKind.wrap .i64 (Int.tdiv ((x_13.To.length : Int)) 4)))) + (IntKind.wrap .i64 (Int.tdiv ((x_13.Name.length : Int)) 30))), IntKind.wrap .i64 (v9 + 1)))
  else
    some (.stop v8)
noncomputable def r05_Size_l61 (p0 : Prg) (p1 : Int) (v2 : Int) (x_4 : Fun) (v6 : Int) (s : Int × Int) : Option Int := runL (fun s => r05_Size_l61_b p0 p1 v2 x_4 v6 s.1 s.2) s
noncomputable def r05_Size_l62_b (p0 : Prg) (p1 : Int) (v2 : Int) (x_4 : Fun) (v5 : Int) (v6 : Int) : Option (Stp (Int × Int) Int) :=
  if ((decide (v6 < ((x_4.Blocks.length : Int)))) && (decide (v5 ≤ p1))) then
    (r05_Size_l61 p0 p1 v2 x_4 v6 (v5, 0)).bind fun v14 =>
    some (.next (v14, IntKind.wrap .i64 (v6 + 1)))
  else
    some (.stop v5)
noncomputable def r05_Size_l62 (p0 : Prg) (p1 : Int) (v2 : Int) (x_4 : Fun) (s : Int × Int) : Option Int := runL (fun s => r05_Size_l62_b p0 p1 v2 x_4 s.1 s.2) s
noncomputable def r05_Size_l63_b (p0 : Prg) (p1 : Int) (v1 : Int) (v2 : Int) : Option (Stp (Int × Int) Int) :=
  if ((decide (v2 < ((p0.Funcs.length : Int)))) && (decide (v1 ≤ p1))) then
    (ix p0.Funcs v2).bind fun x_4 =>
    (r05_Size_l62 p0 p1 v2 x_4 (IntKind.wrap .i64 ((IntKind.wrap .i64 ((IntKind.wrap .i64 (v1 + ((x_4.Blocks.length : Int)))) + ((x_4.Params.length : Int)))) + (IntKind.wrap .i64 (Int.tdiv ((x_4.Name.length : Int)) 30))), 0)).bind fun v15 =>
    some (.next (v15, IntKind.wrap .i64 (v2 + 1)))
  else
    some (.stop v1)
noncomputable def r05_Size_l63 (p0 : Prg) (p1 : Int) (s : Int × Int) : Option Int := runL (fun s => r05_Size_l63_b p0 p1 s.1 s.2) s
noncomputable def r05_Size (p0 : Prg) (p1 : Int) : Option Int :=
  (r05_Size_l63 p0 p1 ((p0.Funcs.length : Int), 0)).bind fun v16 =>
  some v16
noncomputable def ops_rows : Option (List ops_row) :=
  some ([(⟨[], (⟨0, 0⟩ : A2_Int), 0, false, false, false, false, false⟩ : ops_row), (⟨[99, 111, 110, 115, 116], (⟨0, 0⟩ : A2_Int), 1, false, false, false, false, false⟩ : ops_row), (⟨[97, 100, 100], (⟨1, 1⟩ : A2_Int), 1, false, false, false, false, false⟩ : ops_row), (⟨[115, 117, 98], (⟨1, 1⟩ : A2_Int), 1, false, false, false, false, false⟩ : ops_row), (⟨[109, 117, 108], (⟨1, 1⟩ : A2_Int), 1, false, false, false, false, false⟩ : ops_row), (⟨[100, 105, 118], (⟨1, 1⟩ : A2_Int), 1, true, false, false, false, false⟩ : ops_row), (⟨[108, 116], (⟨1, 1⟩ : A2_Int), 1, false, false, false, false, false⟩ : ops_row), (⟨[101, 113], (⟨1, 1⟩ : A2_Int), 1, false, false, false, false, false⟩ : ops_row), (⟨[110, 105, 108], (⟨0, 0⟩ : A2_Int), 2, false, false, false, false, false⟩ : ops_row), (⟨[115, 97, 109, 101], (⟨2, 2⟩ : A2_Int), 1, false, false, false, false, false⟩ : ops_row), (⟨[110, 101, 119], (⟨0, 0⟩ : A2_Int), 2, false, false, false, false, false⟩ : ops_row), (⟨[108, 111, 97, 100, 46, 105], (⟨2, 0⟩ : A2_Int), 1, true, true, false, false, false⟩ : ops_row), (⟨[108, 111, 97, 100, 46, 112], (⟨2, 0⟩ : A2_Int), 2, true, true, false, false, false⟩ : ops_row), (⟨[115, 116, 111, 114, 101, 46, 105], (⟨2, 1⟩ : A2_Int), 0, true, false, true, true, false⟩ : ops_row), (⟨[115, 116, 111, 114, 101, 46, 112], (⟨2, 2⟩ : A2_Int), 0, true, false, true, true, false⟩ : ops_row), (⟨[115, 108, 111, 116], (⟨2, 0⟩ : A2_Int), 3, true, false, false, false, false⟩ : ops_row), (⟨[103, 101, 116, 46, 105], (⟨3, 0⟩ : A2_Int), 1, true, true, false, false, false⟩ : ops_row), (⟨[103, 101, 116, 46, 112], (⟨3, 0⟩ : A2_Int), 2, true, true, false, false, false⟩ : ops_row), (⟨[112, 117, 116, 46, 105], (⟨3, 1⟩ : A2_Int), 0, true, false, true, true, false⟩ : ops_row), (⟨[112, 117, 116, 46, 112], (⟨3, 2⟩ : A2_Int), 0, true, false, true, true, false⟩ : ops_row), (⟨[112, 104, 105], (⟨0, 0⟩ : A2_Int), 0, false, false, false, false, false⟩ : ops_row), (⟨[99, 97, 108, 108], (⟨0, 0⟩ : A2_Int), 0, true, true, true, true, false⟩ : ops_row), (⟨[111, 117, 116], (⟨1, 0⟩ : A2_Int), 0, false, false, false, true, false⟩ : ops_row), (⟨[112, 111, 108, 108], (⟨0, 0⟩ : A2_Int), 0, false, false, false, true, false⟩ : ops_row), (⟨[114, 101, 108, 111, 99], (⟨0, 0⟩ : A2_Int), 0, false, false, false, false, false⟩ : ops_row), (⟨[109, 97, 114, 107], (⟨2, 0⟩ : A2_Int), 0, false, false, false, true, false⟩ : ops_row), (⟨[98, 114], (⟨0, 0⟩ : A2_Int), 0, false, false, false, true, true⟩ : ops_row), (⟨[105, 102], (⟨1, 0⟩ : A2_Int), 0, false, false, false, true, true⟩ : ops_row), (⟨[114, 101, 116], (⟨0, 0⟩ : A2_Int), 0, false, false, false, true, true⟩ : ops_row), (⟨[102, 97, 105, 108], (⟨0, 0⟩ : A2_Int), 0, true, false, false, true, true⟩ : ops_row)])
noncomputable def ops_of (p0 : Int) : Option ops_row :=
  if ((decide (p0 < 1)) || (decide (29 < p0))) then
    some (⟨[], (⟨0, 0⟩ : A2_Int), 0, false, false, false, false, false⟩ : ops_row)
  else
    (ops_rows).bind fun r2 =>
    (ixa r2 30 p0).bind fun x_3 =>
    some x_3
noncomputable def ops_Ends (p0 : Int) : Option Bool :=
  (ops_of p0).bind fun r1 =>
  some r1.ends
noncomputable def graph_Shaped__d1_s1 (p0 : Int) (p1_0 : Str) (p1_1 : List Int) (p1_2 : Int) (p1_3 : List (List Ins)) (p1_4 : Int) : Option Bool :=
  some ((decide (p0 < 0)) || (decide (((p1_3.length : Int)) ≤ p0)))
noncomputable def slices_IndexFunc_intint_s1_l1_b (p0 : List Int) (p1_0_0 : Str) (p1_0_1 : List Int) (p1_0_2 : Int) (p1_0_3 : List (List Ins)) (p1_0_4 : Int) (v1 : Int) : Option (Stp Int (Stp Unit Int)) :=
  if decide (v1 < ((p0.length : Int))) then
    (ix p0 v1).bind fun x_2 =>
    (graph_Shaped__d1_s1 x_2 p1_0_0 p1_0_1 p1_0_2 p1_0_3 p1_0_4).bind fun r3 =>
    if r3 then
      some (.stop (.stop (v1)))
    else
      some (.next (IntKind.wrap .i64 (v1 + 1)))
  else
    some (.stop (.next ()))
noncomputable def slices_IndexFunc_intint_s1_l1 (p0 : List Int) (p1_0_0 : Str) (p1_0_1 : List Int) (p1_0_2 : Int) (p1_0_3 : List (List Ins)) (p1_0_4 : Int) (s : Int) : Option (Stp Unit Int) := runL (fun s => slices_IndexFunc_intint_s1_l1_b p0 p1_0_0 p1_0_1 p1_0_2 p1_0_3 p1_0_4 s) s
noncomputable def slices_IndexFunc_intint_s1 (p0 : List Int) (p1_0_0 : Str) (p1_0_1 : List Int) (p1_0_2 : Int) (p1_0_3 : List (List Ins)) (p1_0_4 : Int) : Option Int :=
  (slices_IndexFunc_intint_s1_l1 p0 p1_0_0 p1_0_1 p1_0_2 p1_0_3 p1_0_4 0).bind fun
    | .next _ =>
      some (-1)
    | .stop v4 =>
      some v4
noncomputable def slices_ContainsFunc_intint_s1 (p0 : List Int) (p1_0_0 : Str) (p1_0_1 : List Int) (p1_0_2 : Int) (p1_0_3 : List (List Ins)) (p1_0_4 : Int) : Option Bool :=
  (slices_IndexFunc_intint_s1 p0 p1_0_0 p1_0_1 p1_0_2 p1_0_3 p1_0_4).bind fun r1 =>
  some (decide (0 ≤ r1))
noncomputable def graph_Shaped_j19 (p0 : Fun) (v1 : Int) (x_2 : List Ins) (v3 : Int) (x_4 : Ins) : Option Bool :=
  if (x_4.Op != 20) then
    (slices_ContainsFunc_intint_s1 x_4.To p0.Name p0.Params p0.Ret p0.Blocks p0.At).bind fun r6 =>
    some r6
  else
    some false
noncomputable def graph_Shaped_l20_b (p0 : Fun) (v1 : Int) (x_2 : List Ins) (v3 : Int) : Option (Stp Int (Stp Unit Int)) :=
  if decide (v3 < ((x_2.length : Int))) then
    (ix x_2 v3).bind fun x_4 =>
    (ops_Ends x_4.Op).bind fun r5 =>
    if (!(r5 == ((v3 == (IntKind.wrap .i64 (((x_2.length : Int)) - 1)))))) then
      some (.stop (.stop (15)))
    else
      (graph_Shaped_j19 p0 v1 x_2 v3 x_4).bind fun v7 =>
      if v7 then
        some (.stop (.stop (7)))
      else
        some (.next (IntKind.wrap .i64 (v3 + 1)))
  else
    some (.stop (.next ()))
noncomputable def graph_Shaped_l20 (p0 : Fun) (v1 : Int) (x_2 : List Ins) (s : Int) : Option (Stp Unit Int) := runL (fun s => graph_Shaped_l20_b p0 v1 x_2 s) s
noncomputable def graph_Shaped_l21_b (p0 : Fun) (v1 : Int) : Option (Stp Int (Stp Unit (Int × Int))) :=
  if decide (v1 < ((p0.Blocks.length : Int))) then
    (ix p0.Blocks v1).bind fun x_2 =>
    (graph_Shaped_l20 p0 v1 x_2 0).bind fun
      | .next _ =>
        if (((x_2.length : Int)) == 0) then
          some (.stop (.stop ((15, v1))))
        else
          some (.next (IntKind.wrap .i64 (v1 + 1)))
      | .stop v8 =>
        some (.stop (.stop ((v8, v1))))
  else
    some (.stop (.next ()))
noncomputable def graph_Shaped_l21 (p0 : Fun) (s : Int) : Option (Stp Unit (Int × Int)) := runL (fun s => graph_Shaped_l21_b p0 s) s
noncomputable def graph_Shaped (p0 : Fun) : Option Err :=
  if (((p0.Blocks.length : Int)) == 0) then
    some (⟨15, 0⟩ : Err)
  else
    (graph_Shaped_l21 p0 0).bind fun
      | .next _ =>
        some (⟨0, 0⟩ : Err)
      | .stop ((v9, v10)) =>
        some (⟨v9, v10⟩ : Err)
noncomputable def r05_Ends (p0 : Int) : Option Bool :=
  some ((decide (26 ≤ p0)) && (decide (p0 ≤ 29)))
noncomputable def r08_Shaped_j114 (p0 : Fun) (v1 : Int) (x_2 : List Ins) (v3 : Int) (x_5 : Ins) (v7 : Int) : Option Bool :=
  (ix x_5.To v7).bind fun x_9 =>
  if decide (x_9 < 0) then
    some true
  else
    some (decide (((p0.Blocks.length : Int)) ≤ x_9))
noncomputable def r08_Shaped_l115_b (p0 : Fun) (v1 : Int) (x_2 : List Ins) (v3 : Int) (x_5 : Ins) (v7 : Int) : Option (Stp Int (Stp Unit Unit)) :=
  if ((decide (v7 < ((x_5.To.length : Int)))) && ((x_5.Op != 20))) then
    (r08_Shaped_j114 p0 v1 x_2 v3 x_5 v7).bind fun v10 =>
    if v10 then
      some (.stop (.stop (())))
    else
      some (.next (IntKind.wrap .i64 (v7 + 1)))
  else
    some (.stop (.next ()))
noncomputable def r08_Shaped_l115 (p0 : Fun) (v1 : Int) (x_2 : List Ins) (v3 : Int) (x_5 : Ins) (s : Int) : Option (Stp Unit Unit) := runL (fun s => r08_Shaped_l115_b p0 v1 x_2 v3 x_5 s) s
noncomputable def r08_Shaped_l116_b (p0 : Fun) (v1 : Int) (x_2 : List Ins) (v3 : Int) : Option (Stp Int (Stp Unit Int)) :=
  if decide (v3 < ((x_2.length : Int))) then
    (ix p0.Blocks v1).bind fun x_4 =>
    (ix x_4 v3).bind fun x_5 =>
    (r05_Ends x_5.Op).bind fun r6 =>
    if (!(r6 == (((IntKind.wrap .i64 (v3 + 1)) == ((x_2.length : Int)))))) then
      some (.stop (.stop (15)))
    else
      (r08_Shaped_l115 p0 v1 x_2 v3 x_5 0).bind fun
        | .next _ =>
          some (.next (IntKind.wrap .i64 (v3 + 1)))
        | .stop _ =>
          some (.stop (.stop (7)))
  else
    some (.stop (.next ()))
noncomputable def r08_Shaped_l116 (p0 : Fun) (v1 : Int) (x_2 : List Ins) (s : Int) : Option (Stp Unit Int) := runL (fun s => r08_Shaped_l116_b p0 v1 x_2 s) s
noncomputable def r08_Shaped_l117_b (p0 : Fun) (v1 : Int) : Option (Stp Int (Stp Unit (Int × Int))) :=
  if decide (v1 < ((p0.Blocks.length : Int))) then
    (ix p0.Blocks v1).bind fun x_2 =>
    (r08_Shaped_l116 p0 v1 x_2 0).bind fun
      | .next _ =>
        if (((x_2.length : Int)) == 0) then
          some (.stop (.stop ((15, v1))))
        else
          some (.next (IntKind.wrap .i64 (v1 + 1)))
      | .stop v11 =>
        some (.stop (.stop ((v11, v1))))
  else
    some (.stop (.next ()))
noncomputable def r08_Shaped_l117 (p0 : Fun) (s : Int) : Option (Stp Unit (Int × Int)) := runL (fun s => r08_Shaped_l117_b p0 s) s
noncomputable def r08_Shaped (p0 : Fun) : Option Err :=
  if (((p0.Blocks.length : Int)) == 0) then
    some (⟨15, 0⟩ : Err)
  else
    (r08_Shaped_l117 p0 0).bind fun
      | .next _ =>
        some (⟨0, 0⟩ : Err)
      | .stop ((v12, v13)) =>
        some (⟨v12, v13⟩ : Err)
noncomputable def l08_GraphShapes_j1 (p0 : Fun) : Option Bool :=
  (graph_Shaped p0).bind fun r2 =>
  (r08_Shaped p0).bind fun r3 =>
  if ((r2.Code == r3.Code) && (r2.At == r3.At)) then
    some true
  else
    some false
noncomputable def l08_GraphShapes (p0 : Fun) : Option Bool :=
  (r05_Size ((⟨[p0]⟩ : Prg)) 300).bind fun r1 =>
  if decide (300 < r1) then
    some true
  else
    (l08_GraphShapes_j1 p0).bind fun v4 =>
    some v4
noncomputable def l08_Light_l20_b (p0 : Fun) (v1 : Int) (v2 : Int) (x_3 : List Ins) (v4 : Int) : Option (Stp Int (Stp Unit Unit)) :=
  (ix p0.Blocks v2).bind fun x_5 =>
  if decide (v4 < ((x_5.length : Int))) then
    (ix x_5 v4).bind fun x_6 =>
    if ((decide (30 < ((x_6.To.length : Int)))) || (((decide (30 < ((x_6.Args.length : Int)))) || (decide (100 < ((x_6.Name.length : Int))))))) then
      some (.stop (.stop (())))
    else
      some (.next (IntKind.wrap .i64 (v4 + 1)))
  else
    some (.stop (.next ()))
noncomputable def l08_Light_l20 (p0 : Fun) (v1 : Int) (v2 : Int) (x_3 : List Ins) (s : Int) : Option (Stp Unit Unit) := runL (fun s => l08_Light_l20_b p0 v1 v2 x_3 s) s
noncomputable def l08_Light_l21_b (p0 : Fun) (v1 : Int) (v2 : Int) : Option (Stp (Int × Int) (Stp Unit Unit)) :=
  if decide (v2 < ((p0.Blocks.length : Int))) then
    (ix p0.Blocks v2).bind fun x_3 =>
    if decide (150 < (IntKind.wrap .i64 (v1 + ((x_3.length : Int))))) then
      some (.stop (.stop (())))
    else
      (l08_Light_l20 p0 v1 v2 x_3 0).bind fun
        | .next _ =>
          some (.next (IntKind.wrap .i64 (v1 + ((x_3.length : Int))), IntKind.wrap .i64 (v2 + 1)))
        | .stop _ =>
          some (.stop (.stop (())))
  else
    some (.stop (.next ()))
noncomputable def l08_Light_l21 (p0 : Fun) (s : Int × Int) : Option (Stp Unit Unit) := runL (fun s => l08_Light_l21_b p0 s.1 s.2) s
noncomputable def l08_Light (p0 : Fun) : Option Int :=
  if decide (24 < ((p0.Blocks.length : Int))) then
    some 1
  else
    (l08_Light_l21 p0 (0, 0)).bind fun
      | .next _ =>
        (r08_Shaped p0).bind fun r8 =>
        if (r8.Code != 0) then
          some 1
        else
          some 0
      | .stop _ =>
        some 1
noncomputable def slices_Index_intint_l1_b (p0 : List Int) (p1 : Int) (v1 : Int) : Option (Stp Int (Stp Unit Int)) :=
  if decide (v1 < ((p0.length : Int))) then
    (ix p0 v1).bind fun x_2 =>
    if (p1 == x_2) then
      some (.stop (.stop (v1)))
    else
      some (.next (IntKind.wrap .i64 (v1 + 1)))
  else
    some (.stop (.next ()))
noncomputable def slices_Index_intint_l1 (p0 : List Int) (p1 : Int) (s : Int) : Option (Stp Unit Int) := runL (fun s => slices_Index_intint_l1_b p0 p1 s) s
noncomputable def slices_Index_intint (p0 : List Int) (p1 : Int) : Option Int :=
  (slices_Index_intint_l1 p0 p1 0).bind fun
    | .next _ =>
      some (-1)
    | .stop v3 =>
      some v3
noncomputable def slices_Contains_intint (p0 : List Int) (p1 : Int) : Option Bool :=
  (slices_Index_intint p0 p1).bind fun r1 =>
  some (decide (0 ≤ r1))
noncomputable def graph_Succs_j19 (p0 : Fun) (v3 : Int) (x_4 : List Ins) (x_5 : Ins) (out6 : List (List Int)) (v7 : Int) (x_8 : Int) (r10 : Bool) : Option (List (List Int)) :=
  if (!r10) then
    (ix out6 v3).bind fun x_11 =>
    (app x_11 [x_8] 8).bind fun l_12 =>
    some (out6.set v3.toNat l_12)
  else
    some out6
noncomputable def graph_Succs_l20_b (p0 : Fun) (v3 : Int) (x_4 : List Ins) (x_5 : Ins) (out6 : List (List Int)) (v7 : Int) : Option (Stp (List (List Int) × Int) (List (List Int))) :=
  if decide (v7 < ((x_5.To.length : Int))) then
    (ix x_5.To v7).bind fun x_8 =>
    (ix out6 v3).bind fun x_9 =>
    (slices_Contains_intint x_9 x_8).bind fun r10 =>
    (graph_Succs_j19 p0 v3 x_4 x_5 out6 v7 x_8 r10).bind fun out13 =>
    some (.next (out13, IntKind.wrap .i64 (v7 + 1)))
  else
    some (.stop out6)
noncomputable def graph_Succs_l20 (p0 : Fun) (v3 : Int) (x_4 : List Ins) (x_5 : Ins) (s : List (List Int) × Int) : Option (List (List Int)) := runL (fun s => graph_Succs_l20_b p0 v3 x_4 x_5 s.1 s.2) s
noncomputable def graph_Succs_l21_b (p0 : Fun) (out2 : List (List Int)) (v3 : Int) : Option (Stp (List (List Int) × Int) (List (List Int))) :=
  if decide (v3 < ((p0.Blocks.length : Int))) then
    (ix p0.Blocks v3).bind fun x_4 =>
    (ix x_4 (IntKind.wrap .i64 (((x_4.length : Int)) - 1))).bind fun x_5 =>
    (graph_Succs_l20 p0 v3 x_4 x_5 (out2, 0)).bind fun out14 =>
    some (.next (out14, IntKind.wrap .i64 (v3 + 1)))
  else
    some (.stop out2)
noncomputable def graph_Succs_l21 (p0 : Fun) (s : List (List Int) × Int) : Option (List (List Int)) := runL (fun s => graph_Succs_l21_b p0 s.1 s.2) s
noncomputable def graph_Succs (p0 : Fun) : Option (List (List Int)) :=
  (mk ((p0.Blocks.length : Int)) 24 ([] : List Int)).bind fun l_1 =>
  (graph_Succs_l21 p0 (l_1, 0)).bind fun out15 =>
  some out15
noncomputable def r08_Has_l1_b (p0 : List Int) (p1 : Int) (i1 : Int) : Option (Stp Int (Stp Unit Unit)) :=
  if decide (i1 < ((p0.length : Int))) then
    (ix p0 i1).bind fun x_2 =>
    if (x_2 == p1) then
      some (.stop (.stop (())))
    else
      some (.next (IntKind.wrap .i64 (i1 + 1)))
  else
    some (.stop (.next ()))
noncomputable def r08_Has_l1 (p0 : List Int) (p1 : Int) (s : Int) : Option (Stp Unit Unit) := runL (fun s => r08_Has_l1_b p0 p1 s) s
noncomputable def r08_Has (p0 : List Int) (p1 : Int) : Option Bool :=
  (r08_Has_l1 p0 p1 0).bind fun
    | .next _ =>
      some false
    | .stop _ =>
      some true
noncomputable def r08_Next_j4 (x_2 : Ins) (out3 : List Int) (i4 : Int) (r6 : Bool) : Option (List Int) :=
  if (!r6) then
    (ix x_2.To i4).bind fun x_7 =>
    (app out3 [x_7] 8).bind fun l_8 =>
    some l_8
  else
    some out3
noncomputable def r08_Next_l5_b (x_2 : Ins) (out3 : List Int) (i4 : Int) : Option (Stp (List Int × Int) (List Int)) :=
  if decide (i4 < ((x_2.To.length : Int))) then
    (ix x_2.To i4).bind fun x_5 =>
    (r08_Has out3 x_5).bind fun r6 =>
    (r08_Next_j4 x_2 out3 i4 r6).bind fun out9 =>
    some (.next (out9, IntKind.wrap .i64 (i4 + 1)))
  else
    some (.stop out3)
noncomputable def r08_Next_l5 (x_2 : Ins) (s : List Int × Int) : Option (List Int) := runL (fun s => r08_Next_l5_b x_2 s.1 s.2) s
noncomputable def r08_Next (p0 : Fun) (p1 : Int) : Option (List Int) :=
  (ix p0.Blocks p1).bind fun x_1 =>
  (ix x_1 (IntKind.wrap .i64 (((x_1.length : Int)) - 1))).bind fun x_2 =>
  (r08_Next_l5 x_2 ([], 0)).bind fun out10 =>
  some out10
noncomputable def r08_Succs_l1_b (p0 : Fun) (out1 : List (List Int)) (k2 : Int) : Option (Stp (List (List Int) × Int) (List (List Int))) :=
  if decide (k2 < ((p0.Blocks.length : Int))) then
    (r08_Next p0 k2).bind fun r3 =>
    (app out1 [r3] 24).bind fun l_4 =>
    some (.next (l_4, IntKind.wrap .i64 (k2 + 1)))
  else
    some (.stop out1)
noncomputable def r08_Succs_l1 (p0 : Fun) (s : List (List Int) × Int) : Option (List (List Int)) := runL (fun s => r08_Succs_l1_b p0 s.1 s.2) s
noncomputable def r08_Succs (p0 : Fun) : Option (List (List Int)) :=
  (r08_Succs_l1 p0 ([], 0)).bind fun out5 =>
  some out5
noncomputable def r05_Ints_l1_b (p0 : List Int) (p1 : List Int) (i1 : Int) : Option (Stp Int (Stp Unit Unit)) :=
  if decide (i1 < ((p0.length : Int))) then
    (ix p0 i1).bind fun x_2 =>
    (ix p1 i1).bind fun x_3 =>
    if (x_2 != x_3) then
      some (.stop (.stop (())))
    else
      some (.next (IntKind.wrap .i64 (i1 + 1)))
  else
    some (.stop (.next ()))
noncomputable def r05_Ints_l1 (p0 : List Int) (p1 : List Int) (s : Int) : Option (Stp Unit Unit) := runL (fun s => r05_Ints_l1_b p0 p1 s) s
noncomputable def r05_Ints (p0 : List Int) (p1 : List Int) : Option Bool :=
  if (((p0.length : Int)) != ((p1.length : Int))) then
    some false
  else
    (r05_Ints_l1 p0 p1 0).bind fun
      | .next _ =>
        some true
      | .stop _ =>
        some false
noncomputable def r08_Lists_l1_b (p0 : List (List Int)) (p1 : List (List Int)) (i1 : Int) : Option (Stp Int (Stp Unit Unit)) :=
  if decide (i1 < ((p0.length : Int))) then
    (ix p0 i1).bind fun x_2 =>
    (ix p1 i1).bind fun x_3 =>
    (r05_Ints x_2 x_3).bind fun r4 =>
    if (!r4) then
      some (.stop (.stop (())))
    else
      some (.next (IntKind.wrap .i64 (i1 + 1)))
  else
    some (.stop (.next ()))
noncomputable def r08_Lists_l1 (p0 : List (List Int)) (p1 : List (List Int)) (s : Int) : Option (Stp Unit Unit) := runL (fun s => r08_Lists_l1_b p0 p1 s) s
noncomputable def r08_Lists (p0 : List (List Int)) (p1 : List (List Int)) : Option Bool :=
  if (((p0.length : Int)) != ((p1.length : Int))) then
    some false
  else
    (r08_Lists_l1 p0 p1 0).bind fun
      | .next _ =>
        some true
      | .stop _ =>
        some false
noncomputable def graph_Preds_l4_b (r2 : List (List Int)) (v4 : Int) (x_5 : List Int) (out6 : List (List Int)) (v7 : Int) : Option (Stp (List (List Int) × Int) (List (List Int))) :=
  if decide (v7 < ((x_5.length : Int))) then
    (ix x_5 v7).bind fun x_8 =>
    (ix out6 x_8).bind fun x_9 =>
    (app x_9 [v4] 8).bind fun l_10 =>
    some (.next (out6.set x_8.toNat l_10, IntKind.wrap .i64 (v7 + 1)))
  else
    some (.stop out6)
noncomputable def graph_Preds_l4 (r2 : List (List Int)) (v4 : Int) (x_5 : List Int) (s : List (List Int) × Int) : Option (List (List Int)) := runL (fun s => graph_Preds_l4_b r2 v4 x_5 s.1 s.2) s
noncomputable def graph_Preds_l5_b (r2 : List (List Int)) (out3 : List (List Int)) (v4 : Int) : Option (Stp (List (List Int) × Int) (List (List Int))) :=
  if decide (v4 < ((r2.length : Int))) then
    (ix r2 v4).bind fun x_5 =>
    (graph_Preds_l4 r2 v4 x_5 (out3, 0)).bind fun out11 =>
    some (.next (out11, IntKind.wrap .i64 (v4 + 1)))
  else
    some (.stop out3)
noncomputable def graph_Preds_l5 (r2 : List (List Int)) (s : List (List Int) × Int) : Option (List (List Int)) := runL (fun s => graph_Preds_l5_b r2 s.1 s.2) s
noncomputable def graph_Preds (p0 : Fun) : Option (List (List Int)) :=
  (mk ((p0.Blocks.length : Int)) 24 ([] : List Int)).bind fun l_1 =>
  (graph_Succs p0).bind fun r2 =>
  (graph_Preds_l5 r2 (l_1, 0)).bind fun out12 =>
  some out12
noncomputable def r08_Preds_j19 (p0 : Fun) (out1 : List (List Int)) (b2 : Int) (l3 : List Int) (k4 : Int) (r6 : Bool) : Option (List Int) :=
  if r6 then
    (app l3 [k4] 8).bind fun l_7 =>
    some l_7
  else
    some l3
noncomputable def r08_Preds_l20_b (p0 : Fun) (out1 : List (List Int)) (b2 : Int) (l3 : List Int) (k4 : Int) : Option (Stp (List Int × Int) (List Int)) :=
  if decide (k4 < ((p0.Blocks.length : Int))) then
    (r08_Next p0 k4).bind fun r5 =>
    (r08_Has r5 b2).bind fun r6 =>
    (r08_Preds_j19 p0 out1 b2 l3 k4 r6).bind fun l8 =>
    some (.next (l8, IntKind.wrap .i64 (k4 + 1)))
  else
    some (.stop l3)
noncomputable def r08_Preds_l20 (p0 : Fun) (out1 : List (List Int)) (b2 : Int) (s : List Int × Int) : Option (List Int) := runL (fun s => r08_Preds_l20_b p0 out1 b2 s.1 s.2) s
noncomputable def r08_Preds_l21_b (p0 : Fun) (out1 : List (List Int)) (b2 : Int) : Option (Stp (List (List Int) × Int) (List (List Int))) :=
  if decide (b2 < ((p0.Blocks.length : Int))) then
    (r08_Preds_l20 p0 out1 b2 ([], 0)).bind fun l9 =>
    (app out1 [l9] 24).bind fun l_10 =>
    some (.next (l_10, IntKind.wrap .i64 (b2 + 1)))
  else
    some (.stop out1)
noncomputable def r08_Preds_l21 (p0 : Fun) (s : List (List Int) × Int) : Option (List (List Int)) := runL (fun s => r08_Preds_l21_b p0 s.1 s.2) s
noncomputable def r08_Preds (p0 : Fun) : Option (List (List Int)) :=
  (r08_Preds_l21 p0 ([], 0)).bind fun out11 =>
  some out11
noncomputable def graph_walk_visit_s1_j4 (p0_0 : List (List Int)) (p1 : Int) (rec : (List (List Int)) → (List Bool) → (List Int) → Int → Option (List Bool × List Int)) (x_2 : List Int) (w3 : List Bool) (w4 : List Int) (v5 : Int) (x_6 : Int) (x_7 : Bool) : Option (List Bool × List Int) :=
  if (!x_7) then
    (rec p0_0 w3 w4 x_6).bind fun (r8a, r8b) =>
    some (r8a, r8b)
  else
    some (w3, w4)
noncomputable def graph_walk_visit_s1_l5_b (p0_0 : List (List Int)) (p1 : Int) (rec : (List (List Int)) → (List Bool) → (List Int) → Int → Option (List Bool × List Int)) (x_2 : List Int) (w3 : List Bool) (w4 : List Int) (v5 : Int) : Option (Stp (List Bool × List Int × Int) (List Bool × List Int)) :=
  if decide (v5 < ((x_2.length : Int))) then
    (ix x_2 v5).bind fun x_6 =>
    (ix w3 x_6).bind fun x_7 =>
    (graph_walk_visit_s1_j4 p0_0 p1 rec x_2 w3 w4 v5 x_6 x_7).bind fun (w9, w10) =>
    some (.next (w9, w10, IntKind.wrap .i64 (v5 + 1)))
  else
    some (.stop (w3, w4))
noncomputable def graph_walk_visit_s1_l5 (p0_0 : List (List Int)) (p1 : Int) (rec : (List (List Int)) → (List Bool) → (List Int) → Int → Option (List Bool × List Int)) (x_2 : List Int) (s : List Bool × List Int × Int) : Option (List Bool × List Int) := runL (fun s => graph_walk_visit_s1_l5_b p0_0 p1 rec x_2 s.1 s.2.1 s.2.2) s
noncomputable def graph_walk_visit_s1_r (rec : (List (List Int)) → (List Bool) → (List Int) → Int → Option (List Bool × List Int)) (p0_0 : List (List Int)) (p0_1 : List Bool) (p0_2 : List Int) (p1 : Int) : Option (List Bool × List Int) :=
  (ix p0_1 p1).bind fun x_1 =>
  (ix p0_0 p1).bind fun x_2 =>
  (graph_walk_visit_s1_l5 p0_0 p1 rec x_2 (p0_1.set p1.toNat true, p0_2, 0)).bind fun (w11, w12) =>
  (app w12 [p1] 8).bind fun l_13 =>
  some (w11, l_13)
noncomputable def graph_walk_visit_s1_n : Nat → (List (List Int)) → (List Bool) → (List Int) → Int → Option (List Bool × List Int)
  | 0 => fun _ _ _ _ => Option.none
  | n + 1 => fun p0_0 p0_1 p0_2 p1 => graph_walk_visit_s1_r (graph_walk_visit_s1_n n) p0_0 p0_1 p0_2 p1
noncomputable def graph_walk_visit_s1 (p0_0 : List (List Int)) (p0_1 : List Bool) (p0_2 : List Int) (p1 : Int) : Option (List Bool × List Int) := limO fun n => graph_walk_visit_s1_n n p0_0 p0_1 p0_2 p1
noncomputable def graph_Order (p0 : Fun) : Option (List Int) :=
  (graph_Succs p0).bind fun r1 =>
  (mk ((p0.Blocks.length : Int)) 1 false).bind fun l_2 =>
  (graph_walk_visit_s1 r1 l_2 [] 0).bind fun (r3a, r3b) =>
  (rev r3b).bind fun l_4 =>
  some l_4
noncomputable def r08_post_j9 (p0 : Fun) (p1 : Int) (r3 : List Int) (path4 : List Int) (path4b : Bool) (out5 : List Int) (i6 : Int) : Option (List Int × Bool × Bool) :=
  (ix r3 i6).bind fun x_7 =>
  (r08_Has out5 x_7).bind fun r8 =>
  if (!r8) then
    if path4b then
      (r08_Has path4 x_7).bind fun r9 =>
      some (path4, true, (!r9))
    else
      (r08_Has path4 x_7).bind fun r10 =>
      some (path4, false, (!r10))
  else
    some (path4, path4b, false)
noncomputable def r08_post_j11 (p0 : Fun) (p1 : Int) (rec : Fun → Int → (List Int) → (List Int) → Option (List Int)) (r3 : List Int) (out5 : List Int) (i6 : Int) (path11 : List Int) (path11b : Bool) (v12 : Bool) : Option (List Int × Bool × List Int) :=
  (ix r3 i6).bind fun x_13 =>
  if path11b then
    (rec p0 x_13 out5 path11).bind fun r14 =>
    some (path11, true, r14)
  else
    (rec p0 x_13 out5 path11).bind fun r15 =>
    some (path11, (!path11.isEmpty), r15)
noncomputable def r08_post_j12 (p0 : Fun) (p1 : Int) (rec : Fun → Int → (List Int) → (List Int) → Option (List Int)) (r3 : List Int) (out5 : List Int) (i6 : Int) (path11 : List Int) (path11b : Bool) (v12 : Bool) : Option (List Int × Bool × List Int) :=
  if v12 then
    (r08_post_j11 p0 p1 rec r3 out5 i6 path11 path11b v12).bind fun (path16, path16b, out17) =>
    some (path16, path16b, out17)
  else
    some (path11, path11b, out5)
noncomputable def r08_post_l13_b (p0 : Fun) (p1 : Int) (rec : Fun → Int → (List Int) → (List Int) → Option (List Int)) (r3 : List Int) (path4 : List Int) (path4b : Bool) (out5 : List Int) (i6 : Int) : Option (Stp (List Int × Bool × List Int × Int) (List Int)) :=
  if decide (i6 < ((r3.length : Int))) then
    (r08_post_j9 p0 p1 r3 path4 path4b out5 i6).bind fun (path11, path11b, v12) =>
    (r08_post_j12 p0 p1 rec r3 out5 i6 path11 path11b v12).bind fun (path18, path18b, out19) =>
    some (.next (path18, path18b, out19, IntKind.wrap .i64 (i6 + 1)))
  else
    some (.stop out5)
noncomputable def r08_post_l13 (p0 : Fun) (p1 : Int) (rec : Fun → Int → (List Int) → (List Int) → Option (List Int)) (r3 : List Int) (s : List Int × Bool × List Int × Int) : Option (List Int) := runL (fun s => r08_post_l13_b p0 p1 rec r3 s.1 s.2.1 s.2.2.1 s.2.2.2) s
noncomputable def r08_post_r (rec : Fun → Int → (List Int) → (List Int) → Option (List Int)) (p0 : Fun) (p1 : Int) (p2 : List Int) (p3 : List Int) : Option (List Int) :=
  (app ([] : List Int) p3 8).bind fun l_1 =>
  (app l_1 [p1] 8).bind fun l_2 =>
  (r08_Next p0 p1).bind fun r3 =>
  (r08_post_l13 p0 p1 rec r3 (l_2, false, p2, 0)).bind fun out20 =>
  (app ([] : List Int) out20 8).bind fun l_21 =>
  (app l_21 [p1] 8).bind fun l_22 =>
  some l_22
noncomputable def r08_post_n : Nat → Fun → Int → (List Int) → (List Int) → Option (List Int)
  | 0 => fun _ _ _ _ => Option.none
  | n + 1 => fun p0 p1 p2 p3 => r08_post_r (r08_post_n n) p0 p1 p2 p3
noncomputable def r08_post (p0 : Fun) (p1 : Int) (p2 : List Int) (p3 : List Int) : Option (List Int) := limO fun n => r08_post_n n p0 p1 p2 p3
noncomputable def r08_Order_l1_b (r1 : List Int) (out2 : List Int) (i3 : Int) : Option (Stp (List Int × Int) (List Int)) :=
  if decide (0 ≤ i3) then
    (ix r1 i3).bind fun x_4 =>
    (app out2 [x_4] 8).bind fun l_5 =>
    some (.next (l_5, IntKind.wrap .i64 (i3 - 1)))
  else
    some (.stop out2)
noncomputable def r08_Order_l1 (r1 : List Int) (s : List Int × Int) : Option (List Int) := runL (fun s => r08_Order_l1_b r1 s.1 s.2) s
noncomputable def r08_Order (p0 : Fun) : Option (List Int) :=
  (r08_post p0 0 [] []).bind fun r1 =>
  (r08_Order_l1 r1 ([], IntKind.wrap .i64 (((r1.length : Int)) - 1))).bind fun out6 =>
  some out6
noncomputable def graph_Places_l1_b (p0 : Fun) (l_1 : List Int) (out2 : List Int) (v3 : Int) : Option (Stp (List Int × Int) (List Int)) :=
  if decide (v3 < ((l_1.length : Int))) then
    (ix out2 v3).bind fun x_4 =>
    some (.next (out2.set v3.toNat ((-1)), IntKind.wrap .i64 (v3 + 1)))
  else
    some (.stop out2)
noncomputable def graph_Places_l1 (p0 : Fun) (l_1 : List Int) (s : List Int × Int) : Option (List Int) := runL (fun s => graph_Places_l1_b p0 l_1 s.1 s.2) s
noncomputable def graph_Places_l2_b (r6 : List Int) (out7 : List Int) (v8 : Int) : Option (Stp (List Int × Int) (List Int)) :=
  if decide (v8 < ((r6.length : Int))) then
    (ix r6 v8).bind fun x_9 =>
    (ix out7 x_9).bind fun x_10 =>
    some (.next (out7.set x_9.toNat v8, IntKind.wrap .i64 (v8 + 1)))
  else
    some (.stop out7)
noncomputable def graph_Places_l2 (r6 : List Int) (s : List Int × Int) : Option (List Int) := runL (fun s => graph_Places_l2_b r6 s.1 s.2) s
noncomputable def graph_Places (p0 : Fun) : Option (List Int) :=
  (mk ((p0.Blocks.length : Int)) 8 0).bind fun l_1 =>
  (graph_Places_l1 p0 l_1 (l_1, 0)).bind fun out5 =>
  (graph_Order p0).bind fun r6 =>
  (graph_Places_l2 r6 (out5, 0)).bind fun out11 =>
  some out11
noncomputable def r08_Place_l1_b (p0 : List Int) (p1 : Int) (i1 : Int) : Option (Stp Int (Stp Unit Int)) :=
  if decide (i1 < ((p0.length : Int))) then
    (ix p0 i1).bind fun x_2 =>
    if (x_2 == p1) then
      some (.stop (.stop (i1)))
    else
      some (.next (IntKind.wrap .i64 (i1 + 1)))
  else
    some (.stop (.next ()))
noncomputable def r08_Place_l1 (p0 : List Int) (p1 : Int) (s : Int) : Option (Stp Unit Int) := runL (fun s => r08_Place_l1_b p0 p1 s) s
noncomputable def r08_Place (p0 : List Int) (p1 : Int) : Option Int :=
  (r08_Place_l1 p0 p1 0).bind fun
    | .next _ =>
      some (-1)
    | .stop v3 =>
      some v3
noncomputable def r08_Places_l1_b (p0 : Fun) (r1 : List Int) (out2 : List Int) (k3 : Int) : Option (Stp (List Int × Int) (List Int)) :=
  if decide (k3 < ((p0.Blocks.length : Int))) then
    (r08_Place r1 k3).bind fun r4 =>
    (app out2 [r4] 8).bind fun l_5 =>
    some (.next (l_5, IntKind.wrap .i64 (k3 + 1)))
  else
    some (.stop out2)
noncomputable def r08_Places_l1 (p0 : Fun) (r1 : List Int) (s : List Int × Int) : Option (List Int) := runL (fun s => r08_Places_l1_b p0 r1 s.1 s.2) s
noncomputable def r08_Places (p0 : Fun) : Option (List Int) :=
  (r08_Order p0).bind fun r1 =>
  (r08_Places_l1 p0 r1 ([], 0)).bind fun out6 =>
  some out6
noncomputable def graph_Backs_j34 (r1 : List Int) (r2 : List (List Int)) (v4 : Int) (x_5 : List Int) (out6 : List A2_Int) (v7 : Int) (x_8 : Int) : Option Bool :=
  (ix r1 v4).bind fun x_9 =>
  if decide (0 ≤ x_9) then
    (ix r1 x_8).bind fun x_10 =>
    some (decide (x_10 ≤ x_9))
  else
    some false
noncomputable def graph_Backs_j35 (r1 : List Int) (r2 : List (List Int)) (v4 : Int) (x_5 : List Int) (out6 : List A2_Int) (v7 : Int) (x_8 : Int) (v11 : Bool) : Option (List A2_Int) :=
  if v11 then
    (app out6 [(⟨v4, x_8⟩ : A2_Int)] 16).bind fun l_12 =>
    some l_12
  else
    some out6
noncomputable def graph_Backs_l36_b (r1 : List Int) (r2 : List (List Int)) (v4 : Int) (x_5 : List Int) (out6 : List A2_Int) (v7 : Int) : Option (Stp (List A2_Int × Int) (List A2_Int)) :=
  if decide (v7 < ((x_5.length : Int))) then
    (ix x_5 v7).bind fun x_8 =>
    (graph_Backs_j34 r1 r2 v4 x_5 out6 v7 x_8).bind fun v11 =>
    (graph_Backs_j35 r1 r2 v4 x_5 out6 v7 x_8 v11).bind fun out13 =>
    some (.next (out13, IntKind.wrap .i64 (v7 + 1)))
  else
    some (.stop out6)
noncomputable def graph_Backs_l36 (r1 : List Int) (r2 : List (List Int)) (v4 : Int) (x_5 : List Int) (s : List A2_Int × Int) : Option (List A2_Int) := runL (fun s => graph_Backs_l36_b r1 r2 v4 x_5 s.1 s.2) s
noncomputable def graph_Backs_l37_b (r1 : List Int) (r2 : List (List Int)) (out3 : List A2_Int) (v4 : Int) : Option (Stp (List A2_Int × Int) (List A2_Int)) :=
  if decide (v4 < ((r2.length : Int))) then
    (ix r2 v4).bind fun x_5 =>
    (graph_Backs_l36 r1 r2 v4 x_5 (out3, 0)).bind fun out14 =>
    some (.next (out14, IntKind.wrap .i64 (v4 + 1)))
  else
    some (.stop out3)
noncomputable def graph_Backs_l37 (r1 : List Int) (r2 : List (List Int)) (s : List A2_Int × Int) : Option (List A2_Int) := runL (fun s => graph_Backs_l37_b r1 r2 s.1 s.2) s
noncomputable def graph_Backs (p0 : Fun) : Option (List A2_Int) :=
  (graph_Places p0).bind fun r1 =>
  (graph_Succs p0).bind fun r2 =>
  (graph_Backs_l37 r1 r2 ([], 0)).bind fun out15 =>
  some out15
noncomputable def r08_Backs_j25 (p0 : Fun) (r1 : List Int) (k3 : Int) (r4 : List Int) (out5 : List A2_Int) (i6 : Int) : Option Bool :=
  if decide (i6 < ((r4.length : Int))) then
    (ix r1 k3).bind fun x_7 =>
    some (decide (0 ≤ x_7))
  else
    some false
noncomputable def r08_Backs_j27 (p0 : Fun) (r1 : List Int) (k3 : Int) (r4 : List Int) (out5 : List A2_Int) (i6 : Int) (x_10 : Int) (x_11 : Int) : Option (List A2_Int) :=
  if decide (x_10 ≤ x_11) then
    (ix r4 i6).bind fun x_12 =>
    (app out5 [(⟨k3, x_12⟩ : A2_Int)] 16).bind fun l_13 =>
    some l_13
  else
    some out5
noncomputable def r08_Backs_l28_b (p0 : Fun) (r1 : List Int) (k3 : Int) (r4 : List Int) (out5 : List A2_Int) (i6 : Int) : Option (Stp (List A2_Int × Int) (List A2_Int)) :=
  (r08_Backs_j25 p0 r1 k3 r4 out5 i6).bind fun v8 =>
  if v8 then
    (ix r4 i6).bind fun x_9 =>
    (ix r1 x_9).bind fun x_10 =>
    (ix r1 k3).bind fun x_11 =>
    (r08_Backs_j27 p0 r1 k3 r4 out5 i6 x_10 x_11).bind fun out14 =>
    some (.next (out14, IntKind.wrap .i64 (i6 + 1)))
  else
    some (.stop out5)
noncomputable def r08_Backs_l28 (p0 : Fun) (r1 : List Int) (k3 : Int) (r4 : List Int) (s : List A2_Int × Int) : Option (List A2_Int) := runL (fun s => r08_Backs_l28_b p0 r1 k3 r4 s.1 s.2) s
noncomputable def r08_Backs_l29_b (p0 : Fun) (r1 : List Int) (out2 : List A2_Int) (k3 : Int) : Option (Stp (List A2_Int × Int) (List A2_Int)) :=
  if decide (k3 < ((p0.Blocks.length : Int))) then
    (r08_Next p0 k3).bind fun r4 =>
    (r08_Backs_l28 p0 r1 k3 r4 (out2, 0)).bind fun out15 =>
    some (.next (out15, IntKind.wrap .i64 (k3 + 1)))
  else
    some (.stop out2)
noncomputable def r08_Backs_l29 (p0 : Fun) (r1 : List Int) (s : List A2_Int × Int) : Option (List A2_Int) := runL (fun s => r08_Backs_l29_b p0 r1 s.1 s.2) s
noncomputable def r08_Backs (p0 : Fun) : Option (List A2_Int) :=
  (r08_Places p0).bind fun r1 =>
  (r08_Backs_l29 p0 r1 ([], 0)).bind fun out16 =>
  some out16
noncomputable def l08_GraphFollows_j1 (p0 : Fun) : Option Bool :=
  (graph_Succs p0).bind fun r2 =>
  (r08_Succs p0).bind fun r3 =>
  (r08_Lists r2 r3).bind fun r4 =>
  if (!r4) then
    some true
  else
    (graph_Preds p0).bind fun r5 =>
    (r08_Preds p0).bind fun r6 =>
    (r08_Lists r5 r6).bind fun r7 =>
    if (!r7) then
      some true
    else
      (graph_Order p0).bind fun r8 =>
      (r08_Order p0).bind fun r9 =>
      (r05_Ints r8 r9).bind fun r10 =>
      if (!r10) then
        some true
      else
        (graph_Places p0).bind fun r11 =>
        (r08_Places p0).bind fun r12 =>
        (r05_Ints r11 r12).bind fun r13 =>
        some (!r13)
noncomputable def l08_GraphFollows_l2_b (r15 : List A2_Int) (r16 : List A2_Int) (v17 : Int) : Option (Stp Int (Stp Unit Unit)) :=
  if decide (v17 < ((r15.length : Int))) then
    (ix r15 v17).bind fun x_18 =>
    (ix r16 v17).bind fun x_19 =>
    if (!((x_18.a0 == x_19.a0) && (x_18.a1 == x_19.a1))) then
      some (.stop (.stop (())))
    else
      some (.next (IntKind.wrap .i64 (v17 + 1)))
  else
    some (.stop (.next ()))
noncomputable def l08_GraphFollows_l2 (r15 : List A2_Int) (r16 : List A2_Int) (s : Int) : Option (Stp Unit Unit) := runL (fun s => l08_GraphFollows_l2_b r15 r16 s) s
noncomputable def l08_GraphFollows (p0 : Fun) : Option Bool :=
  (l08_Light p0).bind fun r1 =>
  if decide (0 < r1) then
    some true
  else
    (l08_GraphFollows_j1 p0).bind fun v14 =>
    if v14 then
      some false
    else
      (graph_Backs p0).bind fun r15 =>
      (r08_Backs p0).bind fun r16 =>
      if (((r15.length : Int)) != ((r16.length : Int))) then
        some false
      else
        (l08_GraphFollows_l2 r15 r16 0).bind fun
          | .next _ =>
            some true
          | .stop _ =>
            some false
noncomputable def graph_Reached_j7 (p0 : List (List Int)) (p1 : List Int) (p2 : Int) (v2 : List Bool) (v3 : List Int) (v4 : Int) (x_5 : Int) : Option Bool :=
  if (x_5 != p2) then
    (ix v2 x_5).bind fun x_6 =>
    some (!x_6)
  else
    some false
noncomputable def graph_Reached_j8 (p0 : List (List Int)) (p1 : List Int) (p2 : Int) (v2 : List Bool) (v3 : List Int) (v4 : Int) (x_5 : Int) (v7 : Bool) : Option (List Bool × List Int) :=
  if v7 then
    (ix v2 x_5).bind fun x_8 =>
    (app v3 [x_5] 8).bind fun l_9 =>
    some (v2.set x_5.toNat true, l_9)
  else
    some (v2, v3)
noncomputable def graph_Reached_l9_b (p0 : List (List Int)) (p1 : List Int) (p2 : Int) (v2 : List Bool) (v3 : List Int) (v4 : Int) : Option (Stp (List Bool × List Int × Int) (List Bool × List Int)) :=
  if decide (v4 < ((p1.length : Int))) then
    (ix p1 v4).bind fun x_5 =>
    (graph_Reached_j7 p0 p1 p2 v2 v3 v4 x_5).bind fun v7 =>
    (graph_Reached_j8 p0 p1 p2 v2 v3 v4 x_5 v7).bind fun (v10, v11) =>
    some (.next (v10, v11, IntKind.wrap .i64 (v4 + 1)))
  else
    some (.stop (v2, v3))
noncomputable def graph_Reached_l9 (p0 : List (List Int)) (p1 : List Int) (p2 : Int) (s : List Bool × List Int × Int) : Option (List Bool × List Int) := runL (fun s => graph_Reached_l9_b p0 p1 p2 s.1 s.2.1 s.2.2) s
noncomputable def graph_Reached_j154 (p0 : List (List Int)) (p2 : Int) (v15 : List Int) (v16 : Int) (v19 : Int) (x_21 : List Int) (v22 : List Bool) (v23 : List Int) (v24 : Int) (x_25 : Int) : Option Bool :=
  if (x_25 != p2) then
    (ix v22 x_25).bind fun x_26 =>
    some (!x_26)
  else
    some false
noncomputable def graph_Reached_j155 (p0 : List (List Int)) (p2 : Int) (v15 : List Int) (v16 : Int) (v19 : Int) (x_21 : List Int) (v22 : List Bool) (v23 : List Int) (v24 : Int) (x_25 : Int) (v27 : Bool) : Option (List Bool × List Int) :=
  if v27 then
    (ix v22 x_25).bind fun x_28 =>
    (app v23 [x_25] 8).bind fun l_29 =>
    some (v22.set x_25.toNat true, l_29)
  else
    some (v22, v23)
noncomputable def graph_Reached_l156_b (p0 : List (List Int)) (p2 : Int) (v15 : List Int) (v16 : Int) (v19 : Int) (x_21 : List Int) (v22 : List Bool) (v23 : List Int) (v24 : Int) : Option (Stp (List Bool × List Int × Int) (List Bool × List Int)) :=
  if decide (v24 < ((x_21.length : Int))) then
    (ix x_21 v24).bind fun x_25 =>
    (graph_Reached_j154 p0 p2 v15 v16 v19 x_21 v22 v23 v24 x_25).bind fun v27 =>
    (graph_Reached_j155 p0 p2 v15 v16 v19 x_21 v22 v23 v24 x_25 v27).bind fun (v30, v31) =>
    some (.next (v30, v31, IntKind.wrap .i64 (v24 + 1)))
  else
    some (.stop (v22, v23))
noncomputable def graph_Reached_l156 (p0 : List (List Int)) (p2 : Int) (v15 : List Int) (v16 : Int) (v19 : Int) (x_21 : List Int) (s : List Bool × List Int × Int) : Option (List Bool × List Int) := runL (fun s => graph_Reached_l156_b p0 p2 v15 v16 v19 x_21 s.1 s.2.1 s.2.2) s
noncomputable def graph_Reached_l157_b (p0 : List (List Int)) (p2 : Int) (v15 : List Int) (v16 : Int) (v17 : List Bool) (v18 : List Int) (v19 : Int) : Option (Stp (List Bool × List Int × Int) (List Bool × List Int)) :=
  if decide (v19 < ((v15.length : Int))) then
    (ix v15 v19).bind fun x_20 =>
    (ix p0 x_20).bind fun x_21 =>
    (graph_Reached_l156 p0 p2 v15 v16 v19 x_21 (v17, v18, 0)).bind fun (v32, v33) =>
    some (.next (v32, v33, IntKind.wrap .i64 (v19 + 1)))
  else
    some (.stop (v17, v18))
noncomputable def graph_Reached_l157 (p0 : List (List Int)) (p2 : Int) (v15 : List Int) (v16 : Int) (s : List Bool × List Int × Int) : Option (List Bool × List Int) := runL (fun s => graph_Reached_l157_b p0 p2 v15 v16 s.1 s.2.1 s.2.2) s
noncomputable def graph_Reached_l158_b (p0 : List (List Int)) (p2 : Int) (v14 : List Bool) (v15 : List Int) (v16 : Int) : Option (Stp (List Bool × List Int × Int) (List Bool)) :=
  if decide (v16 < ((p0.length : Int))) then
    if (((v15.length : Int)) == 0) then
      some (.stop v14)
    else
      (graph_Reached_l157 p0 p2 v15 v16 (v14, [], 0)).bind fun (v34, v35) =>
      some (.next (v34, v35, IntKind.wrap .i64 (v16 + 1)))
  else
    some (.stop v14)
noncomputable def graph_Reached_l158 (p0 : List (List Int)) (p2 : Int) (s : List Bool × List Int × Int) : Option (List Bool) := runL (fun s => graph_Reached_l158_b p0 p2 s.1 s.2.1 s.2.2) s
noncomputable def graph_Reached (p0 : List (List Int)) (p1 : List Int) (p2 : Int) : Option (List Bool) :=
  (mk ((p0.length : Int)) 1 false).bind fun l_1 =>
  (graph_Reached_l9 p0 p1 p2 (l_1, [], 0)).bind fun (v12, v13) =>
  (graph_Reached_l158 p0 p2 (v12, v13, 0)).bind fun v36 =>
  some v36
noncomputable def r08_Path_j7 (p0 : List (List Int)) (p1 : List Int) (p2 : Int) (p3 : Int) (v1 : List Int) (v2 : Int) : Option Bool :=
  (ix p1 v2).bind fun x_3 =>
  if (x_3 != p3) then
    (r08_Has v1 x_3).bind fun r4 =>
    some (!r4)
  else
    some false
noncomputable def r08_Path_j8 (p0 : List (List Int)) (p1 : List Int) (p2 : Int) (p3 : Int) (v1 : List Int) (v2 : Int) (v5 : Bool) : Option (List Int) :=
  if v5 then
    (ix p1 v2).bind fun x_6 =>
    (app v1 [x_6] 8).bind fun l_7 =>
    some l_7
  else
    some v1
noncomputable def r08_Path_l9_b (p0 : List (List Int)) (p1 : List Int) (p2 : Int) (p3 : Int) (v1 : List Int) (v2 : Int) : Option (Stp (List Int × Int) (List Int)) :=
  if decide (v2 < ((p1.length : Int))) then
    (r08_Path_j7 p0 p1 p2 p3 v1 v2).bind fun v5 =>
    (r08_Path_j8 p0 p1 p2 p3 v1 v2 v5).bind fun v8 =>
    some (.next (v8, IntKind.wrap .i64 (v2 + 1)))
  else
    some (.stop v1)
noncomputable def r08_Path_l9 (p0 : List (List Int)) (p1 : List Int) (p2 : Int) (p3 : Int) (s : List Int × Int) : Option (List Int) := runL (fun s => r08_Path_l9_b p0 p1 p2 p3 s.1 s.2) s
noncomputable def r08_Path_j43 (p0 : List (List Int)) (p2 : Int) (p3 : Int) (v11 : Int) (x_13 : List Int) (v14 : List Int) (v15 : Int) : Option Bool :=
  (ix x_13 v15).bind fun x_16 =>
  if (x_16 != p3) then
    (r08_Has v14 x_16).bind fun r17 =>
    some (!r17)
  else
    some false
noncomputable def r08_Path_j44 (p0 : List (List Int)) (p2 : Int) (p3 : Int) (v11 : Int) (x_13 : List Int) (v14 : List Int) (v15 : Int) (v18 : Bool) : Option (List Int) :=
  if v18 then
    (ix x_13 v15).bind fun x_19 =>
    (app v14 [x_19] 8).bind fun l_20 =>
    some l_20
  else
    some v14
noncomputable def r08_Path_l45_b (p0 : List (List Int)) (p2 : Int) (p3 : Int) (v11 : Int) (x_13 : List Int) (v14 : List Int) (v15 : Int) : Option (Stp (List Int × Int) (List Int)) :=
  if decide (v15 < ((x_13.length : Int))) then
    (r08_Path_j43 p0 p2 p3 v11 x_13 v14 v15).bind fun v18 =>
    (r08_Path_j44 p0 p2 p3 v11 x_13 v14 v15 v18).bind fun v21 =>
    some (.next (v21, IntKind.wrap .i64 (v15 + 1)))
  else
    some (.stop v14)
noncomputable def r08_Path_l45 (p0 : List (List Int)) (p2 : Int) (p3 : Int) (v11 : Int) (x_13 : List Int) (s : List Int × Int) : Option (List Int) := runL (fun s => r08_Path_l45_b p0 p2 p3 v11 x_13 s.1 s.2) s
noncomputable def r08_Path_l46_b (p0 : List (List Int)) (p2 : Int) (p3 : Int) (v10 : List Int) (v11 : Int) : Option (Stp (List Int × Int) (List Int)) :=
  if decide (v11 < ((v10.length : Int))) then
    (ix v10 v11).bind fun x_12 =>
    (ix p0 x_12).bind fun x_13 =>
    (r08_Path_l45 p0 p2 p3 v11 x_13 (v10, 0)).bind fun v22 =>
    some (.next (v22, IntKind.wrap .i64 (v11 + 1)))
  else
    some (.stop v10)
noncomputable def r08_Path_l46 (p0 : List (List Int)) (p2 : Int) (p3 : Int) (s : List Int × Int) : Option (List Int) := runL (fun s => r08_Path_l46_b p0 p2 p3 s.1 s.2) s
noncomputable def r08_Path (p0 : List (List Int)) (p1 : List Int) (p2 : Int) (p3 : Int) : Option Bool :=
  (r08_Path_l9 p0 p1 p2 p3 ([], 0)).bind fun v9 =>
  (r08_Path_l46 p0 p2 p3 (v9, 0)).bind fun v23 =>
  (r08_Has v23 p2).bind fun r24 =>
  some r24
noncomputable def l08_GraphReaches_j1 (p0 : Fun) (p1 : List Int) (p2 : Int) : Option Bool :=
  (l08_Light p0).bind fun r1 =>
  if decide (0 < r1) then
    some true
  else
    some (decide (20 < ((p1.length : Int))))
noncomputable def l08_GraphReaches_l2_b (p0 : Fun) (p1 : List Int) (p2 : Int) (v3 : List Int) (v4 : Int) : Option (Stp (List Int × Int) (List Int)) :=
  if decide (v4 < ((p1.length : Int))) then
    (ix p1 v4).bind fun x_5 =>
    if decide (((p0.Blocks.length : Int)) = 0) then
      Option.none
    else
      (app v3 [Int.tmod (IntKind.wrap .i64 x_5) ((p0.Blocks.length : Int))] 8).bind fun l_6 =>
      some (.next (l_6, IntKind.wrap .i64 (v4 + 1)))
  else
    some (.stop v3)
noncomputable def l08_GraphReaches_l2 (p0 : Fun) (p1 : List Int) (p2 : Int) (s : List Int × Int) : Option (List Int) := runL (fun s => l08_GraphReaches_l2_b p0 p1 p2 s.1 s.2) s
noncomputable def l08_GraphReaches_j6 (p0 : Fun) (p2 : Int) (r9 : List Bool) (v10 : List Int) (v10b : Bool) (v11 : Int) : Option (List Int × Bool × Bool) :=
  (ix r9 v11).bind fun x_12 =>
  (r08_Succs p0).bind fun r13 =>
  if v10b then
    (r08_Path r13 v10 v11 p2).bind fun r14 =>
    some (v10, true, (!(x_12 == r14)))
  else
    (r08_Path r13 v10 v11 p2).bind fun r15 =>
    some (v10, false, (!(x_12 == r15)))
noncomputable def l08_GraphReaches_l7_b (p0 : Fun) (p2 : Int) (r9 : List Bool) (v10 : List Int) (v10b : Bool) (v11 : Int) : Option (Stp (List Int × Bool × Int) (Stp Unit Unit)) :=
  if decide (v11 < ((r9.length : Int))) then
    (l08_GraphReaches_j6 p0 p2 r9 v10 v10b v11).bind fun (v16, v16b, v17) =>
    if v17 then
      some (.stop (.stop (())))
    else
      some (.next (v16, v16b, IntKind.wrap .i64 (v11 + 1)))
  else
    some (.stop (.next ()))
noncomputable def l08_GraphReaches_l7 (p0 : Fun) (p2 : Int) (r9 : List Bool) (s : List Int × Bool × Int) : Option (Stp Unit Unit) := runL (fun s => l08_GraphReaches_l7_b p0 p2 r9 s.1 s.2.1 s.2.2) s
noncomputable def l08_GraphReaches (p0 : Fun) (p1 : List Int) (p2 : Int) : Option Bool :=
  (l08_GraphReaches_j1 p0 p1 p2).bind fun v2 =>
  if v2 then
    some true
  else
    (l08_GraphReaches_l2 p0 p1 p2 ([], 0)).bind fun v7 =>
    (graph_Succs p0).bind fun r8 =>
    (graph_Reached r8 v7 p2).bind fun r9 =>
    if (((r9.length : Int)) != ((p0.Blocks.length : Int))) then
      some false
    else
      (l08_GraphReaches_l7 p0 p2 r9 (v7, (!v7.isEmpty), 0)).bind fun
        | .next _ =>
          some true
        | .stop _ =>
          some false
noncomputable def l08_GraphRounds_j65 (p0 : Fun) (r2 : List Int) (r3 : List A2_Int) (v4 : Int) (r5 : List Int) (v6 : Int) (v7 : Bool) (v8 : Int) : Option Bool :=
  if v7 then
    some true
  else
    (ix r3 v8).bind fun x_9 =>
    (ix r5 v6).bind fun x_10 =>
    some ((x_9.a0 == v4) && (x_9.a1 == x_10))
noncomputable def l08_GraphRounds_l66_b (p0 : Fun) (r2 : List Int) (r3 : List A2_Int) (v4 : Int) (r5 : List Int) (v6 : Int) (v7 : Bool) (v8 : Int) : Option (Stp (Bool × Int) Bool) :=
  if decide (v8 < ((r3.length : Int))) then
    (l08_GraphRounds_j65 p0 r2 r3 v4 r5 v6 v7 v8).bind fun v11 =>
    some (.next (v11, IntKind.wrap .i64 (v8 + 1)))
  else
    some (.stop v7)
noncomputable def l08_GraphRounds_l66 (p0 : Fun) (r2 : List Int) (r3 : List A2_Int) (v4 : Int) (r5 : List Int) (v6 : Int) (s : Bool × Int) : Option Bool := runL (fun s => l08_GraphRounds_l66_b p0 r2 r3 v4 r5 v6 s.1 s.2) s
noncomputable def l08_GraphRounds_j67 (p0 : Fun) (r2 : List Int) (r3 : List A2_Int) (v4 : Int) (r5 : List Int) (v6 : Int) (v12 : Bool) : Option Bool :=
  (ix r2 v4).bind fun x_13 =>
  if decide (0 ≤ x_13) then
    if (!v12) then
      (ix r5 v6).bind fun x_14 =>
      (ix r2 x_14).bind fun x_15 =>
      some (decide (x_15 ≤ x_13))
    else
      some false
  else
    some false
noncomputable def l08_GraphRounds_l68_b (p0 : Fun) (r2 : List Int) (r3 : List A2_Int) (v4 : Int) (r5 : List Int) (v6 : Int) : Option (Stp Int (Stp Unit Unit)) :=
  if decide (v6 < ((r5.length : Int))) then
    (l08_GraphRounds_l66 p0 r2 r3 v4 r5 v6 (false, 0)).bind fun v12 =>
    (l08_GraphRounds_j67 p0 r2 r3 v4 r5 v6 v12).bind fun v16 =>
    if v16 then
      some (.stop (.stop (())))
    else
      some (.next (IntKind.wrap .i64 (v6 + 1)))
  else
    some (.stop (.next ()))
noncomputable def l08_GraphRounds_l68 (p0 : Fun) (r2 : List Int) (r3 : List A2_Int) (v4 : Int) (r5 : List Int) (s : Int) : Option (Stp Unit Unit) := runL (fun s => l08_GraphRounds_l68_b p0 r2 r3 v4 r5 s) s
noncomputable def l08_GraphRounds_l69_b (p0 : Fun) (r2 : List Int) (r3 : List A2_Int) (v4 : Int) : Option (Stp Int (Stp Unit Unit)) :=
  if decide (v4 < ((p0.Blocks.length : Int))) then
    (r08_Next p0 v4).bind fun r5 =>
    (l08_GraphRounds_l68 p0 r2 r3 v4 r5 0).bind fun
      | .next _ =>
        some (.next (IntKind.wrap .i64 (v4 + 1)))
      | .stop _ =>
        some (.stop (.stop (())))
  else
    some (.stop (.next ()))
noncomputable def l08_GraphRounds_l69 (p0 : Fun) (r2 : List Int) (r3 : List A2_Int) (s : Int) : Option (Stp Unit Unit) := runL (fun s => l08_GraphRounds_l69_b p0 r2 r3 s) s
noncomputable def l08_GraphRounds_j70 (r2 : List Int) : Option Bool :=
  (ix r2 0).bind fun x_17 =>
  if (x_17 == 0) then
    some true
  else
    some false
noncomputable def l08_GraphRounds (p0 : Fun) : Option Bool :=
  (l08_Light p0).bind fun r1 =>
  if decide (0 < r1) then
    some true
  else
    (graph_Places p0).bind fun r2 =>
    (graph_Backs p0).bind fun r3 =>
    if (((r2.length : Int)) != ((p0.Blocks.length : Int))) then
      some false
    else
      (l08_GraphRounds_l69 p0 r2 r3 0).bind fun
        | .next _ =>
          (l08_GraphRounds_j70 r2).bind fun v18 =>
          some v18
        | .stop _ =>
          some false
end Go.Ab
