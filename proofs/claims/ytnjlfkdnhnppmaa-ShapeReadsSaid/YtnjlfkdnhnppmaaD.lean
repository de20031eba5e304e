/-
  Printed by gen.py.
-/
import Derived.Test.YtnjlfkdnhnppmaaC
import Derived.Test.YtnjlfkdnhnppmaaRows
namespace Go.Ab
open Go
set_option linter.unusedVariables false
set_option linter.unusedSimpArgs false
set_option maxRecDepth 100000
set_option maxHeartbeats 4000000
structure Shape where
  Slots : Int
  Mask : Int
  deriving DecidableEq
instance : Inhabited Shape := ⟨⟨default, default⟩⟩
def cShape (x : Shape) : List PV := [.int .i64 x.Slots, .int .i64 x.Mask]
theorem szShape : Sz cShape 2 := fun _ => rfl
theorem fzShape : Fz cShape := fun _ => ⟨rfl, rfl⟩
theorem nzShape : type_of% (And.intro @cShape.eq_1 (And.intro (enl_len szShape) (And.intro (enl_frz fzShape) (And.intro (enl_free fzShape) (enl_take szShape))))) := And.intro @cShape.eq_1 (And.intro (enl_len szShape) (And.intro (enl_frz fzShape) (And.intro (enl_free fzShape) (enl_take szShape))))
noncomputable def shape_bits : Option (List Int) :=
  some ([1, 2, 4, 8, 16, 32, 64, 128, 256, 512, 1024, 2048, 4096, 8192, 16384, 32768])
noncomputable def shape_Parse_j9 (p0 : Str) (x2 : Int) (i3 : Int) (c_4 : UInt8) : Option (Stp Int Unit) :=
  if (((c_4.toNat : Int)) == 112) then
    (shape_bits).bind fun r5 =>
    (ixa r5 16 i3).bind fun x_6 =>
    some (.next (bOr .i64 x2 x_6))
  else
  if (((c_4.toNat : Int)) == 105) then
    some (.next x2)
  else
    some (.stop (()))
noncomputable def shape_Parse_l10_b (p0 : Str) (x2 : Int) (i3 : Int) : Option (Stp (Int × Int) (Stp Int Unit)) :=
  if decide (i3 < ((p0.length : Int))) then
    (ix p0 i3).bind fun c_4 =>
    (shape_Parse_j9 p0 x2 i3 c_4).bind fun
      | .next x7 =>
        some (.next (x7, IntKind.wrap .i64 (i3 + 1)))
      | .stop _ =>
        some (.stop (.stop (())))
  else
    some (.stop (.next x2))
noncomputable def shape_Parse_l10 (p0 : Str) (s : Int × Int) : Option (Stp Int Unit) := runL (fun s => shape_Parse_l10_b p0 s.1 s.2) s
noncomputable def shape_Parse (p0 : Str) : Option (Shape × Int) :=
  if (p0 == ([46] : Str)) then
    some ((⟨0, 0⟩ : Shape), 0)
  else
    if ((decide (((p0.length : Int)) < 1)) || (decide (16 < ((p0.length : Int))))) then
      some ((⟨0, 0⟩ : Shape), 16)
    else
      (shape_Parse_l10 p0 (0, 0)).bind fun
        | .next x8 =>
          some ((⟨(p0.length : Int), x8⟩ : Shape), 0)
        | .stop _ =>
          some ((⟨0, 0⟩ : Shape), 16)
noncomputable def r03_power_l1_b (p0 : Int) (out1 : Int) (i2 : Int) : Option (Stp (Int × Int) Int) :=
  if decide (i2 < p0) then
    some (.next (IntKind.wrap .i64 (out1 * 2), IntKind.wrap .i64 (i2 + 1)))
  else
    some (.stop out1)
noncomputable def r03_power_l1 (p0 : Int) (s : Int × Int) : Option Int := runL (fun s => r03_power_l1_b p0 s.1 s.2) s
noncomputable def r03_power (p0 : Int) : Option Int :=
  (r03_power_l1 p0 (1, 0)).bind fun out3 =>
  some out3
noncomputable def r03_Parse_j8 (p0 : Str) (mask2 : Int) (i3 : Int) : Option Bool :=
  (ix p0 i3).bind fun c_4 =>
  if (((c_4.toNat : Int)) != 105) then
    some (((c_4.toNat : Int)) != 112)
  else
    some false
noncomputable def r03_Parse_j9 (p0 : Str) (mask2 : Int) (i3 : Int) (c_6 : UInt8) : Option Int :=
  if (((c_6.toNat : Int)) == 112) then
    (r03_power i3).bind fun r7 =>
    some (IntKind.wrap .i64 (mask2 + r7))
  else
    some mask2
noncomputable def r03_Parse_l10_b (p0 : Str) (mask2 : Int) (i3 : Int) : Option (Stp (Int × Int) (Stp Int Unit)) :=
  if decide (i3 < ((p0.length : Int))) then
    (r03_Parse_j8 p0 mask2 i3).bind fun v5 =>
    if v5 then
      some (.stop (.stop (())))
    else
      (ix p0 i3).bind fun c_6 =>
      (r03_Parse_j9 p0 mask2 i3 c_6).bind fun mask8 =>
      some (.next (mask8, IntKind.wrap .i64 (i3 + 1)))
  else
    some (.stop (.next mask2))
noncomputable def r03_Parse_l10 (p0 : Str) (s : Int × Int) : Option (Stp Int Unit) := runL (fun s => r03_Parse_l10_b p0 s.1 s.2) s
noncomputable def r03_Parse (p0 : Str) : Option (Shape × Int) :=
  if (p0 == ([46] : Str)) then
    some ((⟨0, 0⟩ : Shape), 0)
  else
    if (((p0 == ([] : Str))) || (decide (16 < ((p0.length : Int))))) then
      some ((⟨0, 0⟩ : Shape), 16)
    else
      (r03_Parse_l10 p0 (0, 0)).bind fun
        | .next mask9 =>
          some ((⟨(p0.length : Int), mask9⟩ : Shape), 0)
        | .stop _ =>
          some ((⟨0, 0⟩ : Shape), 16)
noncomputable def shape_Check (p0 : Shape) : Option Int :=
  if ((decide (p0.Slots < 0)) || (((decide (16 < p0.Slots)) || (((decide (p0.Mask < 0)) || (decide ((IntKind.wrap .i64 (1 * 2 ^ (min p0.Slots.toNat 64))) ≤ p0.Mask))))))) then
    some 16
  else
    some 0
noncomputable def shape_Of (p0 : Int) : Option (Shape × Int) :=
  if ((decide (p0 < 0)) || (decide (2097152 ≤ p0))) then
    some ((⟨0, 0⟩ : Shape), 16)
  else
    (shape_Check ((⟨bAnd .i64 p0 31, Int.fdiv p0 (2 ^ (min (5 : Int).toNat 64))⟩ : Shape))).bind fun r2 =>
    if (r2 != 0) then
      some ((⟨0, 0⟩ : Shape), r2)
    else
      some ((⟨bAnd .i64 p0 31, Int.fdiv p0 (2 ^ (min (5 : Int).toNat 64))⟩ : Shape), 0)
noncomputable def r03_Check_j2 (p0 : Shape) : Option Bool :=
  if decide (p0.Mask < 0) then
    some true
  else
    (r03_power p0.Slots).bind fun r2 =>
    some (decide (r2 ≤ p0.Mask))
noncomputable def r03_Check (p0 : Shape) : Option Int :=
  if ((decide (p0.Slots < 0)) || (decide (16 < p0.Slots))) then
    some 16
  else
    (r03_Check_j2 p0).bind fun v3 =>
    if v3 then
      some 16
    else
      some 0
noncomputable def r03_Of (p0 : Int) : Option (Shape × Int) :=
  if ((decide (p0 < 0)) || (decide (2097152 ≤ p0))) then
    some ((⟨0, 0⟩ : Shape), 16)
  else
    (r03_Check ((⟨Int.tmod p0 32, IntKind.wrap .i64 (Int.tdiv p0 32)⟩ : Shape))).bind fun r2 =>
    if (r2 != 0) then
      some ((⟨0, 0⟩ : Shape), r2)
    else
      some ((⟨Int.tmod p0 32, IntKind.wrap .i64 (Int.tdiv p0 32)⟩ : Shape), 0)
noncomputable def shape_Pointer_j1 (p0 : Shape) (p1 : Int) : Option Bool :=
  if decide (0 ≤ p1) then
    if decide (p1 < p0.Slots) then
      (shape_bits).bind fun r1 =>
      (ixa r1 16 p1).bind fun x_2 =>
      some ((bAnd .i64 p0.Mask x_2) != 0)
    else
      some false
  else
    some false
noncomputable def shape_Pointer (p0 : Shape) (p1 : Int) : Option Bool :=
  (shape_Pointer_j1 p0 p1).bind fun v3 =>
  some v3
noncomputable def r03_Pointer (p0 : Shape) (p1 : Int) : Option Bool :=
  if ((decide (p1 < 0)) || (decide (p0.Slots ≤ p1))) then
    some false
  else
    (r03_power p1).bind fun r2 =>
    if decide (r2 = 0) then
      Option.none
    else
      some ((Int.tmod (IntKind.wrap .i64 (Int.tdiv p0.Mask r2)) 2) == 1)
noncomputable def shape_Pointers_l5_b (p0 : Shape) (n1 : Int) (v2 : Int) : Option (Stp (Int × Int) Int) :=
  if decide (v2 < p0.Slots) then
    (shape_Pointer p0 v2).bind fun r3 =>
    some (.next ((if r3 then IntKind.wrap .i64 (n1 + 1) else n1), IntKind.wrap .i64 (v2 + 1)))
  else
    some (.stop n1)
noncomputable def shape_Pointers_l5 (p0 : Shape) (s : Int × Int) : Option Int := runL (fun s => shape_Pointers_l5_b p0 s.1 s.2) s
noncomputable def shape_Pointers (p0 : Shape) : Option Int :=
  (shape_Pointers_l5 p0 (0, 0)).bind fun n5 =>
  some n5
noncomputable def r03_Pointers_l5_b (p0 : Shape) (n1 : Int) (i2 : Int) : Option (Stp (Int × Int) Int) :=
  if decide (i2 < p0.Slots) then
    (r03_Pointer p0 i2).bind fun r3 =>
    some (.next ((if r3 then IntKind.wrap .i64 (n1 + 1) else n1), IntKind.wrap .i64 (i2 + 1)))
  else
    some (.stop n1)
noncomputable def r03_Pointers_l5 (p0 : Shape) (s : Int × Int) : Option Int := runL (fun s => r03_Pointers_l5_b p0 s.1 s.2) s
noncomputable def r03_Pointers (p0 : Shape) : Option Int :=
  (r03_Pointers_l5 p0 (0, 0)).bind fun n5 =>
  some n5
noncomputable def shape_Print_j4 (p0 : Shape) (l_1 : List Int) (b2 : List Int) (v3 : Int) (r5 : Bool) : Option (List Int) :=
  if r5 then
    (ix (b2.set v3.toNat 105) v3).bind fun x_6 =>
    some ((b2.set v3.toNat 105).set v3.toNat 112)
  else
    some (b2.set v3.toNat 105)
noncomputable def shape_Print_l5_b (p0 : Shape) (l_1 : List Int) (b2 : List Int) (v3 : Int) : Option (Stp (List Int × Int) (List Int)) :=
  if decide (v3 < ((l_1.length : Int))) then
    (ix b2 v3).bind fun x_4 =>
    (shape_Pointer p0 v3).bind fun r5 =>
    (shape_Print_j4 p0 l_1 b2 v3 r5).bind fun b7 =>
    some (.next (b7, IntKind.wrap .i64 (v3 + 1)))
  else
    some (.stop b2)
noncomputable def shape_Print_l5 (p0 : Shape) (l_1 : List Int) (s : List Int × Int) : Option (List Int) := runL (fun s => shape_Print_l5_b p0 l_1 s.1 s.2) s
noncomputable def shape_Print (p0 : Shape) : Option Str :=
  if (p0.Slots == 0) then
    some ([46])
  else
    (mk p0.Slots 1 0).bind fun l_1 =>
    (shape_Print_l5 p0 l_1 (l_1, 0)).bind fun b8 =>
    some (b8.map fun n => UInt8.ofNat n.toNat)
noncomputable def r03_Print_j4 (p0 : Shape) (v1 : Str) (i2 : Int) (r3 : Bool) : Option Str :=
  if r3 then
    (scat v1 ([112] : Str)).bind fun s_4 =>
    some s_4
  else
    (scat v1 ([105] : Str)).bind fun s_5 =>
    some s_5
noncomputable def r03_Print_l5_b (p0 : Shape) (v1 : Str) (i2 : Int) : Option (Stp (Str × Int) Str) :=
  if decide (i2 < p0.Slots) then
    (r03_Pointer p0 i2).bind fun r3 =>
    (r03_Print_j4 p0 v1 i2 r3).bind fun v6 =>
    some (.next (v6, IntKind.wrap .i64 (i2 + 1)))
  else
    some (.stop v1)
noncomputable def r03_Print_l5 (p0 : Shape) (s : Str × Int) : Option Str := runL (fun s => r03_Print_l5_b p0 s.1 s.2) s
noncomputable def r03_Print (p0 : Shape) : Option Str :=
  (r03_Print_l5 p0 ([], 0)).bind fun v7 =>
  if (v7 == ([] : Str)) then
    some ([46])
  else
    some v7
noncomputable def shape_Head (p0 : Shape) : Option Int :=
  some (bOr .i64 (IntKind.wrap .i64 (p0.Mask * 2 ^ (min (5 : Int).toNat 64))) p0.Slots)
noncomputable def r03_Head (p0 : Shape) : Option Int :=
  some (IntKind.wrap .i64 ((IntKind.wrap .i64 (p0.Mask * 32)) + p0.Slots))
noncomputable def l03_ShapeReads_j1 (p1 : Shape) (r1a : Shape) (r1b : Int) (r2a : Shape) (r2b : Int) (r3a : Shape) (r3b : Int) (r4a : Shape) (r4b : Int) : Option Bool :=
  if ((r1a.Slots == r2a.Slots) && (r1a.Mask == r2a.Mask)) then
    if (r1b == r2b) then
      if ((r3a.Slots == r4a.Slots) && (r3a.Mask == r4a.Mask)) then
        if (r3b == r4b) then
          (shape_Check p1).bind fun r5 =>
          (r03_Check p1).bind fun r6 =>
          if (r5 == r6) then
            some true
          else
            some false
        else
          some false
      else
        some false
    else
      some false
  else
    some false
noncomputable def l03_ShapeReads (p0 : Str) (p1 : Shape) (p2 : Int) : Option Bool :=
  if decide (500 < ((p0.length : Int))) then
    some true
  else
    (shape_Parse p0).bind fun (r1a, r1b) =>
    (r03_Parse p0).bind fun (r2a, r2b) =>
    (shape_Of p2).bind fun (r3a, r3b) =>
    (r03_Of p2).bind fun (r4a, r4b) =>
    (l03_ShapeReads_j1 p1 r1a r1b r2a r2b r3a r3b r4a r4b).bind fun v7 =>
    some v7
noncomputable def l03_ShapeTells_j1 (p0 : Shape) (p1 : Int) : Option Bool :=
  (shape_Pointer p0 p1).bind fun r2 =>
  (r03_Pointer p0 p1).bind fun r3 =>
  if (r2 == r3) then
    (shape_Pointers p0).bind fun r4 =>
    (r03_Pointers p0).bind fun r5 =>
    if (r4 == r5) then
      (shape_Print p0).bind fun r6 =>
      (r03_Print p0).bind fun r7 =>
      if (r6 == r7) then
        (shape_Head p0).bind fun r8 =>
        (r03_Head p0).bind fun r9 =>
        if (r8 == r9) then
          some true
        else
          some false
      else
        some false
    else
      some false
  else
    some false
noncomputable def l03_ShapeTells (p0 : Shape) (p1 : Int) : Option Bool :=
  (r03_Check p0).bind fun r1 =>
  if (r1 != 0) then
    some true
  else
    (l03_ShapeTells_j1 p0 p1).bind fun v10 =>
    some v10
noncomputable def l03_ShapeBack_j3 (p0 : Shape) (p1 : Str) (p2 : Int) (r1 : Int) : Option (Stp Unit Unit) :=
  if (r1 == 0) then
    (shape_Print p0).bind fun r2 =>
    (shape_Parse r2).bind fun (r3a, r3b) =>
    (shape_Head p0).bind fun r4 =>
    (shape_Of r4).bind fun (r5a, r5b) =>
    if (((r3b != 0)) || ((((r5b != 0)) || ((((!((r3a.Slots == p0.Slots) && (r3a.Mask == p0.Mask)))) || ((!((r5a.Slots == p0.Slots) && (r5a.Mask == p0.Mask))))))))) then
      some (.stop (()))
    else
      some (.next ())
  else
    some (.next ())
noncomputable def l03_ShapeBack_j4 (p1 : Str) (p2 : Int) (r7a : Shape) (r7b : Int) : Option Bool :=
  if (r7b == 0) then
    (shape_Print r7a).bind fun r8 =>
    some (!(r8 == p1))
  else
    some false
noncomputable def l03_ShapeBack_j5 (p2 : Int) (r10a : Shape) (r10b : Int) : Option Bool :=
  if (r10b == 0) then
    (shape_Head r10a).bind fun r11 =>
    some (r11 != p2)
  else
    some false
noncomputable def l03_ShapeBack (p0 : Shape) (p1 : Str) (p2 : Int) : Option Bool :=
  if decide (500 < ((p1.length : Int))) then
    some true
  else
    (r03_Check p0).bind fun r1 =>
    (l03_ShapeBack_j3 p0 p1 p2 r1).bind fun
      | .next _ =>
        (shape_Parse p1).bind fun (r7a, r7b) =>
        (l03_ShapeBack_j4 p1 p2 r7a r7b).bind fun v9 =>
        if v9 then
          some false
        else
          (shape_Of p2).bind fun (r10a, r10b) =>
          (l03_ShapeBack_j5 p2 r10a r10b).bind fun v12 =>
          if v12 then
            some false
          else
            some true
      | .stop _ =>
        some false
end Go.Ab

/-
  Printed by gen.py.
-/
namespace Go.Ab
open Go
set_option linter.unusedVariables false
set_option linter.unusedSimpArgs false
set_option maxRecDepth 100000
set_option maxHeartbeats 4000000
def x21 : XF := ⟨0, 2, [.cell 0 true 16],
  .seq (.reg [⟨some 0, .alloc [.int .i64 0, .int .i64 0, .int .i64 0, .int .i64 0, .int .i64 0, .int .i64 0, .int .i64 0, .int .i64 0, .int .i64 0, .int .i64 0, .int .i64 0, .int .i64 0, .int .i64 0, .int .i64 0, .int .i64 0, .int .i64 0], .none, false⟩] false [0])
  (.seq (.reg [⟨some 1, .build [.int .i64 0, .int .i64 0, .int .i64 0, .int .i64 0, .int .i64 0, .int .i64 0, .int .i64 0, .int .i64 0, .int .i64 0, .int .i64 0, .int .i64 0, .int .i64 0, .int .i64 0, .int .i64 0, .int .i64 0, .int .i64 0] [(0, 1, .k (.int .i64 1)), (1, 1, .k (.int .i64 2)), (2, 1, .k (.int .i64 4)), (3, 1, .k (.int .i64 8)), (4, 1, .k (.int .i64 16)), (5, 1, .k (.int .i64 32)), (6, 1, .k (.int .i64 64)), (7, 1, .k (.int .i64 128)), (8, 1, .k (.int .i64 256)), (9, 1, .k (.int .i64 512)), (10, 1, .k (.int .i64 1024)), (11, 1, .k (.int .i64 2048)), (12, 1, .k (.int .i64 4096)), (13, 1, .k (.int .i64 8192)), (14, 1, .k (.int .i64 16384)), (15, 1, .k (.int .i64 32768))], .none, false⟩,
    ⟨.none, .store 16 (.t 0) (.t 1), .none, false⟩] false [0])
  (.ret)), [], false⟩
def x7_1 : XC :=
  .reg [⟨some 9, .mv (.t 0), .none, false⟩,
    ⟨some 10, .len true (.t 9), .none, false⟩,
    ⟨some 11, .bin .lss (.t 10) (.k (.int .i64 1)), .none, false⟩,
    ⟨some 12, .mv (.t 11), .none, false⟩,
    ⟨some 13, .mv (.t 0), some (12, false), false⟩,
    ⟨some 14, .len true (.t 13), some (12, false), false⟩,
    ⟨some 15, .bin .gtr (.t 14) (.k (.int .i64 16)), some (12, false), false⟩,
    ⟨some 16, .pick (.t 12) (.k (.bool true)) (.t 15), .none, false⟩] false [0, 2, 16]
def x7_2 : XC :=
  .cond (.t 31) (.reg [⟨some 33, .fadr 1 (.t 4), .none, false⟩,
      ⟨some 34, .load false 1 (.t 33), .none, false⟩,
      ⟨some 35, .call 21 [] [], .none, false⟩,
      ⟨some 36, .mv (.t 5), .none, false⟩,
      ⟨some 37, .idx false 1 16 (.t 35) (.t 36), .none, false⟩,
      ⟨some 38, .bin .or (.t 34) (.t 37), .none, false⟩,
      ⟨some 39, .fadr 1 (.t 4), .none, false⟩,
      ⟨.none, .store 1 (.t 39) (.t 38), .none, true⟩] true [0, 2, 4, 5])
  (.seq (.reg [⟨some 41, .bin .eql (.t 29) (.k (.int .u8 105)), .none, false⟩,
      ⟨some 40, .asg (.t 41), .none, false⟩] false [0, 2, 4, 5, 40])
    (.cond (.t 40) (.skip)
    (.seq (.reg [⟨some 30, .build [.int .i64 0, .int .i64 0] [], .none, false⟩,
        ⟨.none, .store 2 (.t 2) (.t 30), .none, false⟩,
        ⟨some 3, .asg (.k (.int .i64 16)), .none, false⟩] false [2, 3])
      (.ret)) [0, 2, 4, 5])) [0, 2, 4, 5]
def x7_3 : XC :=
  .seq (.seq (.reg [⟨some 21, .mv (.t 5), .none, false⟩,
    ⟨some 22, .mv (.t 0), .none, false⟩,
    ⟨some 23, .len true (.t 22), .none, false⟩,
    ⟨some 24, .bin .lss (.t 21) (.t 23), .none, false⟩] false [0, 2, 4, 5, 24])
  (.cond (.t 24) (.skip)
  (.exit 0 [2, 4]) [0, 2, 4, 5]))
  (.seq (.block 1 (.seq (.reg [⟨some 27, .mv (.t 0), .none, false⟩,
      ⟨some 28, .mv (.t 5), .none, false⟩,
      ⟨some 29, .idxs (.t 27) (.t 28), .none, false⟩] false [0, 2, 4, 5, 29])
    (.block 2 (.seq (.reg [⟨some 32, .bin .eql (.t 29) (.k (.int .u8 112)), .none, false⟩,
        ⟨some 31, .asg (.t 32), .none, false⟩] false [0, 2, 4, 5, 29, 31])
      x7_2) [0, 2, 4, 5])) [0, 2, 4, 5])
  (.reg [⟨some 25, .mv (.t 5), .none, false⟩,
    ⟨some 26, .bin .add (.t 25) (.k (.int .i64 1)), .none, false⟩,
    ⟨some 5, .asg (.t 26), .none, false⟩] false [0, 2, 4, 5]))
def x7 : XF := ⟨1, 43, [.cell 2 true 2, .tmp 3],
  .seq (.reg [⟨some 2, .alloc [.int .i64 0, .int .i64 0], .none, false⟩,
    ⟨some 3, .asg (.k (.int .i64 0)), .none, false⟩] false [0, 2])
  (.seq (.seq (.reg [⟨some 6, .mv (.t 0), .none, false⟩,
    ⟨some 7, .bin .eql (.t 6) (.k (.str [46])), .none, false⟩] false [0, 2, 7])
  (.cond (.t 7) (.seq (.reg [⟨some 8, .build [.int .i64 0, .int .i64 0] [], .none, false⟩,
      ⟨.none, .store 2 (.t 2) (.t 8), .none, false⟩,
      ⟨some 3, .asg (.k (.int .i64 0)), .none, false⟩] false [2, 3])
    (.ret))
  (.skip) [0, 2]))
  (.seq (.seq x7_1
  (.cond (.t 16) (.seq (.reg [⟨some 17, .build [.int .i64 0, .int .i64 0] [], .none, false⟩,
      ⟨.none, .store 2 (.t 2) (.t 17), .none, false⟩,
      ⟨some 3, .asg (.k (.int .i64 16)), .none, false⟩] false [2, 3])
    (.ret))
  (.skip) [0, 2]))
  (.seq (.reg [⟨some 18, .mv (.t 0), .none, false⟩,
    ⟨some 19, .len true (.t 18), .none, false⟩,
    ⟨some 20, .build [.int .i64 0, .int .i64 0] [(0, 1, .t 19)], .none, false⟩,
    ⟨some 4, .alloc [.int .i64 0, .int .i64 0], .none, false⟩,
    ⟨.none, .store 2 (.t 4) (.t 20), .none, false⟩] false [0, 2, 4])
  (.seq (.seq (.reg [⟨some 5, .asg (.k (.int .i64 0)), .none, false⟩] false [0, 2, 4, 5])
  (.block 0 (.loop x7_3 [0, 2, 4, 5]) [2, 4]))
  (.seq (.reg [⟨some 42, .load true 2 (.t 4), .none, false⟩,
    ⟨.none, .store 2 (.t 2) (.t 42), .none, false⟩,
    ⟨some 3, .asg (.k (.int .i64 0)), .none, false⟩] false [2, 3])
  (.ret)))))), [], false⟩
def x22_1 : XC :=
  .seq (.seq (.reg [⟨some 5, .mv (.t 4), .none, false⟩,
    ⟨some 6, .mv (.t 0), .none, false⟩,
    ⟨some 7, .bin .lss (.t 5) (.t 6), .none, false⟩] false [0, 3, 4, 7])
  (.cond (.t 7) (.skip)
  (.exit 0 [3]) [0, 3, 4]))
  (.seq (.block 1 (.reg [⟨some 10, .mv (.t 3), .none, false⟩,
      ⟨some 11, .bin .mul (.t 10) (.k (.int .i64 2)), .none, false⟩,
      ⟨some 3, .asg (.t 11), .none, false⟩] false [0, 3, 4]) [0, 3, 4])
  (.reg [⟨some 8, .mv (.t 4), .none, false⟩,
    ⟨some 9, .bin .add (.t 8) (.k (.int .i64 1)), .none, false⟩,
    ⟨some 4, .asg (.t 9), .none, false⟩] false [0, 3, 4]))
def x22 : XF := ⟨1, 13, [.tmp 2],
  .seq (.reg [⟨some 2, .asg (.k (.int .i64 0)), .none, false⟩] false [0])
  (.seq (.reg [⟨some 3, .asg (.k (.int .i64 1)), .none, false⟩] false [0, 3])
  (.seq (.seq (.reg [⟨some 4, .asg (.k (.int .i64 0)), .none, false⟩] false [0, 3, 4])
  (.block 0 (.loop x22_1 [0, 3, 4]) [3]))
  (.seq (.reg [⟨some 12, .mv (.t 3), .none, false⟩,
    ⟨some 2, .asg (.t 12), .none, false⟩] false [2])
  (.ret)))), [], false⟩
def x8_1 : XC :=
  .reg [⟨some 9, .mv (.t 0), .none, false⟩,
    ⟨some 10, .bin .eql (.t 9) (.k (.str [])), .none, false⟩,
    ⟨some 11, .mv (.t 10), .none, false⟩,
    ⟨some 12, .mv (.t 0), some (11, false), false⟩,
    ⟨some 13, .len true (.t 12), some (11, false), false⟩,
    ⟨some 14, .bin .gtr (.t 13) (.k (.int .i64 16)), some (11, false), false⟩,
    ⟨some 15, .pick (.t 11) (.k (.bool true)) (.t 14), .none, false⟩] false [0, 2, 15]
def x8_2 : XC :=
  .reg [⟨some 23, .mv (.t 0), .none, false⟩,
    ⟨some 24, .mv (.t 5), .none, false⟩,
    ⟨some 25, .idxs (.t 23) (.t 24), .none, false⟩,
    ⟨some 26, .bin .neq (.t 25) (.k (.int .u8 105)), .none, false⟩,
    ⟨some 27, .mv (.t 26), .none, false⟩,
    ⟨some 28, .mv (.t 0), some (27, true), false⟩,
    ⟨some 29, .mv (.t 5), some (27, true), false⟩,
    ⟨some 30, .idxs (.t 28) (.t 29), some (27, true), false⟩,
    ⟨some 31, .bin .neq (.t 30) (.k (.int .u8 112)), some (27, true), false⟩,
    ⟨some 32, .pick (.t 27) (.t 31) (.k (.bool false)), .none, false⟩] false [0, 2, 4, 5, 32]
def x8_3 : XC :=
  .cond (.t 37) (.reg [⟨some 38, .mv (.t 4), .none, false⟩,
      ⟨some 39, .mv (.t 5), .none, false⟩,
      ⟨some 40, .call 22 [.t 39] [], .none, false⟩,
      ⟨some 41, .bin .add (.t 38) (.t 40), .none, false⟩,
      ⟨some 4, .asg (.t 41), .none, false⟩] false [0, 2, 4, 5])
  (.skip) [0, 2, 4, 5]
def x8_4 : XC :=
  .seq (.seq (.reg [⟨some 17, .mv (.t 5), .none, false⟩,
    ⟨some 18, .mv (.t 0), .none, false⟩,
    ⟨some 19, .len true (.t 18), .none, false⟩,
    ⟨some 20, .bin .lss (.t 17) (.t 19), .none, false⟩] false [0, 2, 4, 5, 20])
  (.cond (.t 20) (.skip)
  (.exit 0 [0, 2, 4]) [0, 2, 4, 5]))
  (.seq (.block 1 (.seq (.seq x8_2
    (.cond (.t 32) (.seq (.reg [⟨some 33, .build [.int .i64 0, .int .i64 0] [], .none, false⟩,
        ⟨.none, .store 2 (.t 2) (.t 33), .none, false⟩,
        ⟨some 3, .asg (.k (.int .i64 16)), .none, false⟩] false [2, 3])
      (.ret))
    (.skip) [0, 2, 4, 5]))
    (.seq (.reg [⟨some 34, .mv (.t 0), .none, false⟩,
      ⟨some 35, .mv (.t 5), .none, false⟩,
      ⟨some 36, .idxs (.t 34) (.t 35), .none, false⟩,
      ⟨some 37, .bin .eql (.t 36) (.k (.int .u8 112)), .none, false⟩] false [0, 2, 4, 5, 37])
    x8_3)) [0, 2, 4, 5])
  (.reg [⟨some 21, .mv (.t 5), .none, false⟩,
    ⟨some 22, .bin .add (.t 21) (.k (.int .i64 1)), .none, false⟩,
    ⟨some 5, .asg (.t 22), .none, false⟩] false [0, 2, 4, 5]))
def x8 : XF := ⟨1, 46, [.cell 2 true 2, .tmp 3],
  .seq (.reg [⟨some 2, .alloc [.int .i64 0, .int .i64 0], .none, false⟩,
    ⟨some 3, .asg (.k (.int .i64 0)), .none, false⟩] false [0, 2])
  (.seq (.seq (.reg [⟨some 6, .mv (.t 0), .none, false⟩,
    ⟨some 7, .bin .eql (.t 6) (.k (.str [46])), .none, false⟩] false [0, 2, 7])
  (.cond (.t 7) (.seq (.reg [⟨some 8, .build [.int .i64 0, .int .i64 0] [], .none, false⟩,
      ⟨.none, .store 2 (.t 2) (.t 8), .none, false⟩,
      ⟨some 3, .asg (.k (.int .i64 0)), .none, false⟩] false [2, 3])
    (.ret))
  (.skip) [0, 2]))
  (.seq (.seq x8_1
  (.cond (.t 15) (.seq (.reg [⟨some 16, .build [.int .i64 0, .int .i64 0] [], .none, false⟩,
      ⟨.none, .store 2 (.t 2) (.t 16), .none, false⟩,
      ⟨some 3, .asg (.k (.int .i64 16)), .none, false⟩] false [2, 3])
    (.ret))
  (.skip) [0, 2]))
  (.seq (.reg [⟨some 4, .asg (.k (.int .i64 0)), .none, false⟩] false [0, 2, 4])
  (.seq (.seq (.reg [⟨some 5, .asg (.k (.int .i64 0)), .none, false⟩] false [0, 2, 4, 5])
  (.block 0 (.loop x8_4 [0, 2, 4, 5]) [0, 2, 4]))
  (.seq (.reg [⟨some 42, .mv (.t 0), .none, false⟩,
    ⟨some 43, .len true (.t 42), .none, false⟩,
    ⟨some 44, .mv (.t 4), .none, false⟩,
    ⟨some 45, .build [.int .i64 0, .int .i64 0] [(0, 1, .t 43), (1, 1, .t 44)], .none, false⟩,
    ⟨.none, .store 2 (.t 2) (.t 45), .none, false⟩,
    ⟨some 3, .asg (.k (.int .i64 0)), .none, false⟩] false [2, 3])
  (.ret)))))), [], false⟩
def x11_1 : XC :=
  .reg [⟨some 3, .fadr 0 (.t 1), .none, false⟩,
    ⟨some 4, .load false 1 (.t 3), .none, false⟩,
    ⟨some 5, .bin .lss (.t 4) (.k (.int .i64 0)), .none, false⟩,
    ⟨some 6, .mv (.t 5), .none, false⟩,
    ⟨some 7, .fadr 0 (.t 1), some (6, false), false⟩,
    ⟨some 8, .load false 1 (.t 7), some (6, false), false⟩,
    ⟨some 9, .bin .gtr (.t 8) (.k (.int .i64 16)), some (6, false), false⟩,
    ⟨some 10, .pick (.t 6) (.k (.bool true)) (.t 9), .none, false⟩,
    ⟨some 11, .mv (.t 10), .none, false⟩,
    ⟨some 12, .fadr 1 (.t 1), some (11, false), false⟩,
    ⟨some 13, .load false 1 (.t 12), some (11, false), false⟩,
    ⟨some 14, .bin .lss (.t 13) (.k (.int .i64 0)), some (11, false), false⟩,
    ⟨some 15, .pick (.t 11) (.k (.bool true)) (.t 14), .none, false⟩,
    ⟨some 16, .mv (.t 15), .none, false⟩,
    ⟨some 17, .fadr 1 (.t 1), some (16, false), false⟩,
    ⟨some 18, .load false 1 (.t 17), some (16, false), false⟩,
    ⟨some 19, .fadr 0 (.t 1), some (16, false), false⟩,
    ⟨some 20, .load false 1 (.t 19), some (16, false), false⟩,
    ⟨some 21, .bin .shl (.k (.int .i64 1)) (.t 20), some (16, false), false⟩,
    ⟨some 22, .bin .geq (.t 18) (.t 21), some (16, false), false⟩,
    ⟨some 23, .pick (.t 16) (.k (.bool true)) (.t 22), .none, false⟩] true [23]
def x11 : XF := ⟨1, 24, [.tmp 2],
  .seq (.reg [⟨some 1, .box (.t 0), .none, false⟩,
    ⟨some 2, .asg (.k (.int .i64 0)), .none, false⟩] false [1])
  (.seq (.seq x11_1
  (.cond (.t 23) (.seq (.reg [⟨some 2, .asg (.k (.int .i64 16)), .none, false⟩] false [2])
    (.ret))
  (.skip) []))
  (.seq (.reg [⟨some 2, .asg (.k (.int .i64 0)), .none, false⟩] false [2])
  (.ret))), [], false⟩
def x9_1 : XC :=
  .reg [⟨some 6, .mv (.t 0), .none, false⟩,
    ⟨some 7, .bin .lss (.t 6) (.k (.int .i64 0)), .none, false⟩,
    ⟨some 8, .mv (.t 7), .none, false⟩,
    ⟨some 9, .mv (.t 0), some (8, false), false⟩,
    ⟨some 10, .bin .geq (.t 9) (.k (.int .i64 2097152)), some (8, false), false⟩,
    ⟨some 11, .pick (.t 8) (.k (.bool true)) (.t 10), .none, false⟩] false [0, 2, 11]
def x9 : XF := ⟨1, 25, [.cell 2 true 2, .tmp 3],
  .seq (.reg [⟨some 2, .alloc [.int .i64 0, .int .i64 0], .none, false⟩,
    ⟨some 3, .asg (.k (.int .i64 0)), .none, false⟩] false [0, 2])
  (.seq (.seq x9_1
  (.cond (.t 11) (.seq (.reg [⟨some 12, .build [.int .i64 0, .int .i64 0] [], .none, false⟩,
      ⟨.none, .store 2 (.t 2) (.t 12), .none, false⟩,
      ⟨some 3, .asg (.k (.int .i64 16)), .none, false⟩] false [2, 3])
    (.ret))
  (.skip) [0, 2]))
  (.seq (.reg [⟨some 13, .mv (.t 0), .none, false⟩,
    ⟨some 14, .bin .and (.t 13) (.k (.int .i64 31)), .none, false⟩,
    ⟨some 15, .mv (.t 0), .none, false⟩,
    ⟨some 16, .bin .shr (.t 15) (.k (.int .u64 5)), .none, false⟩,
    ⟨some 17, .build [.int .i64 0, .int .i64 0] [(0, 1, .t 14), (1, 1, .t 16)], .none, false⟩,
    ⟨some 4, .alloc [.int .i64 0, .int .i64 0], .none, false⟩,
    ⟨.none, .store 2 (.t 4) (.t 17), .none, false⟩] false [2, 4])
  (.seq (.seq (.reg [⟨some 18, .load true 2 (.t 4), .none, false⟩,
    ⟨some 19, .call 11 [.t 18] [], .none, false⟩,
    ⟨some 5, .asg (.t 19), .none, false⟩] false [2, 4, 5])
  (.seq (.reg [⟨some 20, .mv (.t 5), .none, false⟩,
    ⟨some 21, .bin .neq (.t 20) (.k (.int .i64 0)), .none, false⟩] false [2, 4, 5, 21])
  (.cond (.t 21) (.seq (.reg [⟨some 22, .build [.int .i64 0, .int .i64 0] [], .none, false⟩,
      ⟨some 23, .mv (.t 5), .none, false⟩,
      ⟨.none, .store 2 (.t 2) (.t 22), .none, false⟩,
      ⟨some 3, .asg (.t 23), .none, false⟩] false [2, 3])
    (.ret))
  (.skip) [2, 4])))
  (.seq (.reg [⟨some 24, .load true 2 (.t 4), .none, false⟩,
    ⟨.none, .store 2 (.t 2) (.t 24), .none, false⟩,
    ⟨some 3, .asg (.k (.int .i64 0)), .none, false⟩] false [2, 3])
  (.ret))))), [], false⟩
def x12_1 : XC :=
  .reg [⟨some 3, .fadr 0 (.t 1), .none, false⟩,
    ⟨some 4, .load false 1 (.t 3), .none, false⟩,
    ⟨some 5, .bin .lss (.t 4) (.k (.int .i64 0)), .none, false⟩,
    ⟨some 6, .mv (.t 5), .none, false⟩,
    ⟨some 7, .fadr 0 (.t 1), some (6, false), false⟩,
    ⟨some 8, .load false 1 (.t 7), some (6, false), false⟩,
    ⟨some 9, .bin .gtr (.t 8) (.k (.int .i64 16)), some (6, false), false⟩,
    ⟨some 10, .pick (.t 6) (.k (.bool true)) (.t 9), .none, false⟩] false [1, 10]
def x12_2 : XC :=
  .reg [⟨some 11, .fadr 1 (.t 1), .none, false⟩,
    ⟨some 12, .load false 1 (.t 11), .none, false⟩,
    ⟨some 13, .bin .lss (.t 12) (.k (.int .i64 0)), .none, false⟩,
    ⟨some 14, .mv (.t 13), .none, false⟩,
    ⟨some 15, .fadr 1 (.t 1), some (14, false), false⟩,
    ⟨some 16, .load false 1 (.t 15), some (14, false), false⟩,
    ⟨some 17, .fadr 0 (.t 1), some (14, false), false⟩,
    ⟨some 18, .load false 1 (.t 17), some (14, false), false⟩,
    ⟨some 19, .call 22 [.t 18] [], some (14, false), false⟩,
    ⟨some 20, .bin .geq (.t 16) (.t 19), some (14, false), false⟩,
    ⟨some 21, .pick (.t 14) (.k (.bool true)) (.t 20), .none, false⟩] true [21]
def x12 : XF := ⟨1, 22, [.tmp 2],
  .seq (.reg [⟨some 1, .box (.t 0), .none, false⟩,
    ⟨some 2, .asg (.k (.int .i64 0)), .none, false⟩] false [1])
  (.seq (.seq x12_1
  (.cond (.t 10) (.seq (.reg [⟨some 2, .asg (.k (.int .i64 16)), .none, false⟩] false [2])
    (.ret))
  (.skip) [1]))
  (.seq (.seq x12_2
  (.cond (.t 21) (.seq (.reg [⟨some 2, .asg (.k (.int .i64 16)), .none, false⟩] false [2])
    (.ret))
  (.skip) []))
  (.seq (.reg [⟨some 2, .asg (.k (.int .i64 0)), .none, false⟩] false [2])
  (.ret)))), [], false⟩
def x10_1 : XC :=
  .reg [⟨some 6, .mv (.t 0), .none, false⟩,
    ⟨some 7, .bin .lss (.t 6) (.k (.int .i64 0)), .none, false⟩,
    ⟨some 8, .mv (.t 7), .none, false⟩,
    ⟨some 9, .mv (.t 0), some (8, false), false⟩,
    ⟨some 10, .bin .geq (.t 9) (.k (.int .i64 2097152)), some (8, false), false⟩,
    ⟨some 11, .pick (.t 8) (.k (.bool true)) (.t 10), .none, false⟩] false [0, 2, 11]
def x10 : XF := ⟨1, 25, [.cell 2 true 2, .tmp 3],
  .seq (.reg [⟨some 2, .alloc [.int .i64 0, .int .i64 0], .none, false⟩,
    ⟨some 3, .asg (.k (.int .i64 0)), .none, false⟩] false [0, 2])
  (.seq (.seq x10_1
  (.cond (.t 11) (.seq (.reg [⟨some 12, .build [.int .i64 0, .int .i64 0] [], .none, false⟩,
      ⟨.none, .store 2 (.t 2) (.t 12), .none, false⟩,
      ⟨some 3, .asg (.k (.int .i64 16)), .none, false⟩] false [2, 3])
    (.ret))
  (.skip) [0, 2]))
  (.seq (.reg [⟨some 13, .mv (.t 0), .none, false⟩,
    ⟨some 14, .bin .rem (.t 13) (.k (.int .i64 32)), .none, false⟩,
    ⟨some 15, .mv (.t 0), .none, false⟩,
    ⟨some 16, .bin .quo (.t 15) (.k (.int .i64 32)), .none, false⟩,
    ⟨some 17, .build [.int .i64 0, .int .i64 0] [(0, 1, .t 14), (1, 1, .t 16)], .none, false⟩,
    ⟨some 4, .alloc [.int .i64 0, .int .i64 0], .none, false⟩,
    ⟨.none, .store 2 (.t 4) (.t 17), .none, false⟩] false [2, 4])
  (.seq (.seq (.reg [⟨some 18, .load true 2 (.t 4), .none, false⟩,
    ⟨some 19, .call 12 [.t 18] [], .none, false⟩,
    ⟨some 5, .asg (.t 19), .none, false⟩] false [2, 4, 5])
  (.seq (.reg [⟨some 20, .mv (.t 5), .none, false⟩,
    ⟨some 21, .bin .neq (.t 20) (.k (.int .i64 0)), .none, false⟩] false [2, 4, 5, 21])
  (.cond (.t 21) (.seq (.reg [⟨some 22, .build [.int .i64 0, .int .i64 0] [], .none, false⟩,
      ⟨some 23, .mv (.t 5), .none, false⟩,
      ⟨.none, .store 2 (.t 2) (.t 22), .none, false⟩,
      ⟨some 3, .asg (.t 23), .none, false⟩] false [2, 3])
    (.ret))
  (.skip) [2, 4])))
  (.seq (.reg [⟨some 24, .load true 2 (.t 4), .none, false⟩,
    ⟨.none, .store 2 (.t 2) (.t 24), .none, false⟩,
    ⟨some 3, .asg (.k (.int .i64 0)), .none, false⟩] false [2, 3])
  (.ret))))), [], false⟩
def x13_1 : XC :=
  .reg [⟨some 5, .mv (.t 1), .none, false⟩,
    ⟨some 6, .bin .geq (.t 5) (.k (.int .i64 0)), .none, false⟩,
    ⟨some 7, .mv (.t 6), .none, false⟩,
    ⟨some 8, .mv (.t 1), some (7, true), false⟩,
    ⟨some 9, .fadr 0 (.t 2), some (7, true), false⟩,
    ⟨some 10, .load false 1 (.t 9), some (7, true), false⟩,
    ⟨some 11, .bin .lss (.t 8) (.t 10), some (7, true), false⟩,
    ⟨some 12, .pick (.t 7) (.t 11) (.k (.bool false)), .none, false⟩,
    ⟨some 13, .mv (.t 12), .none, false⟩,
    ⟨some 14, .fadr 1 (.t 2), some (13, true), false⟩,
    ⟨some 15, .load false 1 (.t 14), some (13, true), false⟩,
    ⟨some 16, .call 21 [] [], some (13, true), false⟩,
    ⟨some 17, .mv (.t 1), some (13, true), false⟩,
    ⟨some 18, .idx false 1 16 (.t 16) (.t 17), some (13, true), false⟩,
    ⟨some 19, .bin .and (.t 15) (.t 18), some (13, true), false⟩,
    ⟨some 20, .bin .neq (.t 19) (.k (.int .i64 0)), some (13, true), false⟩,
    ⟨some 21, .pick (.t 13) (.t 20) (.k (.bool false)), .none, false⟩,
    ⟨some 4, .asg (.t 21), .none, true⟩] true [4]
def x13 : XF := ⟨2, 22, [.tmp 4],
  .seq (.reg [⟨some 2, .box (.t 0), .none, false⟩,
    ⟨some 4, .asg (.k (.bool false)), .none, false⟩] false [1, 2])
  (.seq x13_1
  (.ret)), [], false⟩
def x14_1 : XC :=
  .reg [⟨some 5, .mv (.t 1), .none, false⟩,
    ⟨some 6, .bin .lss (.t 5) (.k (.int .i64 0)), .none, false⟩,
    ⟨some 7, .mv (.t 6), .none, false⟩,
    ⟨some 8, .mv (.t 1), some (7, false), false⟩,
    ⟨some 9, .fadr 0 (.t 2), some (7, false), false⟩,
    ⟨some 10, .load false 1 (.t 9), some (7, false), false⟩,
    ⟨some 11, .bin .geq (.t 8) (.t 10), some (7, false), false⟩,
    ⟨some 12, .pick (.t 7) (.k (.bool true)) (.t 11), .none, false⟩] false [1, 2, 12]
def x14 : XF := ⟨2, 20, [.tmp 4],
  .seq (.reg [⟨some 2, .box (.t 0), .none, false⟩,
    ⟨some 4, .asg (.k (.bool false)), .none, false⟩] false [1, 2])
  (.seq (.seq x14_1
  (.cond (.t 12) (.seq (.reg [⟨some 4, .asg (.k (.bool false)), .none, false⟩] false [4])
    (.ret))
  (.skip) [1, 2]))
  (.seq (.reg [⟨some 13, .fadr 1 (.t 2), .none, false⟩,
    ⟨some 14, .load false 1 (.t 13), .none, false⟩,
    ⟨some 15, .mv (.t 1), .none, false⟩,
    ⟨some 16, .call 22 [.t 15] [], .none, false⟩,
    ⟨some 17, .bin .quo (.t 14) (.t 16), .none, false⟩,
    ⟨some 18, .bin .rem (.t 17) (.k (.int .i64 2)), .none, false⟩,
    ⟨some 19, .bin .eql (.t 18) (.k (.int .i64 1)), .none, false⟩,
    ⟨some 4, .asg (.t 19), .none, true⟩] true [4])
  (.ret))), [], false⟩
def x15_1 : XC :=
  .cond (.t 12) (.reg [⟨some 13, .mv (.t 3), .none, false⟩,
      ⟨some 14, .bin .add (.t 13) (.k (.int .i64 1)), .none, false⟩,
      ⟨some 3, .asg (.t 14), .none, false⟩] false [1, 3, 6, 7])
  (.skip) [1, 3, 6, 7]
def x15_2 : XC :=
  .seq (.reg [⟨some 8, .bin .lss (.t 7) (.t 6), .none, false⟩] false [1, 3, 6, 7, 8])
  (.seq (.cond (.t 8) (.skip)
  (.exit 0 [3]) [1, 3, 6, 7])
  (.seq (.block 1 (.seq (.reg [⟨some 9, .mv (.t 7), .none, false⟩,
      ⟨some 4, .asg (.t 9), .none, false⟩] false [1, 3, 4, 6, 7])
    (.seq (.reg [⟨some 10, .load true 2 (.t 1), .none, false⟩,
      ⟨some 11, .mv (.t 4), .none, false⟩,
      ⟨some 12, .call 13 [.t 10, .t 11] [], .none, false⟩] false [1, 3, 6, 7, 12])
    x15_1)) [1, 3, 6, 7])
  (.reg [⟨some 15, .bin .add (.t 7) (.k (.int .i64 1)), .none, false⟩,
    ⟨some 7, .mv (.t 15), .none, false⟩] false [1, 3, 6, 7])))
def x15 : XF := ⟨1, 17, [.tmp 2],
  .seq (.reg [⟨some 1, .box (.t 0), .none, false⟩,
    ⟨some 2, .asg (.k (.int .i64 0)), .none, false⟩] false [1])
  (.seq (.reg [⟨some 3, .asg (.k (.int .i64 0)), .none, false⟩] false [1, 3])
  (.seq (.seq (.reg [⟨some 5, .fadr 0 (.t 1), .none, false⟩,
    ⟨some 6, .load false 1 (.t 5), .none, false⟩,
    ⟨some 7, .mv (.k (.int .i64 0)), .none, false⟩] false [1, 3, 6, 7])
  (.block 0 (.loop x15_2 [1, 3, 6, 7]) [3]))
  (.seq (.reg [⟨some 16, .mv (.t 3), .none, false⟩,
    ⟨some 2, .asg (.t 16), .none, false⟩] false [2])
  (.ret)))), [], false⟩
def x16_1 : XC :=
  .cond (.t 13) (.reg [⟨some 14, .mv (.t 3), .none, false⟩,
      ⟨some 15, .bin .add (.t 14) (.k (.int .i64 1)), .none, false⟩,
      ⟨some 3, .asg (.t 15), .none, false⟩] false [1, 3, 4])
  (.skip) [1, 3, 4]
def x16_2 : XC :=
  .seq (.seq (.reg [⟨some 5, .mv (.t 4), .none, false⟩,
    ⟨some 6, .fadr 0 (.t 1), .none, false⟩,
    ⟨some 7, .load false 1 (.t 6), .none, false⟩,
    ⟨some 8, .bin .lss (.t 5) (.t 7), .none, false⟩] false [1, 3, 4, 8])
  (.cond (.t 8) (.skip)
  (.exit 0 [3]) [1, 3, 4]))
  (.seq (.block 1 (.seq (.reg [⟨some 11, .load true 2 (.t 1), .none, false⟩,
      ⟨some 12, .mv (.t 4), .none, false⟩,
      ⟨some 13, .call 14 [.t 11, .t 12] [], .none, false⟩] false [1, 3, 4, 13])
    x16_1) [1, 3, 4])
  (.reg [⟨some 9, .mv (.t 4), .none, false⟩,
    ⟨some 10, .bin .add (.t 9) (.k (.int .i64 1)), .none, false⟩,
    ⟨some 4, .asg (.t 10), .none, false⟩] false [1, 3, 4]))
def x16 : XF := ⟨1, 17, [.tmp 2],
  .seq (.reg [⟨some 1, .box (.t 0), .none, false⟩,
    ⟨some 2, .asg (.k (.int .i64 0)), .none, false⟩] false [1])
  (.seq (.reg [⟨some 3, .asg (.k (.int .i64 0)), .none, false⟩] false [1, 3])
  (.seq (.seq (.reg [⟨some 4, .asg (.k (.int .i64 0)), .none, false⟩] false [1, 3, 4])
  (.block 0 (.loop x16_2 [1, 3, 4]) [3]))
  (.seq (.reg [⟨some 16, .mv (.t 3), .none, false⟩,
    ⟨some 2, .asg (.t 16), .none, false⟩] false [2])
  (.ret)))), [], false⟩
def x17_1 : XC :=
  .cond (.t 21) (.reg [⟨some 22, .mv (.t 3), .none, false⟩,
      ⟨some 23, .mv (.t 4), .none, false⟩,
      ⟨some 24, .iadr 1 .none (.t 22) (.t 23), .none, false⟩,
      ⟨.none, .store 1 (.t 24) (.k (.int .u8 112)), .none, false⟩] false [1, 3, 12, 13])
  (.skip) [1, 3, 12, 13]
def x17_2 : XC :=
  .seq (.reg [⟨some 14, .bin .lss (.t 13) (.t 12), .none, false⟩] false [1, 3, 12, 13, 14])
  (.seq (.cond (.t 14) (.skip)
  (.exit 0 [3]) [1, 3, 12, 13])
  (.seq (.block 1 (.seq (.reg [⟨some 15, .mv (.t 13), .none, false⟩,
      ⟨some 4, .asg (.t 15), .none, false⟩] false [1, 3, 4, 12, 13])
    (.seq (.reg [⟨some 16, .mv (.t 3), .none, false⟩,
      ⟨some 17, .mv (.t 4), .none, false⟩,
      ⟨some 18, .iadr 1 .none (.t 16) (.t 17), .none, false⟩,
      ⟨.none, .store 1 (.t 18) (.k (.int .u8 105)), .none, false⟩] false [1, 3, 4, 12, 13])
    (.seq (.reg [⟨some 19, .load true 2 (.t 1), .none, false⟩,
      ⟨some 20, .mv (.t 4), .none, false⟩,
      ⟨some 21, .call 13 [.t 19, .t 20] [], .none, false⟩] false [1, 3, 4, 12, 13, 21])
    x17_1))) [1, 3, 12, 13])
  (.reg [⟨some 25, .bin .add (.t 13) (.k (.int .i64 1)), .none, false⟩,
    ⟨some 13, .mv (.t 25), .none, false⟩] false [1, 3, 12, 13])))
def x17 : XF := ⟨1, 28, [.tmp 2],
  .seq (.reg [⟨some 1, .box (.t 0), .none, false⟩,
    ⟨some 2, .asg (.k (.str [])), .none, false⟩] false [1])
  (.seq (.seq (.reg [⟨some 5, .fadr 0 (.t 1), .none, false⟩,
    ⟨some 6, .load false 1 (.t 5), .none, false⟩,
    ⟨some 7, .bin .eql (.t 6) (.k (.int .i64 0)), .none, false⟩] false [1, 7])
  (.cond (.t 7) (.seq (.reg [⟨some 2, .asg (.k (.str [46])), .none, false⟩] false [2])
    (.ret))
  (.skip) [1]))
  (.seq (.reg [⟨some 8, .fadr 0 (.t 1), .none, false⟩,
    ⟨some 9, .load false 1 (.t 8), .none, false⟩,
    ⟨some 10, .mksl 1 1 [.int .u8 0] (.t 9) (.t 9), .none, false⟩,
    ⟨some 3, .asg (.t 10), .none, false⟩] false [1, 3])
  (.seq (.seq (.reg [⟨some 11, .mv (.t 3), .none, false⟩,
    ⟨some 12, .len false (.t 11), .none, false⟩,
    ⟨some 13, .mv (.k (.int .i64 0)), .none, false⟩] false [1, 3, 12, 13])
  (.block 0 (.loop x17_2 [1, 3, 12, 13]) [3]))
  (.seq (.reg [⟨some 26, .mv (.t 3), .none, false⟩,
    ⟨some 27, .b2s (.t 26), .none, false⟩,
    ⟨some 2, .asg (.t 27), .none, false⟩] false [2])
  (.ret))))), [], false⟩
def x18_1 : XC :=
  .cond (.t 13) (.reg [⟨some 14, .mv (.t 3), .none, false⟩,
      ⟨some 15, .bin .add (.t 14) (.k (.str [112])), .none, false⟩,
      ⟨some 3, .asg (.t 15), .none, false⟩] false [1, 3, 4])
  (.reg [⟨some 16, .mv (.t 3), .none, false⟩,
      ⟨some 17, .bin .add (.t 16) (.k (.str [105])), .none, false⟩,
      ⟨some 3, .asg (.t 17), .none, false⟩] false [1, 3, 4]) [1, 3, 4]
def x18_2 : XC :=
  .seq (.seq (.reg [⟨some 5, .mv (.t 4), .none, false⟩,
    ⟨some 6, .fadr 0 (.t 1), .none, false⟩,
    ⟨some 7, .load false 1 (.t 6), .none, false⟩,
    ⟨some 8, .bin .lss (.t 5) (.t 7), .none, false⟩] false [1, 3, 4, 8])
  (.cond (.t 8) (.skip)
  (.exit 0 [3]) [1, 3, 4]))
  (.seq (.block 1 (.seq (.reg [⟨some 11, .load true 2 (.t 1), .none, false⟩,
      ⟨some 12, .mv (.t 4), .none, false⟩,
      ⟨some 13, .call 14 [.t 11, .t 12] [], .none, false⟩] false [1, 3, 4, 13])
    x18_1) [1, 3, 4])
  (.reg [⟨some 9, .mv (.t 4), .none, false⟩,
    ⟨some 10, .bin .add (.t 9) (.k (.int .i64 1)), .none, false⟩,
    ⟨some 4, .asg (.t 10), .none, false⟩] false [1, 3, 4]))
def x18 : XF := ⟨1, 21, [.tmp 2],
  .seq (.reg [⟨some 1, .box (.t 0), .none, false⟩,
    ⟨some 2, .asg (.k (.str [])), .none, false⟩] false [1])
  (.seq (.reg [⟨some 3, .asg (.k (.str [])), .none, false⟩] false [1, 3])
  (.seq (.seq (.reg [⟨some 4, .asg (.k (.int .i64 0)), .none, false⟩] false [1, 3, 4])
  (.block 0 (.loop x18_2 [1, 3, 4]) [3]))
  (.seq (.seq (.reg [⟨some 18, .mv (.t 3), .none, false⟩,
    ⟨some 19, .bin .eql (.t 18) (.k (.str [])), .none, false⟩] false [3, 19])
  (.cond (.t 19) (.seq (.reg [⟨some 2, .asg (.k (.str [46])), .none, false⟩] false [2])
    (.ret))
  (.skip) [3]))
  (.seq (.reg [⟨some 20, .mv (.t 3), .none, false⟩,
    ⟨some 2, .asg (.t 20), .none, false⟩] false [2])
  (.ret))))), [], false⟩
def x19 : XF := ⟨1, 9, [.tmp 2],
  .seq (.reg [⟨some 1, .box (.t 0), .none, false⟩,
    ⟨some 2, .asg (.k (.int .i64 0)), .none, false⟩] false [1])
  (.seq (.reg [⟨some 3, .fadr 1 (.t 1), .none, false⟩,
    ⟨some 4, .load false 1 (.t 3), .none, false⟩,
    ⟨some 5, .bin .shl (.t 4) (.k (.int .u64 5)), .none, false⟩,
    ⟨some 6, .fadr 0 (.t 1), .none, false⟩,
    ⟨some 7, .load false 1 (.t 6), .none, false⟩,
    ⟨some 8, .bin .or (.t 5) (.t 7), .none, false⟩,
    ⟨some 2, .asg (.t 8), .none, false⟩] false [2])
  (.ret)), [], false⟩
def x20 : XF := ⟨1, 9, [.tmp 2],
  .seq (.reg [⟨some 1, .box (.t 0), .none, false⟩,
    ⟨some 2, .asg (.k (.int .i64 0)), .none, false⟩] false [1])
  (.seq (.reg [⟨some 3, .fadr 1 (.t 1), .none, false⟩,
    ⟨some 4, .load false 1 (.t 3), .none, false⟩,
    ⟨some 5, .bin .mul (.t 4) (.k (.int .i64 32)), .none, false⟩,
    ⟨some 6, .fadr 0 (.t 1), .none, false⟩,
    ⟨some 7, .load false 1 (.t 6), .none, false⟩,
    ⟨some 8, .bin .add (.t 5) (.t 7), .none, false⟩,
    ⟨some 2, .asg (.t 8), .none, false⟩] false [2])
  (.ret)), [], false⟩
def x3_1 : XC :=
  .reg [⟨some 39, .load true 2 (.t 7), .none, false⟩,
    ⟨some 40, .load true 2 (.t 9), .none, false⟩,
    ⟨some 41, .aeq false [.int .i64 0, .int .i64 0] (.t 39) (.t 40), .none, false⟩,
    ⟨some 42, .mv (.t 41), .none, false⟩,
    ⟨some 43, .mv (.t 8), some (42, true), false⟩,
    ⟨some 44, .mv (.t 10), some (42, true), false⟩,
    ⟨some 45, .bin .eql (.t 43) (.t 44), some (42, true), false⟩,
    ⟨some 46, .pick (.t 42) (.t 45) (.k (.bool false)), .none, false⟩,
    ⟨some 47, .mv (.t 46), .none, false⟩,
    ⟨some 48, .load true 2 (.t 11), some (47, true), false⟩,
    ⟨some 49, .load true 2 (.t 13), some (47, true), false⟩,
    ⟨some 50, .aeq false [.int .i64 0, .int .i64 0] (.t 48) (.t 49), some (47, true), false⟩,
    ⟨some 51, .pick (.t 47) (.t 50) (.k (.bool false)), .none, false⟩,
    ⟨some 52, .mv (.t 51), .none, false⟩,
    ⟨some 53, .mv (.t 12), some (52, true), false⟩,
    ⟨some 54, .mv (.t 14), some (52, true), false⟩,
    ⟨some 55, .bin .eql (.t 53) (.t 54), some (52, true), false⟩,
    ⟨some 56, .pick (.t 52) (.t 55) (.k (.bool false)), .none, false⟩,
    ⟨some 57, .mv (.t 56), .none, false⟩,
    ⟨some 58, .load true 2 (.t 4), some (57, true), false⟩,
    ⟨some 59, .call 11 [.t 58] [], some (57, true), false⟩,
    ⟨some 60, .load true 2 (.t 4), some (57, true), false⟩,
    ⟨some 61, .call 12 [.t 60] [], some (57, true), false⟩,
    ⟨some 62, .bin .eql (.t 59) (.t 61), some (57, true), false⟩,
    ⟨some 63, .pick (.t 57) (.t 62) (.k (.bool false)), .none, false⟩,
    ⟨some 64, .mv (.t 63), .none, false⟩,
    ⟨some 65, .call 6 [] [], some (64, true), false⟩,
    ⟨some 66, .pick (.t 64) (.t 65) (.k (.bool false)), .none, false⟩,
    ⟨some 6, .asg (.t 66), .none, true⟩] true [6]
def x3 : XF := ⟨3, 67, [.tmp 6],
  .seq (.reg [⟨some 4, .box (.t 1), .none, false⟩,
    ⟨some 6, .asg (.k (.bool false)), .none, false⟩] false [0, 2, 4])
  (.seq (.seq (.reg [⟨some 15, .mv (.t 0), .none, false⟩,
    ⟨some 16, .len true (.t 15), .none, false⟩,
    ⟨some 17, .bin .gtr (.t 16) (.k (.int .i64 500)), .none, false⟩] false [0, 2, 4, 17])
  (.cond (.t 17) (.seq (.reg [⟨some 18, .call 6 [] [], .none, false⟩,
      ⟨some 6, .asg (.t 18), .none, false⟩] false [6])
    (.ret))
  (.skip) [0, 2, 4]))
  (.seq (.reg [⟨some 20, .mv (.t 0), .none, false⟩,
    ⟨some 21, .call 7 [.t 20] [], .none, false⟩,
    ⟨some 19, .mv (.t 21), .none, false⟩,
    ⟨some 22, .ext (.t 19) 0, .none, false⟩,
    ⟨some 23, .ext (.t 19) 1, .none, false⟩,
    ⟨some 7, .alloc [.int .i64 0, .int .i64 0], .none, false⟩,
    ⟨.none, .store 2 (.t 7) (.t 22), .none, false⟩,
    ⟨some 8, .asg (.t 23), .none, false⟩] false [0, 2, 4, 7, 8])
  (.seq (.reg [⟨some 25, .mv (.t 0), .none, false⟩,
    ⟨some 26, .call 8 [.t 25] [], .none, false⟩,
    ⟨some 24, .mv (.t 26), .none, false⟩,
    ⟨some 27, .ext (.t 24) 0, .none, false⟩,
    ⟨some 28, .ext (.t 24) 1, .none, false⟩,
    ⟨some 9, .alloc [.int .i64 0, .int .i64 0], .none, false⟩,
    ⟨.none, .store 2 (.t 9) (.t 27), .none, false⟩,
    ⟨some 10, .asg (.t 28), .none, false⟩] false [2, 4, 7, 8, 9, 10])
  (.seq (.reg [⟨some 30, .mv (.t 2), .none, false⟩,
    ⟨some 31, .call 9 [.t 30] [], .none, false⟩,
    ⟨some 29, .mv (.t 31), .none, false⟩,
    ⟨some 32, .ext (.t 29) 0, .none, false⟩,
    ⟨some 33, .ext (.t 29) 1, .none, false⟩,
    ⟨some 11, .alloc [.int .i64 0, .int .i64 0], .none, false⟩,
    ⟨.none, .store 2 (.t 11) (.t 32), .none, false⟩,
    ⟨some 12, .asg (.t 33), .none, false⟩] false [2, 4, 7, 8, 9, 10, 11, 12])
  (.seq (.reg [⟨some 35, .mv (.t 2), .none, false⟩,
    ⟨some 36, .call 10 [.t 35] [], .none, false⟩,
    ⟨some 34, .mv (.t 36), .none, false⟩,
    ⟨some 37, .ext (.t 34) 0, .none, false⟩,
    ⟨some 38, .ext (.t 34) 1, .none, false⟩,
    ⟨some 13, .alloc [.int .i64 0, .int .i64 0], .none, false⟩,
    ⟨.none, .store 2 (.t 13) (.t 37), .none, false⟩,
    ⟨some 14, .asg (.t 38), .none, false⟩] false [4, 7, 8, 9, 10, 11, 12, 13, 14])
  (.seq x3_1
  (.ret))))))), [], false⟩
def x4_1 : XC :=
  .reg [⟨some 9, .load true 2 (.t 2), .none, false⟩,
    ⟨some 10, .mv (.t 1), .none, false⟩,
    ⟨some 11, .call 13 [.t 9, .t 10] [], .none, false⟩,
    ⟨some 12, .load true 2 (.t 2), .none, false⟩,
    ⟨some 13, .mv (.t 1), .none, false⟩,
    ⟨some 14, .call 14 [.t 12, .t 13] [], .none, false⟩,
    ⟨some 15, .beq false (.t 11) (.t 14), .none, false⟩,
    ⟨some 16, .mv (.t 15), .none, false⟩,
    ⟨some 17, .load true 2 (.t 2), some (16, true), false⟩,
    ⟨some 18, .call 15 [.t 17] [], some (16, true), false⟩,
    ⟨some 19, .load true 2 (.t 2), some (16, true), false⟩,
    ⟨some 20, .call 16 [.t 19] [], some (16, true), false⟩,
    ⟨some 21, .bin .eql (.t 18) (.t 20), some (16, true), false⟩,
    ⟨some 22, .pick (.t 16) (.t 21) (.k (.bool false)), .none, false⟩,
    ⟨some 23, .mv (.t 22), .none, false⟩,
    ⟨some 24, .load true 2 (.t 2), some (23, true), false⟩,
    ⟨some 25, .call 17 [.t 24] [], some (23, true), false⟩,
    ⟨some 26, .load true 2 (.t 2), some (23, true), false⟩,
    ⟨some 27, .call 18 [.t 26] [], some (23, true), false⟩,
    ⟨some 28, .bin .eql (.t 25) (.t 27), some (23, true), false⟩,
    ⟨some 29, .pick (.t 23) (.t 28) (.k (.bool false)), .none, false⟩,
    ⟨some 30, .mv (.t 29), .none, false⟩,
    ⟨some 31, .load true 2 (.t 2), some (30, true), false⟩,
    ⟨some 32, .call 19 [.t 31] [], some (30, true), false⟩,
    ⟨some 33, .load true 2 (.t 2), some (30, true), false⟩,
    ⟨some 34, .call 20 [.t 33] [], some (30, true), false⟩,
    ⟨some 35, .bin .eql (.t 32) (.t 34), some (30, true), false⟩,
    ⟨some 36, .pick (.t 30) (.t 35) (.k (.bool false)), .none, false⟩,
    ⟨some 37, .mv (.t 36), .none, false⟩,
    ⟨some 38, .call 6 [] [], some (37, true), false⟩,
    ⟨some 39, .pick (.t 37) (.t 38) (.k (.bool false)), .none, false⟩,
    ⟨some 4, .asg (.t 39), .none, true⟩] true [4]
def x4 : XF := ⟨2, 40, [.tmp 4],
  .seq (.reg [⟨some 2, .box (.t 0), .none, false⟩,
    ⟨some 4, .asg (.k (.bool false)), .none, false⟩] false [1, 2])
  (.seq (.seq (.reg [⟨some 5, .load true 2 (.t 2), .none, false⟩,
    ⟨some 6, .call 12 [.t 5] [], .none, false⟩,
    ⟨some 7, .bin .neq (.t 6) (.k (.int .i64 0)), .none, false⟩] false [1, 2, 7])
  (.cond (.t 7) (.seq (.reg [⟨some 8, .call 6 [] [], .none, false⟩,
      ⟨some 4, .asg (.t 8), .none, false⟩] false [4])
    (.ret))
  (.skip) [1, 2]))
  (.seq x4_1
  (.ret))), [], false⟩
def x5_1 : XC :=
  .reg [⟨some 34, .mv (.t 8), .none, false⟩,
    ⟨some 35, .bin .neq (.t 34) (.k (.int .i64 0)), .none, false⟩,
    ⟨some 36, .mv (.t 35), .none, false⟩,
    ⟨some 37, .mv (.t 10), some (36, false), false⟩,
    ⟨some 38, .bin .neq (.t 37) (.k (.int .i64 0)), some (36, false), false⟩,
    ⟨some 39, .pick (.t 36) (.k (.bool true)) (.t 38), .none, false⟩,
    ⟨some 40, .mv (.t 39), .none, false⟩,
    ⟨some 41, .load true 2 (.t 7), some (40, false), false⟩,
    ⟨some 42, .load true 2 (.t 3), some (40, false), false⟩,
    ⟨some 43, .aeq true [.int .i64 0, .int .i64 0] (.t 41) (.t 42), some (40, false), false⟩,
    ⟨some 44, .pick (.t 40) (.k (.bool true)) (.t 43), .none, false⟩,
    ⟨some 45, .mv (.t 44), .none, false⟩,
    ⟨some 46, .load true 2 (.t 9), some (45, false), false⟩,
    ⟨some 47, .load true 2 (.t 3), some (45, false), false⟩,
    ⟨some 48, .aeq true [.int .i64 0, .int .i64 0] (.t 46) (.t 47), some (45, false), false⟩,
    ⟨some 49, .pick (.t 45) (.k (.bool true)) (.t 48), .none, false⟩] false [1, 2, 49]
def x5_2 : XC :=
  .cond (.t 21) (.seq (.reg [⟨some 23, .load true 2 (.t 3), .none, false⟩,
      ⟨some 24, .call 17 [.t 23] [], .none, false⟩,
      ⟨some 25, .call 7 [.t 24] [], .none, false⟩,
      ⟨some 22, .mv (.t 25), .none, false⟩,
      ⟨some 26, .ext (.t 22) 0, .none, false⟩,
      ⟨some 27, .ext (.t 22) 1, .none, false⟩,
      ⟨some 7, .alloc [.int .i64 0, .int .i64 0], .none, false⟩,
      ⟨.none, .store 2 (.t 7) (.t 26), .none, false⟩,
      ⟨some 8, .asg (.t 27), .none, false⟩] false [1, 2, 3, 7, 8])
    (.seq (.reg [⟨some 29, .load true 2 (.t 3), .none, false⟩,
      ⟨some 30, .call 19 [.t 29] [], .none, false⟩,
      ⟨some 31, .call 9 [.t 30] [], .none, false⟩,
      ⟨some 28, .mv (.t 31), .none, false⟩,
      ⟨some 32, .ext (.t 28) 0, .none, false⟩,
      ⟨some 33, .ext (.t 28) 1, .none, false⟩,
      ⟨some 9, .alloc [.int .i64 0, .int .i64 0], .none, false⟩,
      ⟨.none, .store 2 (.t 9) (.t 32), .none, false⟩,
      ⟨some 10, .asg (.t 33), .none, false⟩] false [1, 2, 3, 7, 8, 9, 10])
    (.seq x5_1
    (.cond (.t 49) (.seq (.reg [⟨some 6, .asg (.k (.bool false)), .none, false⟩] false [6])
      (.ret))
    (.skip) [1, 2]))))
  (.skip) [1, 2]
def x5_3 : XC :=
  .reg [⟨some 55, .mv (.t 12), .none, false⟩,
    ⟨some 56, .bin .eql (.t 55) (.k (.int .i64 0)), .none, false⟩,
    ⟨some 57, .mv (.t 56), .none, false⟩,
    ⟨some 58, .load true 2 (.t 11), some (57, true), false⟩,
    ⟨some 59, .call 17 [.t 58] [], some (57, true), false⟩,
    ⟨some 60, .mv (.t 1), some (57, true), false⟩,
    ⟨some 61, .bin .neq (.t 59) (.t 60), some (57, true), false⟩,
    ⟨some 62, .pick (.t 57) (.t 61) (.k (.bool false)), .none, false⟩] false [2, 62]
def x5_4 : XC :=
  .reg [⟨some 68, .mv (.t 14), .none, false⟩,
    ⟨some 69, .bin .eql (.t 68) (.k (.int .i64 0)), .none, false⟩,
    ⟨some 70, .mv (.t 69), .none, false⟩,
    ⟨some 71, .load true 2 (.t 13), some (70, true), false⟩,
    ⟨some 72, .call 19 [.t 71] [], some (70, true), false⟩,
    ⟨some 73, .mv (.t 2), some (70, true), false⟩,
    ⟨some 74, .bin .neq (.t 72) (.t 73), some (70, true), false⟩,
    ⟨some 75, .pick (.t 70) (.t 74) (.k (.bool false)), .none, false⟩] false [75]
def x5 : XF := ⟨3, 77, [.tmp 6],
  .seq (.reg [⟨some 3, .box (.t 0), .none, false⟩,
    ⟨some 6, .asg (.k (.bool false)), .none, false⟩] false [1, 2, 3])
  (.seq (.seq (.reg [⟨some 15, .mv (.t 1), .none, false⟩,
    ⟨some 16, .len true (.t 15), .none, false⟩,
    ⟨some 17, .bin .gtr (.t 16) (.k (.int .i64 500)), .none, false⟩] false [1, 2, 3, 17])
  (.cond (.t 17) (.seq (.reg [⟨some 18, .call 6 [] [], .none, false⟩,
      ⟨some 6, .asg (.t 18), .none, false⟩] false [6])
    (.ret))
  (.skip) [1, 2, 3]))
  (.seq (.seq (.reg [⟨some 19, .load true 2 (.t 3), .none, false⟩,
    ⟨some 20, .call 12 [.t 19] [], .none, false⟩,
    ⟨some 21, .bin .eql (.t 20) (.k (.int .i64 0)), .none, false⟩] false [1, 2, 3, 21])
  x5_2)
  (.seq (.seq (.reg [⟨some 51, .mv (.t 1), .none, false⟩,
    ⟨some 52, .call 7 [.t 51] [], .none, false⟩,
    ⟨some 50, .mv (.t 52), .none, false⟩,
    ⟨some 53, .ext (.t 50) 0, .none, false⟩,
    ⟨some 54, .ext (.t 50) 1, .none, false⟩,
    ⟨some 11, .alloc [.int .i64 0, .int .i64 0], .none, false⟩,
    ⟨.none, .store 2 (.t 11) (.t 53), .none, false⟩,
    ⟨some 12, .asg (.t 54), .none, false⟩] false [1, 2, 11, 12])
  (.seq x5_3
  (.cond (.t 62) (.seq (.reg [⟨some 6, .asg (.k (.bool false)), .none, false⟩] false [6])
    (.ret))
  (.skip) [2])))
  (.seq (.seq (.reg [⟨some 64, .mv (.t 2), .none, false⟩,
    ⟨some 65, .call 9 [.t 64] [], .none, false⟩,
    ⟨some 63, .mv (.t 65), .none, false⟩,
    ⟨some 66, .ext (.t 63) 0, .none, false⟩,
    ⟨some 67, .ext (.t 63) 1, .none, false⟩,
    ⟨some 13, .alloc [.int .i64 0, .int .i64 0], .none, false⟩,
    ⟨.none, .store 2 (.t 13) (.t 66), .none, false⟩,
    ⟨some 14, .asg (.t 67), .none, false⟩] false [2, 13, 14])
  (.seq x5_4
  (.cond (.t 75) (.seq (.reg [⟨some 6, .asg (.k (.bool false)), .none, false⟩] false [6])
    (.ret))
  (.skip) [])))
  (.seq (.reg [⟨some 76, .call 6 [] [], .none, false⟩,
    ⟨some 6, .asg (.t 76), .none, false⟩] false [6])
  (.ret)))))), [], false⟩
def x6 : XF := ⟨0, 69, [.tmp 0],
  .seq (.reg [⟨some 0, .asg (.k (.bool false)), .none, false⟩] false [])
  (.seq (.reg [⟨some 10, .call 7 [.k (.str [105, 112, 112])] [], .none, false⟩,
    ⟨some 9, .mv (.t 10), .none, false⟩,
    ⟨some 11, .ext (.t 9) 0, .none, false⟩,
    ⟨some 12, .ext (.t 9) 1, .none, false⟩,
    ⟨some 1, .alloc [.int .i64 0, .int .i64 0], .none, false⟩,
    ⟨.none, .store 2 (.t 1) (.t 11), .none, false⟩,
    ⟨some 2, .asg (.t 12), .none, false⟩] false [1, 2])
  (.seq (.reg [⟨some 14, .call 7 [.k (.str [])] [], .none, false⟩,
    ⟨some 13, .mv (.t 14), .none, false⟩,
    ⟨some 15, .ext (.t 13) 0, .none, false⟩,
    ⟨some 16, .ext (.t 13) 1, .none, false⟩,
    ⟨some 3, .alloc [.int .i64 0, .int .i64 0], .none, false⟩,
    ⟨.none, .store 2 (.t 3) (.t 15), .none, false⟩,
    ⟨some 4, .asg (.t 16), .none, false⟩] false [1, 2, 4])
  (.seq (.reg [⟨some 18, .call 9 [.k (.int .i64 195)] [], .none, false⟩,
    ⟨some 17, .mv (.t 18), .none, false⟩,
    ⟨some 19, .ext (.t 17) 0, .none, false⟩,
    ⟨some 20, .ext (.t 17) 1, .none, false⟩,
    ⟨some 5, .alloc [.int .i64 0, .int .i64 0], .none, false⟩,
    ⟨.none, .store 2 (.t 5) (.t 19), .none, false⟩,
    ⟨some 6, .asg (.t 20), .none, false⟩] false [1, 2, 4, 5, 6])
  (.seq (.reg [⟨some 22, .call 9 [.k (.int .i64 259)] [], .none, false⟩,
    ⟨some 21, .mv (.t 22), .none, false⟩,
    ⟨some 23, .ext (.t 21) 0, .none, false⟩,
    ⟨some 24, .ext (.t 21) 1, .none, false⟩,
    ⟨some 7, .alloc [.int .i64 0, .int .i64 0], .none, false⟩,
    ⟨.none, .store 2 (.t 7) (.t 23), .none, false⟩,
    ⟨some 8, .asg (.t 24), .none, false⟩] false [1, 2, 4, 5, 6, 8])
  (.seq (.reg [⟨some 25, .load true 2 (.t 1), .none, false⟩,
    ⟨some 26, .build [.int .i64 0, .int .i64 0] [(0, 1, .k (.int .i64 3)), (1, 1, .k (.int .i64 6))], .none, false⟩,
    ⟨some 27, .aeq false [.int .i64 0, .int .i64 0] (.t 25) (.t 26), .none, false⟩,
    ⟨some 28, .mv (.t 27), .none, false⟩,
    ⟨some 29, .mv (.t 2), some (28, true), false⟩,
    ⟨some 30, .bin .eql (.t 29) (.k (.int .i64 0)), some (28, true), false⟩,
    ⟨some 31, .pick (.t 28) (.t 30) (.k (.bool false)), .none, false⟩,
    ⟨some 32, .mv (.t 31), .none, false⟩,
    ⟨some 33, .mv (.t 4), some (32, true), false⟩,
    ⟨some 34, .bin .eql (.t 33) (.k (.int .i64 16)), some (32, true), false⟩,
    ⟨some 35, .pick (.t 32) (.t 34) (.k (.bool false)), .none, false⟩,
    ⟨some 36, .mv (.t 35), .none, false⟩,
    ⟨some 37, .load true 2 (.t 5), some (36, true), false⟩,
    ⟨some 38, .load true 2 (.t 1), some (36, true), false⟩,
    ⟨some 39, .aeq false [.int .i64 0, .int .i64 0] (.t 37) (.t 38), some (36, true), false⟩,
    ⟨some 40, .pick (.t 36) (.t 39) (.k (.bool false)), .none, false⟩,
    ⟨some 41, .mv (.t 40), .none, false⟩,
    ⟨some 42, .mv (.t 6), some (41, true), false⟩,
    ⟨some 43, .bin .eql (.t 42) (.k (.int .i64 0)), some (41, true), false⟩,
    ⟨some 44, .pick (.t 41) (.t 43) (.k (.bool false)), .none, false⟩,
    ⟨some 45, .mv (.t 44), .none, false⟩,
    ⟨some 46, .mv (.t 8), some (45, true), false⟩,
    ⟨some 47, .bin .eql (.t 46) (.k (.int .i64 16)), some (45, true), false⟩,
    ⟨some 48, .pick (.t 45) (.t 47) (.k (.bool false)), .none, false⟩,
    ⟨some 49, .mv (.t 48), .none, false⟩,
    ⟨some 50, .load true 2 (.t 1), some (49, true), false⟩,
    ⟨some 51, .call 17 [.t 50] [], some (49, true), false⟩,
    ⟨some 52, .bin .eql (.t 51) (.k (.str [105, 112, 112])), some (49, true), false⟩,
    ⟨some 53, .pick (.t 49) (.t 52) (.k (.bool false)), .none, false⟩,
    ⟨some 54, .mv (.t 53), .none, false⟩,
    ⟨some 55, .load true 2 (.t 1), some (54, true), false⟩,
    ⟨some 56, .call 19 [.t 55] [], some (54, true), false⟩,
    ⟨some 57, .bin .eql (.t 56) (.k (.int .i64 195)), some (54, true), false⟩,
    ⟨some 58, .pick (.t 54) (.t 57) (.k (.bool false)), .none, false⟩,
    ⟨some 59, .mv (.t 58), .none, false⟩,
    ⟨some 60, .load true 2 (.t 1), some (59, true), false⟩,
    ⟨some 61, .call 15 [.t 60] [], some (59, true), false⟩,
    ⟨some 62, .bin .eql (.t 61) (.k (.int .i64 2)), some (59, true), false⟩,
    ⟨some 63, .pick (.t 59) (.t 62) (.k (.bool false)), .none, false⟩,
    ⟨some 64, .mv (.t 63), .none, false⟩,
    ⟨some 65, .load true 2 (.t 1), some (64, true), false⟩,
    ⟨some 66, .call 11 [.t 65] [], some (64, true), false⟩,
    ⟨some 67, .bin .eql (.t 66) (.k (.int .i64 0)), some (64, true), false⟩,
    ⟨some 68, .pick (.t 64) (.t 67) (.k (.bool false)), .none, false⟩,
    ⟨some 0, .asg (.t 68), .none, false⟩] false [0])
  (.ret)))))), [], false⟩
def T : Nat → Option XF
  | 3 => some x3
  | 4 => some x4
  | 5 => some x5
  | 6 => some x6
  | 7 => some x7
  | 8 => some x8
  | 9 => some x9
  | 10 => some x10
  | 11 => some x11
  | 12 => some x12
  | 13 => some x13
  | 14 => some x14
  | 15 => some x15
  | 16 => some x16
  | 17 => some x17
  | 18 => some x18
  | 19 => some x19
  | 20 => some x20
  | 21 => some x21
  | 22 => some x22
  | _ => Option.none
def hintsOf : Nat → List Hint
  | 21 => [⟨[0], 1⟩, ⟨[0], 2⟩]
  | 7 => [⟨[0, 2], 2⟩, ⟨[0, 2, 7], 2⟩, ⟨[2, 3], 3⟩, ⟨[0, 2], 0⟩, ⟨[0, 2, 16], 8⟩, ⟨[2, 3], 3⟩, ⟨[0, 2], 0⟩, ⟨[0, 2, 4], 5⟩, ⟨[0, 2, 4, 5], 1⟩, ⟨[0, 2, 4, 5, 24], 4⟩, ⟨[2, 4], 0⟩, ⟨[0, 2, 4, 5], 0⟩, ⟨[0, 2, 4, 5, 29], 3⟩, ⟨[0, 2, 4, 5, 29, 31], 2⟩, ⟨[0, 2, 4, 5], 7⟩, ⟨[0, 2, 4, 5, 40], 2⟩, ⟨[2, 3], 3⟩, ⟨[0, 2, 4, 5], 0⟩, ⟨[0, 2, 4, 5], 0⟩, ⟨[0, 2, 4, 5], 0⟩, ⟨[0, 2, 4, 5], 0⟩, ⟨[0, 2, 4, 5], 3⟩, ⟨[0, 2, 4, 5], 0⟩, ⟨[2, 4], 0⟩, ⟨[2, 3], 3⟩]
  | 22 => [⟨[0], 1⟩, ⟨[0, 3], 1⟩, ⟨[0, 3, 4], 1⟩, ⟨[0, 3, 4, 7], 3⟩, ⟨[3], 0⟩, ⟨[0, 3, 4], 0⟩, ⟨[0, 3, 4], 3⟩, ⟨[0, 3, 4], 0⟩, ⟨[0, 3, 4], 3⟩, ⟨[0, 3, 4], 0⟩, ⟨[3], 0⟩, ⟨[2], 2⟩]
  | 8 => [⟨[0, 2], 2⟩, ⟨[0, 2, 7], 2⟩, ⟨[2, 3], 3⟩, ⟨[0, 2], 0⟩, ⟨[0, 2, 15], 7⟩, ⟨[2, 3], 3⟩, ⟨[0, 2], 0⟩, ⟨[0, 2, 4], 1⟩, ⟨[0, 2, 4, 5], 1⟩, ⟨[0, 2, 4, 5, 20], 4⟩, ⟨[0, 2, 4], 0⟩, ⟨[0, 2, 4, 5], 0⟩, ⟨[0, 2, 4, 5, 32], 10⟩, ⟨[2, 3], 3⟩, ⟨[0, 2, 4, 5], 0⟩, ⟨[0, 2, 4, 5, 37], 4⟩, ⟨[0, 2, 4, 5], 5⟩, ⟨[0, 2, 4, 5], 0⟩, ⟨[0, 2, 4, 5], 0⟩, ⟨[0, 2, 4, 5], 3⟩, ⟨[0, 2, 4, 5], 0⟩, ⟨[0, 2, 4], 0⟩, ⟨[2, 3], 6⟩]
  | 11 => [⟨[1], 2⟩, ⟨[23], 21⟩, ⟨[2], 1⟩, ⟨[], 0⟩, ⟨[2], 1⟩]
  | 9 => [⟨[0, 2], 2⟩, ⟨[0, 2, 11], 6⟩, ⟨[2, 3], 3⟩, ⟨[0, 2], 0⟩, ⟨[2, 4], 7⟩, ⟨[2, 4, 5], 3⟩, ⟨[2, 4, 5, 21], 2⟩, ⟨[2, 3], 4⟩, ⟨[2, 4], 0⟩, ⟨[2, 3], 3⟩]
  | 12 => [⟨[1], 2⟩, ⟨[1, 10], 8⟩, ⟨[2], 1⟩, ⟨[1], 0⟩, ⟨[21], 11⟩, ⟨[2], 1⟩, ⟨[], 0⟩, ⟨[2], 1⟩]
  | 10 => [⟨[0, 2], 2⟩, ⟨[0, 2, 11], 6⟩, ⟨[2, 3], 3⟩, ⟨[0, 2], 0⟩, ⟨[2, 4], 7⟩, ⟨[2, 4, 5], 3⟩, ⟨[2, 4, 5, 21], 2⟩, ⟨[2, 3], 4⟩, ⟨[2, 4], 0⟩, ⟨[2, 3], 3⟩]
  | 13 => [⟨[1, 2], 2⟩, ⟨[4], 17⟩]
  | 14 => [⟨[1, 2], 2⟩, ⟨[1, 2, 12], 8⟩, ⟨[4], 1⟩, ⟨[1, 2], 0⟩, ⟨[4], 7⟩]
  | 15 => [⟨[1], 2⟩, ⟨[1, 3], 1⟩, ⟨[1, 3, 6, 7], 3⟩, ⟨[1, 3, 6, 7, 8], 1⟩, ⟨[3], 0⟩, ⟨[1, 3, 6, 7], 0⟩, ⟨[1, 3, 4, 6, 7], 2⟩, ⟨[1, 3, 6, 7, 12], 3⟩, ⟨[1, 3, 6, 7], 3⟩, ⟨[1, 3, 6, 7], 0⟩, ⟨[1, 3, 6, 7], 0⟩, ⟨[1, 3, 6, 7], 2⟩, ⟨[1, 3, 6, 7], 0⟩, ⟨[3], 0⟩, ⟨[2], 2⟩]
  | 16 => [⟨[1], 2⟩, ⟨[1, 3], 1⟩, ⟨[1, 3, 4], 1⟩, ⟨[1, 3, 4, 8], 4⟩, ⟨[3], 0⟩, ⟨[1, 3, 4], 0⟩, ⟨[1, 3, 4, 13], 3⟩, ⟨[1, 3, 4], 3⟩, ⟨[1, 3, 4], 0⟩, ⟨[1, 3, 4], 0⟩, ⟨[1, 3, 4], 3⟩, ⟨[1, 3, 4], 0⟩, ⟨[3], 0⟩, ⟨[2], 2⟩]
  | 17 => [⟨[1], 2⟩, ⟨[1, 7], 3⟩, ⟨[2], 1⟩, ⟨[1], 0⟩, ⟨[1, 3], 4⟩, ⟨[1, 3, 12, 13], 3⟩, ⟨[1, 3, 12, 13, 14], 1⟩, ⟨[3], 0⟩, ⟨[1, 3, 12, 13], 0⟩, ⟨[1, 3, 4, 12, 13], 2⟩, ⟨[1, 3, 4, 12, 13], 4⟩, ⟨[1, 3, 4, 12, 13, 21], 3⟩, ⟨[1, 3, 12, 13], 4⟩, ⟨[1, 3, 12, 13], 0⟩, ⟨[1, 3, 12, 13], 0⟩, ⟨[1, 3, 12, 13], 2⟩, ⟨[1, 3, 12, 13], 0⟩, ⟨[3], 0⟩, ⟨[2], 3⟩]
  | 18 => [⟨[1], 2⟩, ⟨[1, 3], 1⟩, ⟨[1, 3, 4], 1⟩, ⟨[1, 3, 4, 8], 4⟩, ⟨[3], 0⟩, ⟨[1, 3, 4], 0⟩, ⟨[1, 3, 4, 13], 3⟩, ⟨[1, 3, 4], 3⟩, ⟨[1, 3, 4], 3⟩, ⟨[1, 3, 4], 0⟩, ⟨[1, 3, 4], 0⟩, ⟨[1, 3, 4], 3⟩, ⟨[1, 3, 4], 0⟩, ⟨[3], 0⟩, ⟨[3, 19], 2⟩, ⟨[2], 1⟩, ⟨[3], 0⟩, ⟨[2], 2⟩]
  | 19 => [⟨[1], 2⟩, ⟨[2], 7⟩]
  | 20 => [⟨[1], 2⟩, ⟨[2], 7⟩]
  | 3 => [⟨[0, 2, 4], 2⟩, ⟨[0, 2, 4, 17], 3⟩, ⟨[6], 2⟩, ⟨[0, 2, 4], 0⟩, ⟨[0, 2, 4, 7, 8], 8⟩, ⟨[2, 4, 7, 8, 9, 10], 8⟩, ⟨[2, 4, 7, 8, 9, 10, 11, 12], 8⟩, ⟨[4, 7, 8, 9, 10, 11, 12, 13, 14], 8⟩, ⟨[6], 28⟩]
  | 4 => [⟨[1, 2], 2⟩, ⟨[1, 2, 7], 3⟩, ⟨[4], 2⟩, ⟨[1, 2], 0⟩, ⟨[4], 31⟩]
  | 5 => [⟨[1, 2, 3], 2⟩, ⟨[1, 2, 3, 17], 3⟩, ⟨[6], 2⟩, ⟨[1, 2, 3], 0⟩, ⟨[1, 2, 3, 21], 3⟩, ⟨[1, 2, 3, 7, 8], 9⟩, ⟨[1, 2, 3, 7, 8, 9, 10], 9⟩, ⟨[1, 2, 49], 16⟩, ⟨[6], 1⟩, ⟨[1, 2], 0⟩, ⟨[1, 2], 0⟩, ⟨[1, 2, 11, 12], 8⟩, ⟨[2, 62], 8⟩, ⟨[6], 1⟩, ⟨[2], 0⟩, ⟨[2, 13, 14], 8⟩, ⟨[75], 8⟩, ⟨[6], 1⟩, ⟨[], 0⟩, ⟨[6], 2⟩]
  | 6 => [⟨[], 1⟩, ⟨[1, 2], 7⟩, ⟨[1, 2, 4], 7⟩, ⟨[1, 2, 4, 5, 6], 7⟩, ⟨[1, 2, 4, 5, 6, 8], 7⟩, ⟨[0], 45⟩]
  | _ => []
end Go.Ab

/-
  Printed by gen.py.
-/
namespace Go.Ab
open Go
set_option linter.unusedVariables false
set_option linter.unusedSimpArgs false
set_option maxRecDepth 100000
set_option maxHeartbeats 4000000
/-- function f of the program is x -/
def Ok1 (P : Program) (f : Nat) (x : XF) : Prop := ∃ fn code hints, P.funcs[f]? = some fn ∧ (fn.name == "runtime.NumGoroutine") = false ∧ fn.body = some code ∧ x.np ≤ fn.ntmps ∧ trC P (fun d => decide (d < fn.ntmps) && !x.prot.contains d) code hints = some (x.body, []) ∧ trRs P fn.results.toList = some x.res
theorem tok3 : Ok1 Go.Proofs.Try.prog 3 x3 := ⟨Go.Proofs.Try.f3, _, hintsOf 3, Go.Proofs.Try.func3, by kernel_rfl, rfl, by decide, by kernel_rfl, by kernel_rfl⟩
theorem tok4 : Ok1 Go.Proofs.Try.prog 4 x4 := ⟨Go.Proofs.Try.f4, _, hintsOf 4, Go.Proofs.Try.func4, by kernel_rfl, rfl, by decide, by kernel_rfl, by kernel_rfl⟩
theorem tok5 : Ok1 Go.Proofs.Try.prog 5 x5 := ⟨Go.Proofs.Try.f5, _, hintsOf 5, Go.Proofs.Try.func5, by kernel_rfl, rfl, by decide, by kernel_rfl, by kernel_rfl⟩
theorem tok6 : Ok1 Go.Proofs.Try.prog 6 x6 := ⟨Go.Proofs.Try.f6, _, hintsOf 6, Go.Proofs.Try.func6, by kernel_rfl, rfl, by decide, by kernel_rfl, by kernel_rfl⟩
theorem tok7 : Ok1 Go.Proofs.Try.prog 7 x7 := ⟨Go.Proofs.Try.f7, _, hintsOf 7, Go.Proofs.Try.func7, by kernel_rfl, rfl, by decide, by kernel_rfl, by kernel_rfl⟩
theorem tok8 : Ok1 Go.Proofs.Try.prog 8 x8 := ⟨Go.Proofs.Try.f8, _, hintsOf 8, Go.Proofs.Try.func8, by kernel_rfl, rfl, by decide, by kernel_rfl, by kernel_rfl⟩
theorem tok9 : Ok1 Go.Proofs.Try.prog 9 x9 := ⟨Go.Proofs.Try.f9, _, hintsOf 9, Go.Proofs.Try.func9, by kernel_rfl, rfl, by decide, by kernel_rfl, by kernel_rfl⟩
theorem tok10 : Ok1 Go.Proofs.Try.prog 10 x10 := ⟨Go.Proofs.Try.f10, _, hintsOf 10, Go.Proofs.Try.func10, by kernel_rfl, rfl, by decide, by kernel_rfl, by kernel_rfl⟩
theorem tok11 : Ok1 Go.Proofs.Try.prog 11 x11 := ⟨Go.Proofs.Try.f11, _, hintsOf 11, Go.Proofs.Try.func11, by kernel_rfl, rfl, by decide, by kernel_rfl, by kernel_rfl⟩
theorem tok12 : Ok1 Go.Proofs.Try.prog 12 x12 := ⟨Go.Proofs.Try.f12, _, hintsOf 12, Go.Proofs.Try.func12, by kernel_rfl, rfl, by decide, by kernel_rfl, by kernel_rfl⟩
theorem tok13 : Ok1 Go.Proofs.Try.prog 13 x13 := ⟨Go.Proofs.Try.f13, _, hintsOf 13, Go.Proofs.Try.func13, by kernel_rfl, rfl, by decide, by kernel_rfl, by kernel_rfl⟩
theorem tok14 : Ok1 Go.Proofs.Try.prog 14 x14 := ⟨Go.Proofs.Try.f14, _, hintsOf 14, Go.Proofs.Try.func14, by kernel_rfl, rfl, by decide, by kernel_rfl, by kernel_rfl⟩
theorem tok15 : Ok1 Go.Proofs.Try.prog 15 x15 := ⟨Go.Proofs.Try.f15, _, hintsOf 15, Go.Proofs.Try.func15, by kernel_rfl, rfl, by decide, by kernel_rfl, by kernel_rfl⟩
theorem tok16 : Ok1 Go.Proofs.Try.prog 16 x16 := ⟨Go.Proofs.Try.f16, _, hintsOf 16, Go.Proofs.Try.func16, by kernel_rfl, rfl, by decide, by kernel_rfl, by kernel_rfl⟩
theorem tok17 : Ok1 Go.Proofs.Try.prog 17 x17 := ⟨Go.Proofs.Try.f17, _, hintsOf 17, Go.Proofs.Try.func17, by kernel_rfl, rfl, by decide, by kernel_rfl, by kernel_rfl⟩
theorem tok18 : Ok1 Go.Proofs.Try.prog 18 x18 := ⟨Go.Proofs.Try.f18, _, hintsOf 18, Go.Proofs.Try.func18, by kernel_rfl, rfl, by decide, by kernel_rfl, by kernel_rfl⟩
theorem tok19 : Ok1 Go.Proofs.Try.prog 19 x19 := ⟨Go.Proofs.Try.f19, _, hintsOf 19, Go.Proofs.Try.func19, by kernel_rfl, rfl, by decide, by kernel_rfl, by kernel_rfl⟩
theorem tok20 : Ok1 Go.Proofs.Try.prog 20 x20 := ⟨Go.Proofs.Try.f20, _, hintsOf 20, Go.Proofs.Try.func20, by kernel_rfl, rfl, by decide, by kernel_rfl, by kernel_rfl⟩
theorem tok21 : Ok1 Go.Proofs.Try.prog 21 x21 := ⟨Go.Proofs.Try.f21, _, hintsOf 21, Go.Proofs.Try.func21, by kernel_rfl, rfl, by decide, by kernel_rfl, by kernel_rfl⟩
theorem tok22 : Ok1 Go.Proofs.Try.prog 22 x22 := ⟨Go.Proofs.Try.f22, _, hintsOf 22, Go.Proofs.Try.func22, by kernel_rfl, rfl, by decide, by kernel_rfl, by kernel_rfl⟩
theorem tok : TOk Go.Proofs.Try.prog T := by
  intro f x hx
  unfold T at hx
  split at hx
  · obtain rfl := Option.some.inj hx; exact tok3
  · obtain rfl := Option.some.inj hx; exact tok4
  · obtain rfl := Option.some.inj hx; exact tok5
  · obtain rfl := Option.some.inj hx; exact tok6
  · obtain rfl := Option.some.inj hx; exact tok7
  · obtain rfl := Option.some.inj hx; exact tok8
  · obtain rfl := Option.some.inj hx; exact tok9
  · obtain rfl := Option.some.inj hx; exact tok10
  · obtain rfl := Option.some.inj hx; exact tok11
  · obtain rfl := Option.some.inj hx; exact tok12
  · obtain rfl := Option.some.inj hx; exact tok13
  · obtain rfl := Option.some.inj hx; exact tok14
  · obtain rfl := Option.some.inj hx; exact tok15
  · obtain rfl := Option.some.inj hx; exact tok16
  · obtain rfl := Option.some.inj hx; exact tok17
  · obtain rfl := Option.some.inj hx; exact tok18
  · obtain rfl := Option.some.inj hx; exact tok19
  · obtain rfl := Option.some.inj hx; exact tok20
  · obtain rfl := Option.some.inj hx; exact tok21
  · obtain rfl := Option.some.inj hx; exact tok22
  · cases hx
theorem mixed : Go.Proofs.Try.prog.follows .mixedOrders = true := by kernel_rfl
end Go.Ab

/-
  Printed by gen.py.
-/
namespace Go.Ab
open Go
set_option linter.unusedVariables false
set_option linter.unusedSimpArgs false
set_option maxRecDepth 100000
set_option maxHeartbeats 4000000
open Go.ChangeShapes Go.WideShapes Go.ChangeAt Go.RowKit
theorem own : ownKnob Go.Proofs.Try.prog.godebug = none := by kernel_rfl
theorem laidOut : laidOutB Go.Proofs.Try.prog = true := by kernel_rfl
def RShape (x : Shape) : Prop := Rng .i64 x.Slots ∧ Rng .i64 x.Mask
theorem opnShape (n : Nat) : Opn Go.Proofs.Try.prog (n + 2) 23 cShape RShape := by
  intro H d pvs h
  obtain ⟨ds, g0⟩ := pv_struct Go.Proofs.Try.underlying23 h
  clear h
  obtain ⟨d1, ds1, a1, b1, rfl, h1, g1, rfl⟩ := zipL_cons g0
  obtain ⟨d2, ds2, a2, b2, rfl, h2, g2, rfl⟩ := zipL_cons g1
  obtain rfl := zipL_nil g2
  obtain ⟨x1, rfl, r1⟩ := (opn_int (n := n + 0) Go.Proofs.Try.underlying3 : Opn Go.Proofs.Try.prog (n + 1) 3 (cint .i64) (Rng .i64)) H d1 a1 h1
  obtain ⟨x2, rfl, r2⟩ := (opn_int (n := n + 0) Go.Proofs.Try.underlying3 : Opn Go.Proofs.Try.prog (n + 1) 3 (cint .i64) (Rng .i64)) H d2 a2 h2
  exact ⟨⟨x1, x2⟩, rfl, r1, r2⟩
theorem readShapeReads (H : Type) (ds : List (DataW H)) (ws : List PV) (h : argsPV Go.Proofs.Try.prog 12 [9, 23, 2] ds = some ws) : ∃ (x1 : Str) (x2 : Shape) (x3 : Int), (True) ∧ (RShape x2) ∧ (Rng .i64 x3) ∧ ws = [.str x1, .agg [.int .i64 x2.Slots, .int .i64 x2.Mask], .int .i64 x3] := by
  obtain ⟨d1, ds1, w1, ws1, rfl, rfl, h1, h⟩ := args_cons h
  obtain ⟨d2, ds2, w2, ws2, rfl, rfl, h2, h⟩ := args_cons h
  obtain ⟨d3, ds3, w3, ws3, rfl, rfl, h3, h⟩ := args_cons h
  obtain ⟨rfl, rfl⟩ := args_nil h
  obtain ⟨x1, rfl, r1⟩ := arg_one (by kernel_rfl) (opn_str (n := 11) Go.Proofs.Try.underlying9) h1
  obtain ⟨x2, rfl, r2⟩ := arg_agg (by kernel_rfl) (opnShape 10) h2
  obtain ⟨x3, rfl, r3⟩ := arg_one (by kernel_rfl) (opn_int (n := 11) Go.Proofs.Try.underlying2) h3
  exact ⟨x1, x2, x3, r1, r2, r3, rfl⟩
theorem readShapeTells (H : Type) (ds : List (DataW H)) (ws : List PV) (h : argsPV Go.Proofs.Try.prog 12 [23, 3] ds = some ws) : ∃ (x1 : Shape) (x2 : Int), (RShape x1) ∧ (Rng .i64 x2) ∧ ws = [.agg [.int .i64 x1.Slots, .int .i64 x1.Mask], .int .i64 x2] := by
  obtain ⟨d1, ds1, w1, ws1, rfl, rfl, h1, h⟩ := args_cons h
  obtain ⟨d2, ds2, w2, ws2, rfl, rfl, h2, h⟩ := args_cons h
  obtain ⟨rfl, rfl⟩ := args_nil h
  obtain ⟨x1, rfl, r1⟩ := arg_agg (by kernel_rfl) (opnShape 10) h1
  obtain ⟨x2, rfl, r2⟩ := arg_one (by kernel_rfl) (opn_int (n := 11) Go.Proofs.Try.underlying3) h2
  exact ⟨x1, x2, r1, r2, rfl⟩
theorem readShapeBack (H : Type) (ds : List (DataW H)) (ws : List PV) (h : argsPV Go.Proofs.Try.prog 12 [23, 9, 2] ds = some ws) : ∃ (x1 : Shape) (x2 : Str) (x3 : Int), (RShape x1) ∧ (True) ∧ (Rng .i64 x3) ∧ ws = [.agg [.int .i64 x1.Slots, .int .i64 x1.Mask], .str x2, .int .i64 x3] := by
  obtain ⟨d1, ds1, w1, ws1, rfl, rfl, h1, h⟩ := args_cons h
  obtain ⟨d2, ds2, w2, ws2, rfl, rfl, h2, h⟩ := args_cons h
  obtain ⟨d3, ds3, w3, ws3, rfl, rfl, h3, h⟩ := args_cons h
  obtain ⟨rfl, rfl⟩ := args_nil h
  obtain ⟨x1, rfl, r1⟩ := arg_agg (by kernel_rfl) (opnShape 10) h1
  obtain ⟨x2, rfl, r2⟩ := arg_one (by kernel_rfl) (opn_str (n := 11) Go.Proofs.Try.underlying9) h2
  obtain ⟨x3, rfl, r3⟩ := arg_one (by kernel_rfl) (opn_int (n := 11) Go.Proofs.Try.underlying2) h3
  exact ⟨x1, x2, x3, r1, r2, r3, rfl⟩
end Go.Ab
