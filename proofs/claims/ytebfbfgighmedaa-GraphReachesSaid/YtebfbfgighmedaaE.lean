/-
  Printed by gen.py.
-/
import Derived.Test.YtebfbfgighmedaaC
namespace Go.Ab
open Go
set_option linter.unusedVariables false
set_option linter.unusedSimpArgs false
set_option maxRecDepth 100000
set_option maxHeartbeats 4000000
def q (d : Nat) (o : XOp) : XI := ⟨some d, o, .none, false⟩
def x7_1 : XC :=
  .reg [⟨some 14, .mv (.t 6), .none, false⟩,
 ⟨some 15, .fadr 0 (.t 2), .none, false⟩,
 ⟨some 16, .load false 1 (.t 15), .none, false⟩,
 ⟨some 17, .len false (.t 16), .none, false⟩,
 ⟨some 18, .bin .lss (.t 14) (.t 17), .none, false⟩,
 ⟨some 19, .mv (.t 18), .none, false⟩,
 ⟨some 20, .mv (.t 5), some (19, true), false⟩,
 ⟨some 21, .mv (.t 1), some (19, true), false⟩,
 ⟨some 22, .bin .leq (.t 20) (.t 21), some (19, true), false⟩,
 ⟨some 23, .pick (.t 19) (.t 22) (.k (.bool false)), .none, false⟩] false [1, 2, 5, 6, 23]
def x7_2 : XC :=
  .reg [⟨some 45, .mv (.t 8), .none, false⟩,
 ⟨some 46, .fadr 3 (.t 7), .none, false⟩,
 ⟨some 47, .load false 1 (.t 46), .none, false⟩,
 ⟨some 48, .len false (.t 47), .none, false⟩,
 ⟨some 49, .bin .lss (.t 45) (.t 48), .none, false⟩,
 ⟨some 50, .mv (.t 49), .none, false⟩,
 ⟨some 51, .mv (.t 5), some (50, true), false⟩,
 ⟨some 52, .mv (.t 1), some (50, true), false⟩,
 ⟨some 53, .bin .leq (.t 51) (.t 52), some (50, true), false⟩,
 ⟨some 54, .pick (.t 50) (.t 53) (.k (.bool false)), .none, false⟩] false [1, 2, 5, 6, 7, 8, 54]
def x7_3 : XC :=
  .reg [⟨some 57, .mv (.t 9), .none, false⟩,
 ⟨some 58, .fadr 3 (.t 7), .none, false⟩,
 ⟨some 59, .load false 1 (.t 58), .none, false⟩,
 ⟨some 60, .mv (.t 8), .none, false⟩,
 ⟨some 61, .iadr 1 .none (.t 59) (.t 60), .none, false⟩,
 ⟨some 62, .load false 1 (.t 61), .none, false⟩,
 ⟨some 63, .len false (.t 62), .none, false⟩,
 ⟨some 64, .bin .lss (.t 57) (.t 63), .none, false⟩,
 ⟨some 65, .mv (.t 64), .none, false⟩,
 ⟨some 66, .mv (.t 5), some (65, true), false⟩,
 ⟨some 67, .mv (.t 1), some (65, true), false⟩,
 ⟨some 68, .bin .leq (.t 66) (.t 67), some (65, true), false⟩,
 ⟨some 69, .pick (.t 65) (.t 68) (.k (.bool false)), .none, false⟩] false [1, 2, 5, 6, 7, 8, 9, 69]
def x7_4 : XC :=
  .seq (.seq x7_3
 (.cond (.t 69) (.skip)
 (.exit 4 [1, 2, 5, 6, 7, 8]) [1, 2, 5, 6, 7, 8, 9]))
 (.seq (.block 5 (.seq (.reg [⟨some 72, .fadr 3 (.t 7), .none, false⟩,
 ⟨some 73, .load false 1 (.t 72), .none, false⟩,
 ⟨some 74, .mv (.t 8), .none, false⟩,
 ⟨some 75, .iadr 1 .none (.t 73) (.t 74), .none, false⟩,
 ⟨some 76, .load false 1 (.t 75), .none, false⟩,
 ⟨some 77, .mv (.t 9), .none, false⟩,
 ⟨some 78, .iadr 8 .none (.t 76) (.t 77), .none, false⟩,
 ⟨some 79, .load true 8 (.t 78), .none, false⟩,
 ⟨some 10, .alloc [.int .i64 0, .int .i64 0, .int .i64 0, .int .i64 0, .nils, .nils, .str [], .int .i64 0], .none, false⟩,
 ⟨.none, .store 8 (.t 10) (.t 79), .none, false⟩] false [1, 2, 5, 6, 7, 8, 9, 10])
 (.reg [⟨some 80, .mv (.t 5), .none, false⟩,
 ⟨some 81, .bin .add (.t 80) (.k (.int .i64 1)), .none, false⟩,
 ⟨some 82, .fadr 4 (.t 10), .none, false⟩,
 ⟨some 83, .load false 1 (.t 82), .none, false⟩,
 ⟨some 84, .len false (.t 83), .none, false⟩,
 ⟨some 85, .bin .quo (.t 84) (.k (.int .i64 4)), .none, false⟩,
 ⟨some 86, .bin .add (.t 81) (.t 85), .none, false⟩,
 ⟨some 87, .fadr 5 (.t 10), .none, false⟩,
 ⟨some 88, .load false 1 (.t 87), .none, false⟩,
 ⟨some 89, .len false (.t 88), .none, false⟩,
 ⟨some 90, .bin .quo (.t 89) (.k (.int .i64 4)), .none, false⟩,
 ⟨some 91, .bin .add (.t 86) (.t 90), .none, false⟩,
 ⟨some 92, .fadr 6 (.t 10), .none, false⟩,
 ⟨some 93, .load false 1 (.t 92), .none, false⟩,
 ⟨some 94, .len true (.t 93), .none, false⟩,
 ⟨some 95, .bin .quo (.t 94) (.k (.int .i64 30)), .none, false⟩,
 ⟨some 96, .bin .add (.t 91) (.t 95), .none, false⟩,
 ⟨some 5, .asg (.t 96), .none, false⟩] false [1, 2, 5, 6, 7, 8, 9])) [1, 2, 5, 6, 7, 8, 9])
 (.reg [⟨some 70, .mv (.t 9), .none, false⟩,
 ⟨some 71, .bin .add (.t 70) (.k (.int .i64 1)), .none, false⟩,
 ⟨some 9, .asg (.t 71), .none, false⟩] false [1, 2, 5, 6, 7, 8, 9]))
def x7_5 : XC :=
  .seq (.seq x7_2
 (.cond (.t 54) (.skip)
 (.exit 2 [1, 2, 5, 6]) [1, 2, 5, 6, 7, 8]))
 (.seq (.block 3 (.seq (.reg [⟨some 9, .asg (.k (.int .i64 0)), .none, false⟩] false [1, 2, 5, 6, 7, 8, 9])
 (.block 4 (.loop x7_4 [1, 2, 5, 6, 7, 8, 9]) [1, 2, 5, 6, 7, 8])) [1, 2, 5, 6, 7, 8])
 (.reg [⟨some 55, .mv (.t 8), .none, false⟩,
 ⟨some 56, .bin .add (.t 55) (.k (.int .i64 1)), .none, false⟩,
 ⟨some 8, .asg (.t 56), .none, false⟩] false [1, 2, 5, 6, 7, 8]))
def x7_6 : XC :=
  .seq (.seq x7_1
 (.cond (.t 23) (.skip)
 (.exit 0 [5]) [1, 2, 5, 6]))
 (.seq (.block 1 (.seq (.reg [⟨some 26, .fadr 0 (.t 2), .none, false⟩,
 ⟨some 27, .load false 1 (.t 26), .none, false⟩,
 ⟨some 28, .mv (.t 6), .none, false⟩,
 ⟨some 29, .iadr 5 .none (.t 27) (.t 28), .none, false⟩,
 ⟨some 30, .load true 5 (.t 29), .none, false⟩,
 ⟨some 7, .alloc [.str [], .nils, .int .i64 0, .nils, .int .i64 0], .none, false⟩,
 ⟨.none, .store 5 (.t 7) (.t 30), .none, false⟩] false [1, 2, 5, 6, 7])
 (.seq (.reg [⟨some 31, .mv (.t 5), .none, false⟩,
 ⟨some 32, .fadr 3 (.t 7), .none, false⟩,
 ⟨some 33, .load false 1 (.t 32), .none, false⟩,
 ⟨some 34, .len false (.t 33), .none, false⟩,
 ⟨some 35, .bin .add (.t 31) (.t 34), .none, false⟩,
 ⟨some 36, .fadr 1 (.t 7), .none, false⟩,
 ⟨some 37, .load false 1 (.t 36), .none, false⟩,
 ⟨some 38, .len false (.t 37), .none, false⟩,
 ⟨some 39, .bin .add (.t 35) (.t 38), .none, false⟩,
 ⟨some 40, .fadr 0 (.t 7), .none, false⟩,
 ⟨some 41, .load false 1 (.t 40), .none, false⟩,
 ⟨some 42, .len true (.t 41), .none, false⟩,
 ⟨some 43, .bin .quo (.t 42) (.k (.int .i64 30)), .none, false⟩,
 ⟨some 44, .bin .add (.t 39) (.t 43), .none, false⟩,
 ⟨some 5, .asg (.t 44), .none, false⟩] false [1, 2, 5, 6, 7])
 (.seq (.reg [⟨some 8, .asg (.k (.int .i64 0)), .none, false⟩] false [1, 2, 5, 6, 7, 8])
 (.block 2 (.loop x7_5 [1, 2, 5, 6, 7, 8]) [1, 2, 5, 6])))) [1, 2, 5, 6])
 (.reg [⟨some 24, .mv (.t 6), .none, false⟩,
 ⟨some 25, .bin .add (.t 24) (.k (.int .i64 1)), .none, false⟩,
 ⟨some 6, .asg (.t 25), .none, false⟩] false [1, 2, 5, 6]))
def x7 : XF := ⟨2, 98, [.tmp 4],
  .seq (.reg [⟨some 2, .box (.t 0), .none, false⟩,
 ⟨some 4, .asg (.k (.int .i64 0)), .none, false⟩] false [1, 2])
 (.seq (.reg [⟨some 11, .fadr 0 (.t 2), .none, false⟩,
 ⟨some 12, .load false 1 (.t 11), .none, false⟩,
 ⟨some 13, .len false (.t 12), .none, false⟩,
 ⟨some 5, .asg (.t 13), .none, false⟩] false [1, 2, 5])
 (.seq (.seq (.reg [⟨some 6, .asg (.k (.int .i64 0)), .none, false⟩] false [1, 2, 5, 6])
 (.block 0 (.loop x7_6 [1, 2, 5, 6]) [5]))
 (.seq (.reg [⟨some 97, .mv (.t 5), .none, false⟩,
 ⟨some 4, .asg (.t 97), .none, false⟩] false [4])
 (.ret)))), [], false, false, .none⟩
def x45 : XF := ⟨0, 50, [.cell 0 true 270],
  .seq (.reg [⟨some 0, .alloc [.str [], .int .i64 0, .int .i64 0, .int .i64 0, .bool false, .bool false, .bool false, .bool false, .bool false, .str [], .int .i64 0, .int .i64 0, .int .i64 0, .bool false, .bool false, .bool false, .bool false, .bool false, .str [], .int .i64 0, .int .i64 0, .int .i64 0, .bool false, .bool false, .bool false, .bool false, .bool false, .str [], .int .i64 0, .int .i64 0, .int .i64 0, .bool false, .bool false, .bool false, .bool false, .bool false, .str [], .int .i64 0, .int .i64 0, .int .i64 0, .bool false, .bool false, .bool false, .bool false, .bool false, .str [], .int .i64 0, .int .i64 0, .int .i64 0, .bool false, .bool false, .bool false, .bool false, .bool false, .str [], .int .i64 0, .int .i64 0, .int .i64 0, .bool false, .bool false, .bool false, .bool false, .bool false, .str [], .int .i64 0, .int .i64 0, .int .i64 0, .bool false, .bool false, .bool false, .bool false, .bool false, .str [], .int .i64 0, .int .i64 0, .int .i64 0, .bool false, .bool false, .bool false, .bool false, .bool false, .str [], .int .i64 0, .int .i64 0, .int .i64 0, .bool false, .bool false, .bool false, .bool false, .bool false, .str [], .int .i64 0, .int .i64 0, .int .i64 0, .bool false, .bool false, .bool false, .bool false, .bool false, .str [], .int .i64 0, .int .i64 0, .int .i64 0, .bool false, .bool false, .bool false, .bool false, .bool false, .str [], .int .i64 0, .int .i64 0, .int .i64 0, .bool false, .bool false, .bool false, .bool false, .bool false, .str [], .int .i64 0, .int .i64 0, .int .i64 0, .bool false, .bool false, .bool false, .bool false, .bool false, .str [], .int .i64 0, .int .i64 0, .int .i64 0, .bool false, .bool false, .bool false, .bool false, .bool false, .str [], .int .i64 0, .int .i64 0, .int .i64 0, .bool false, .bool false, .bool false, .bool false, .bool false, .str [], .int .i64 0, .int .i64 0, .int .i64 0, .bool false, .bool false, .bool false, .bool false, .bool false, .str [], .int .i64 0, .int .i64 0, .int .i64 0, .bool false, .bool false, .bool false, .bool false, .bool false, .str [], .int .i64 0, .int .i64 0, .int .i64 0, .bool false, .bool false, .bool false, .bool false, .bool false, .str [], .int .i64 0, .int .i64 0, .int .i64 0, .bool false, .bool false, .bool false, .bool false, .bool false, .str [], .int .i64 0, .int .i64 0, .int .i64 0, .bool false, .bool false, .bool false, .bool false, .bool false, .str [], .int .i64 0, .int .i64 0, .int .i64 0, .bool false, .bool false, .bool false, .bool false, .bool false, .str [], .int .i64 0, .int .i64 0, .int .i64 0, .bool false, .bool false, .bool false, .bool false, .bool false, .str [], .int .i64 0, .int .i64 0, .int .i64 0, .bool false, .bool false, .bool false, .bool false, .bool false, .str [], .int .i64 0, .int .i64 0, .int .i64 0, .bool false, .bool false, .bool false, .bool false, .bool false, .str [], .int .i64 0, .int .i64 0, .int .i64 0, .bool false, .bool false, .bool false, .bool false, .bool false, .str [], .int .i64 0, .int .i64 0, .int .i64 0, .bool false, .bool false, .bool false, .bool false, .bool false, .str [], .int .i64 0, .int .i64 0, .int .i64 0, .bool false, .bool false, .bool false, .bool false, .bool false, .str [], .int .i64 0, .int .i64 0, .int .i64 0, .bool false, .bool false, .bool false, .bool false, .bool false, .str [], .int .i64 0, .int .i64 0, .int .i64 0, .bool false, .bool false, .bool false, .bool false, .bool false], .none, false⟩] false [0])
 (.seq (.reg [⟨some 1, .build [.str [], .int .i64 0, .int .i64 0, .int .i64 0, .bool false, .bool false, .bool false, .bool false, .bool false] [(0, 1, .k (.str [99, 111, 110, 115, 116])), (3, 1, .k (.int .i64 1))], .none, false⟩,
 ⟨some 2, .build [.int .i64 0, .int .i64 0] [(0, 1, .k (.int .i64 1)), (1, 1, .k (.int .i64 1))], .none, false⟩,
 ⟨some 3, .build [.str [], .int .i64 0, .int .i64 0, .int .i64 0, .bool false, .bool false, .bool false, .bool false, .bool false] [(0, 1, .k (.str [97, 100, 100])), (1, 2, .t 2), (3, 1, .k (.int .i64 1))], .none, false⟩,
 ⟨some 4, .build [.int .i64 0, .int .i64 0] [(0, 1, .k (.int .i64 1)), (1, 1, .k (.int .i64 1))], .none, false⟩,
 ⟨some 5, .build [.str [], .int .i64 0, .int .i64 0, .int .i64 0, .bool false, .bool false, .bool false, .bool false, .bool false] [(0, 1, .k (.str [115, 117, 98])), (1, 2, .t 4), (3, 1, .k (.int .i64 1))], .none, false⟩,
 ⟨some 6, .build [.int .i64 0, .int .i64 0] [(0, 1, .k (.int .i64 1)), (1, 1, .k (.int .i64 1))], .none, false⟩,
 ⟨some 7, .build [.str [], .int .i64 0, .int .i64 0, .int .i64 0, .bool false, .bool false, .bool false, .bool false, .bool false] [(0, 1, .k (.str [109, 117, 108])), (1, 2, .t 6), (3, 1, .k (.int .i64 1))], .none, false⟩,
 ⟨some 8, .build [.int .i64 0, .int .i64 0] [(0, 1, .k (.int .i64 1)), (1, 1, .k (.int .i64 1))], .none, false⟩,
 ⟨some 9, .build [.str [], .int .i64 0, .int .i64 0, .int .i64 0, .bool false, .bool false, .bool false, .bool false, .bool false] [(0, 1, .k (.str [100, 105, 118])), (1, 2, .t 8), (3, 1, .k (.int .i64 1)), (4, 1, .k (.bool true))], .none, false⟩,
 ⟨some 10, .build [.int .i64 0, .int .i64 0] [(0, 1, .k (.int .i64 1)), (1, 1, .k (.int .i64 1))], .none, false⟩,
 ⟨some 11, .build [.str [], .int .i64 0, .int .i64 0, .int .i64 0, .bool false, .bool false, .bool false, .bool false, .bool false] [(0, 1, .k (.str [108, 116])), (1, 2, .t 10), (3, 1, .k (.int .i64 1))], .none, false⟩,
 ⟨some 12, .build [.int .i64 0, .int .i64 0] [(0, 1, .k (.int .i64 1)), (1, 1, .k (.int .i64 1))], .none, false⟩,
 ⟨some 13, .build [.str [], .int .i64 0, .int .i64 0, .int .i64 0, .bool false, .bool false, .bool false, .bool false, .bool false] [(0, 1, .k (.str [101, 113])), (1, 2, .t 12), (3, 1, .k (.int .i64 1))], .none, false⟩,
 ⟨some 14, .build [.str [], .int .i64 0, .int .i64 0, .int .i64 0, .bool false, .bool false, .bool false, .bool false, .bool false] [(0, 1, .k (.str [110, 105, 108])), (3, 1, .k (.int .i64 2))], .none, false⟩,
 ⟨some 15, .build [.int .i64 0, .int .i64 0] [(0, 1, .k (.int .i64 2)), (1, 1, .k (.int .i64 2))], .none, false⟩,
 ⟨some 16, .build [.str [], .int .i64 0, .int .i64 0, .int .i64 0, .bool false, .bool false, .bool false, .bool false, .bool false] [(0, 1, .k (.str [115, 97, 109, 101])), (1, 2, .t 15), (3, 1, .k (.int .i64 1))], .none, false⟩,
 ⟨some 17, .build [.str [], .int .i64 0, .int .i64 0, .int .i64 0, .bool false, .bool false, .bool false, .bool false, .bool false] [(0, 1, .k (.str [110, 101, 119])), (3, 1, .k (.int .i64 2))], .none, false⟩,
 ⟨some 18, .build [.int .i64 0, .int .i64 0] [(0, 1, .k (.int .i64 2))], .none, false⟩,
 ⟨some 19, .build [.str [], .int .i64 0, .int .i64 0, .int .i64 0, .bool false, .bool false, .bool false, .bool false, .bool false] [(0, 1, .k (.str [108, 111, 97, 100, 46, 105])), (1, 2, .t 18), (3, 1, .k (.int .i64 1)), (4, 1, .k (.bool true)), (5, 1, .k (.bool true))], .none, false⟩,
 ⟨some 20, .build [.int .i64 0, .int .i64 0] [(0, 1, .k (.int .i64 2))], .none, false⟩,
 ⟨some 21, .build [.str [], .int .i64 0, .int .i64 0, .int .i64 0, .bool false, .bool false, .bool false, .bool false, .bool false] [(0, 1, .k (.str [108, 111, 97, 100, 46, 112])), (1, 2, .t 20), (3, 1, .k (.int .i64 2)), (4, 1, .k (.bool true)), (5, 1, .k (.bool true))], .none, false⟩,
 ⟨some 22, .build [.int .i64 0, .int .i64 0] [(0, 1, .k (.int .i64 2)), (1, 1, .k (.int .i64 1))], .none, false⟩,
 ⟨some 23, .build [.str [], .int .i64 0, .int .i64 0, .int .i64 0, .bool false, .bool false, .bool false, .bool false, .bool false] [(0, 1, .k (.str [115, 116, 111, 114, 101, 46, 105])), (1, 2, .t 22), (4, 1, .k (.bool true)), (6, 1, .k (.bool true)), (7, 1, .k (.bool true))], .none, false⟩,
 ⟨some 24, .build [.int .i64 0, .int .i64 0] [(0, 1, .k (.int .i64 2)), (1, 1, .k (.int .i64 2))], .none, false⟩,
 ⟨some 25, .build [.str [], .int .i64 0, .int .i64 0, .int .i64 0, .bool false, .bool false, .bool false, .bool false, .bool false] [(0, 1, .k (.str [115, 116, 111, 114, 101, 46, 112])), (1, 2, .t 24), (4, 1, .k (.bool true)), (6, 1, .k (.bool true)), (7, 1, .k (.bool true))], .none, false⟩,
 ⟨some 26, .build [.int .i64 0, .int .i64 0] [(0, 1, .k (.int .i64 2))], .none, false⟩,
 ⟨some 27, .build [.str [], .int .i64 0, .int .i64 0, .int .i64 0, .bool false, .bool false, .bool false, .bool false, .bool false] [(0, 1, .k (.str [115, 108, 111, 116])), (1, 2, .t 26), (3, 1, .k (.int .i64 3)), (4, 1, .k (.bool true))], .none, false⟩,
 ⟨some 28, .build [.int .i64 0, .int .i64 0] [(0, 1, .k (.int .i64 3))], .none, false⟩,
 ⟨some 29, .build [.str [], .int .i64 0, .int .i64 0, .int .i64 0, .bool false, .bool false, .bool false, .bool false, .bool false] [(0, 1, .k (.str [103, 101, 116, 46, 105])), (1, 2, .t 28), (3, 1, .k (.int .i64 1)), (4, 1, .k (.bool true)), (5, 1, .k (.bool true))], .none, false⟩,
 ⟨some 30, .build [.int .i64 0, .int .i64 0] [(0, 1, .k (.int .i64 3))], .none, false⟩,
 ⟨some 31, .build [.str [], .int .i64 0, .int .i64 0, .int .i64 0, .bool false, .bool false, .bool false, .bool false, .bool false] [(0, 1, .k (.str [103, 101, 116, 46, 112])), (1, 2, .t 30), (3, 1, .k (.int .i64 2)), (4, 1, .k (.bool true)), (5, 1, .k (.bool true))], .none, false⟩,
 ⟨some 32, .build [.int .i64 0, .int .i64 0] [(0, 1, .k (.int .i64 3)), (1, 1, .k (.int .i64 1))], .none, false⟩,
 ⟨some 33, .build [.str [], .int .i64 0, .int .i64 0, .int .i64 0, .bool false, .bool false, .bool false, .bool false, .bool false] [(0, 1, .k (.str [112, 117, 116, 46, 105])), (1, 2, .t 32), (4, 1, .k (.bool true)), (6, 1, .k (.bool true)), (7, 1, .k (.bool true))], .none, false⟩,
 ⟨some 34, .build [.int .i64 0, .int .i64 0] [(0, 1, .k (.int .i64 3)), (1, 1, .k (.int .i64 2))], .none, false⟩,
 ⟨some 35, .build [.str [], .int .i64 0, .int .i64 0, .int .i64 0, .bool false, .bool false, .bool false, .bool false, .bool false] [(0, 1, .k (.str [112, 117, 116, 46, 112])), (1, 2, .t 34), (4, 1, .k (.bool true)), (6, 1, .k (.bool true)), (7, 1, .k (.bool true))], .none, false⟩,
 ⟨some 36, .build [.str [], .int .i64 0, .int .i64 0, .int .i64 0, .bool false, .bool false, .bool false, .bool false, .bool false] [(0, 1, .k (.str [112, 104, 105]))], .none, false⟩,
 ⟨some 37, .build [.str [], .int .i64 0, .int .i64 0, .int .i64 0, .bool false, .bool false, .bool false, .bool false, .bool false] [(0, 1, .k (.str [99, 97, 108, 108])), (4, 1, .k (.bool true)), (5, 1, .k (.bool true)), (6, 1, .k (.bool true)), (7, 1, .k (.bool true))], .none, false⟩,
 ⟨some 38, .build [.int .i64 0, .int .i64 0] [(0, 1, .k (.int .i64 1))], .none, false⟩,
 ⟨some 39, .build [.str [], .int .i64 0, .int .i64 0, .int .i64 0, .bool false, .bool false, .bool false, .bool false, .bool false] [(0, 1, .k (.str [111, 117, 116])), (1, 2, .t 38), (7, 1, .k (.bool true))], .none, false⟩,
 ⟨some 40, .build [.str [], .int .i64 0, .int .i64 0, .int .i64 0, .bool false, .bool false, .bool false, .bool false, .bool false] [(0, 1, .k (.str [112, 111, 108, 108])), (7, 1, .k (.bool true))], .none, false⟩,
 ⟨some 41, .build [.str [], .int .i64 0, .int .i64 0, .int .i64 0, .bool false, .bool false, .bool false, .bool false, .bool false] [(0, 1, .k (.str [114, 101, 108, 111, 99]))], .none, false⟩,
 ⟨some 42, .build [.int .i64 0, .int .i64 0] [(0, 1, .k (.int .i64 2))], .none, false⟩,
 ⟨some 43, .build [.str [], .int .i64 0, .int .i64 0, .int .i64 0, .bool false, .bool false, .bool false, .bool false, .bool false] [(0, 1, .k (.str [109, 97, 114, 107])), (1, 2, .t 42), (7, 1, .k (.bool true))], .none, false⟩,
 ⟨some 44, .build [.str [], .int .i64 0, .int .i64 0, .int .i64 0, .bool false, .bool false, .bool false, .bool false, .bool false] [(0, 1, .k (.str [98, 114])), (7, 1, .k (.bool true)), (8, 1, .k (.bool true))], .none, false⟩,
 ⟨some 45, .build [.int .i64 0, .int .i64 0] [(0, 1, .k (.int .i64 1))], .none, false⟩,
 ⟨some 46, .build [.str [], .int .i64 0, .int .i64 0, .int .i64 0, .bool false, .bool false, .bool false, .bool false, .bool false] [(0, 1, .k (.str [105, 102])), (1, 2, .t 45), (7, 1, .k (.bool true)), (8, 1, .k (.bool true))], .none, false⟩,
 ⟨some 47, .build [.str [], .int .i64 0, .int .i64 0, .int .i64 0, .bool false, .bool false, .bool false, .bool false, .bool false] [(0, 1, .k (.str [114, 101, 116])), (7, 1, .k (.bool true)), (8, 1, .k (.bool true))], .none, false⟩,
 ⟨some 48, .build [.str [], .int .i64 0, .int .i64 0, .int .i64 0, .bool false, .bool false, .bool false, .bool false, .bool false] [(0, 1, .k (.str [102, 97, 105, 108])), (4, 1, .k (.bool true)), (7, 1, .k (.bool true)), (8, 1, .k (.bool true))], .none, false⟩,
 ⟨some 49, .build [.str [], .int .i64 0, .int .i64 0, .int .i64 0, .bool false, .bool false, .bool false, .bool false, .bool false, .str [], .int .i64 0, .int .i64 0, .int .i64 0, .bool false, .bool false, .bool false, .bool false, .bool false, .str [], .int .i64 0, .int .i64 0, .int .i64 0, .bool false, .bool false, .bool false, .bool false, .bool false, .str [], .int .i64 0, .int .i64 0, .int .i64 0, .bool false, .bool false, .bool false, .bool false, .bool false, .str [], .int .i64 0, .int .i64 0, .int .i64 0, .bool false, .bool false, .bool false, .bool false, .bool false, .str [], .int .i64 0, .int .i64 0, .int .i64 0, .bool false, .bool false, .bool false, .bool false, .bool false, .str [], .int .i64 0, .int .i64 0, .int .i64 0, .bool false, .bool false, .bool false, .bool false, .bool false, .str [], .int .i64 0, .int .i64 0, .int .i64 0, .bool false, .bool false, .bool false, .bool false, .bool false, .str [], .int .i64 0, .int .i64 0, .int .i64 0, .bool false, .bool false, .bool false, .bool false, .bool false, .str [], .int .i64 0, .int .i64 0, .int .i64 0, .bool false, .bool false, .bool false, .bool false, .bool false, .str [], .int .i64 0, .int .i64 0, .int .i64 0, .bool false, .bool false, .bool false, .bool false, .bool false, .str [], .int .i64 0, .int .i64 0, .int .i64 0, .bool false, .bool false, .bool false, .bool false, .bool false, .str [], .int .i64 0, .int .i64 0, .int .i64 0, .bool false, .bool false, .bool false, .bool false, .bool false, .str [], .int .i64 0, .int .i64 0, .int .i64 0, .bool false, .bool false, .bool false, .bool false, .bool false, .str [], .int .i64 0, .int .i64 0, .int .i64 0, .bool false, .bool false, .bool false, .bool false, .bool false, .str [], .int .i64 0, .int .i64 0, .int .i64 0, .bool false, .bool false, .bool false, .bool false, .bool false, .str [], .int .i64 0, .int .i64 0, .int .i64 0, .bool false, .bool false, .bool false, .bool false, .bool false, .str [], .int .i64 0, .int .i64 0, .int .i64 0, .bool false, .bool false, .bool false, .bool false, .bool false, .str [], .int .i64 0, .int .i64 0, .int .i64 0, .bool false, .bool false, .bool false, .bool false, .bool false, .str [], .int .i64 0, .int .i64 0, .int .i64 0, .bool false, .bool false, .bool false, .bool false, .bool false, .str [], .int .i64 0, .int .i64 0, .int .i64 0, .bool false, .bool false, .bool false, .bool false, .bool false, .str [], .int .i64 0, .int .i64 0, .int .i64 0, .bool false, .bool false, .bool false, .bool false, .bool false, .str [], .int .i64 0, .int .i64 0, .int .i64 0, .bool false, .bool false, .bool false, .bool false, .bool false, .str [], .int .i64 0, .int .i64 0, .int .i64 0, .bool false, .bool false, .bool false, .bool false, .bool false, .str [], .int .i64 0, .int .i64 0, .int .i64 0, .bool false, .bool false, .bool false, .bool false, .bool false, .str [], .int .i64 0, .int .i64 0, .int .i64 0, .bool false, .bool false, .bool false, .bool false, .bool false, .str [], .int .i64 0, .int .i64 0, .int .i64 0, .bool false, .bool false, .bool false, .bool false, .bool false, .str [], .int .i64 0, .int .i64 0, .int .i64 0, .bool false, .bool false, .bool false, .bool false, .bool false, .str [], .int .i64 0, .int .i64 0, .int .i64 0, .bool false, .bool false, .bool false, .bool false, .bool false, .str [], .int .i64 0, .int .i64 0, .int .i64 0, .bool false, .bool false, .bool false, .bool false, .bool false] [(9, 9, .t 1), (18, 9, .t 3), (27, 9, .t 5), (36, 9, .t 7), (45, 9, .t 9), (54, 9, .t 11), (63, 9, .t 13), (72, 9, .t 14), (81, 9, .t 16), (90, 9, .t 17), (99, 9, .t 19), (108, 9, .t 21), (117, 9, .t 23), (126, 9, .t 25), (135, 9, .t 27), (144, 9, .t 29), (153, 9, .t 31), (162, 9, .t 33), (171, 9, .t 35), (180, 9, .t 36), (189, 9, .t 37), (198, 9, .t 39), (207, 9, .t 40), (216, 9, .t 41), (225, 9, .t 43), (234, 9, .t 44), (243, 9, .t 46), (252, 9, .t 47), (261, 9, .t 48)], .none, false⟩,
 ⟨.none, .store 270 (.t 0) (.t 49), .none, false⟩] false [0])
 (.ret)), [], false, false, .none⟩
def x39_1 : XC :=
  .reg [⟨some 3, .mv (.t 0), .none, false⟩,
 ⟨some 4, .bin .lss (.t 3) (.k (.int .i64 1)), .none, false⟩,
 ⟨some 5, .mv (.t 4), .none, false⟩,
 ⟨some 6, .mv (.t 0), some (5, false), false⟩,
 ⟨some 7, .bin .gtr (.t 6) (.k (.int .i64 29)), some (5, false), false⟩,
 ⟨some 8, .pick (.t 5) (.k (.bool true)) (.t 7), .none, false⟩] false [0, 2, 8]
def x39 : XF := ⟨1, 13, [.cell 2 true 9],
  .seq (.reg [⟨some 2, .alloc [.str [], .int .i64 0, .int .i64 0, .int .i64 0, .bool false, .bool false, .bool false, .bool false, .bool false], .none, false⟩] false [0, 2])
 (.seq (.seq x39_1
 (.cond (.t 8) (.seq (.reg [⟨some 9, .build [.str [], .int .i64 0, .int .i64 0, .int .i64 0, .bool false, .bool false, .bool false, .bool false, .bool false] [], .none, false⟩,
 ⟨.none, .store 9 (.t 2) (.t 9), .none, false⟩] false [2])
 (.ret))
 (.skip) [0, 2]))
 (.seq (.reg [⟨some 10, .call 45 [] [], .none, false⟩,
 ⟨some 11, .mv (.t 0), .none, false⟩,
 ⟨some 12, .idx true 9 30 (.t 10) (.t 11), .none, false⟩,
 ⟨.none, .store 9 (.t 2) (.t 12), .none, false⟩] false [2])
 (.ret))), [], false, false, .none⟩
def x28 : XF := ⟨1, 6, [.tmp 2],
  .seq (.reg [⟨some 2, .asg (.k (.bool false)), .none, false⟩] false [0])
 (.seq (.reg [⟨some 3, .mv (.t 0), .none, false⟩,
 ⟨some 4, .call 39 [.t 3] [], .none, false⟩,
 ⟨some 5, .fld false 8 1 (.t 4), .none, false⟩,
 ⟨some 2, .asg (.t 5), .none, false⟩] false [2])
 (.ret)), [], false, false, .none⟩
def x30_1 : XC :=
  .reg [⟨some 4, .mv (.t 0), .none, false⟩,
 ⟨some 5, .bin .lss (.t 4) (.k (.int .i64 0)), .none, false⟩,
 ⟨some 6, .mv (.t 5), .none, false⟩,
 ⟨some 7, .mv (.t 0), some (6, false), false⟩,
 ⟨some 8, .fadr 3 (.t 1), some (6, false), false⟩,
 ⟨some 9, .load false 1 (.t 8), some (6, false), false⟩,
 ⟨some 10, .len false (.t 9), some (6, false), false⟩,
 ⟨some 11, .bin .geq (.t 7) (.t 10), some (6, false), false⟩,
 ⟨some 12, .pick (.t 6) (.k (.bool true)) (.t 11), .none, false⟩,
 ⟨some 3, .asg (.t 12), .none, false⟩] false [1, 3]
def x30 : XF := ⟨2, 13, [.tmp 3],
  .seq (.reg [⟨some 3, .asg (.k (.bool false)), .none, false⟩] false [0, 1])
 (.seq x30_1
 (.ret)), [1], false, false, .none⟩
def x40_1 : XC :=
  .seq (.reg [⟨some 9, .bin .lss (.t 8) (.t 7), .none, false⟩] false [0, 1, 7, 8, 9])
 (.seq (.cond (.t 9) (.skip)
 (.exit 0 []) [0, 1, 7, 8])
 (.seq (.block 1 (.seq (.reg [⟨some 10, .mv (.t 8), .none, false⟩,
 ⟨some 5, .asg (.t 10), .none, false⟩] false [0, 1, 5, 7, 8])
 (.seq (.reg [⟨some 11, .mv (.t 1), .none, false⟩,
 ⟨some 12, .mv (.t 0), .none, false⟩,
 ⟨some 13, .mv (.t 5), .none, false⟩,
 ⟨some 14, .iadr 1 .none (.t 12) (.t 13), .none, false⟩,
 ⟨some 15, .load false 1 (.t 14), .none, false⟩,
 ⟨some 16, .callv (.t 11) [.t 15], .none, false⟩] false [0, 1, 5, 7, 8, 16])
 (.cond (.t 16) (.seq (.reg [⟨some 17, .mv (.t 5), .none, false⟩,
 ⟨some 4, .asg (.t 17), .none, false⟩] false [4])
 (.ret))
 (.skip) [0, 1, 7, 8]))) [0, 1, 7, 8])
 (.reg [⟨some 18, .bin .add (.t 8) (.k (.int .i64 1)), .none, false⟩,
 ⟨some 8, .mv (.t 18), .none, false⟩] false [0, 1, 7, 8])))
def x40 : XF := ⟨2, 19, [.tmp 4],
  .seq (.reg [⟨some 4, .asg (.k (.int .i64 0)), .none, false⟩] false [0, 1])
 (.seq (.seq (.reg [⟨some 6, .mv (.t 0), .none, false⟩,
 ⟨some 7, .len false (.t 6), .none, false⟩,
 ⟨some 8, .mv (.k (.int .i64 0)), .none, false⟩] false [0, 1, 7, 8])
 (.block 0 (.loop x40_1 [0, 1, 7, 8]) []))
 (.seq (.reg [⟨some 4, .asg (.k (.int .i64 (-1))), .none, false⟩] false [4])
 (.ret))), [], false, false, .none⟩
def x29 : XF := ⟨2, 9, [.tmp 4],
  .seq (.reg [⟨some 4, .asg (.k (.bool false)), .none, false⟩] false [0, 1])
 (.seq (.reg [⟨some 5, .mv (.t 0), .none, false⟩,
 ⟨some 6, .mv (.t 1), .none, false⟩,
 ⟨some 7, .call 40 [.t 5, .t 6] [], .none, false⟩,
 ⟨some 8, .bin .geq (.t 7) (.k (.int .i64 0)), .none, false⟩,
 ⟨some 4, .asg (.t 8), .none, false⟩] false [4])
 (.ret)), [], false, false, .none⟩
def x9_1 : XC :=
  .reg [⟨some 38, .fadr 0 (.t 6), .none, false⟩,
 ⟨some 39, .load false 1 (.t 38), .none, false⟩,
 ⟨some 40, .bin .neq (.t 39) (.k (.int .i64 20)), .none, false⟩,
 ⟨some 41, .mv (.t 40), .none, false⟩,
 ⟨some 42, .fadr 5 (.t 6), some (41, true), false⟩,
 ⟨some 43, .load false 1 (.t 42), some (41, true), false⟩,
 ⟨some 44, .mkfn 30 [.t 1], some (41, true), false⟩,
 ⟨some 45, .call 29 [.t 43, .t 44] [], some (41, true), false⟩,
 ⟨some 46, .pick (.t 41) (.t 45) (.k (.bool false)), .none, false⟩] false [1, 2, 3, 4, 13, 14, 15, 20, 21, 22, 46]
def x9_2 : XC :=
  .seq (.reg [⟨some 23, .bin .lss (.t 22) (.t 21), .none, false⟩] false [1, 2, 3, 4, 13, 14, 15, 20, 21, 22, 23])
 (.seq (.cond (.t 23) (.skip)
 (.exit 2 [1, 2, 3, 4, 13, 14, 15]) [1, 2, 3, 4, 13, 14, 15, 20, 21, 22])
 (.seq (.block 3 (.seq (.reg [⟨some 24, .mv (.t 22), .none, false⟩,
 ⟨some 25, .iadr 8 .none (.t 20) (.t 22), .none, false⟩,
 ⟨some 26, .load true 8 (.t 25), .none, false⟩,
 ⟨some 6, .alloc [.int .i64 0, .int .i64 0, .int .i64 0, .int .i64 0, .nils, .nils, .str [], .int .i64 0], .none, false⟩,
 ⟨some 5, .asg (.t 24), .none, false⟩,
 ⟨.none, .store 8 (.t 6) (.t 26), .none, false⟩] false [1, 2, 3, 4, 5, 6, 13, 14, 15, 20, 21, 22])
 (.seq (.seq (.reg [⟨some 27, .fadr 0 (.t 6), .none, false⟩,
 ⟨some 28, .load false 1 (.t 27), .none, false⟩,
 ⟨some 29, .call 28 [.t 28] [], .none, false⟩,
 ⟨some 30, .mv (.t 5), .none, false⟩,
 ⟨some 31, .mv (.t 4), .none, false⟩,
 ⟨some 32, .len false (.t 31), .none, false⟩,
 ⟨some 33, .bin .sub (.t 32) (.k (.int .i64 1)), .none, false⟩,
 ⟨some 34, .bin .eql (.t 30) (.t 33), .none, false⟩,
 ⟨some 35, .beq true (.t 29) (.t 34), .none, false⟩] false [1, 2, 3, 4, 6, 13, 14, 15, 20, 21, 22, 35])
 (.cond (.t 35) (.seq (.reg [⟨some 36, .mv (.t 3), .none, false⟩,
 ⟨some 37, .build [.int .i64 0, .int .i64 0] [(0, 1, .k (.int .i64 15)), (1, 1, .t 36)], .none, false⟩,
 ⟨.none, .store 2 (.t 2) (.t 37), .none, false⟩] false [2])
 (.ret))
 (.skip) [1, 2, 3, 4, 6, 13, 14, 15, 20, 21, 22]))
 (.seq x9_1
 (.cond (.t 46) (.seq (.reg [⟨some 47, .mv (.t 3), .none, false⟩,
 ⟨some 48, .build [.int .i64 0, .int .i64 0] [(0, 1, .k (.int .i64 7)), (1, 1, .t 47)], .none, false⟩,
 ⟨.none, .store 2 (.t 2) (.t 48), .none, false⟩] false [2])
 (.ret))
 (.skip) [1, 2, 3, 4, 13, 14, 15, 20, 21, 22])))) [1, 2, 3, 4, 13, 14, 15, 20, 21, 22])
 (.reg [⟨some 49, .bin .add (.t 22) (.k (.int .i64 1)), .none, false⟩,
 ⟨some 22, .mv (.t 49), .none, false⟩] false [1, 2, 3, 4, 13, 14, 15, 20, 21, 22])))
def x9_3 : XC :=
  .seq (.reg [⟨some 16, .bin .lss (.t 15) (.t 14), .none, false⟩] false [1, 2, 13, 14, 15, 16])
 (.seq (.cond (.t 16) (.skip)
 (.exit 0 [2]) [1, 2, 13, 14, 15])
 (.seq (.block 1 (.seq (.reg [⟨some 17, .mv (.t 15), .none, false⟩,
 ⟨some 18, .iadr 1 .none (.t 13) (.t 15), .none, false⟩,
 ⟨some 19, .load false 1 (.t 18), .none, false⟩,
 ⟨some 3, .asg (.t 17), .none, false⟩,
 ⟨some 4, .asg (.t 19), .none, false⟩] false [1, 2, 3, 4, 13, 14, 15])
 (.seq (.seq (.reg [⟨some 20, .mv (.t 4), .none, false⟩,
 ⟨some 21, .len false (.t 20), .none, false⟩,
 ⟨some 22, .mv (.k (.int .i64 0)), .none, false⟩] false [1, 2, 3, 4, 13, 14, 15, 20, 21, 22])
 (.block 2 (.loop x9_2 [1, 2, 3, 4, 13, 14, 15, 20, 21, 22]) [1, 2, 3, 4, 13, 14, 15]))
 (.seq (.reg [⟨some 50, .mv (.t 4), .none, false⟩,
 ⟨some 51, .len false (.t 50), .none, false⟩,
 ⟨some 52, .bin .eql (.t 51) (.k (.int .i64 0)), .none, false⟩] false [1, 2, 3, 13, 14, 15, 52])
 (.cond (.t 52) (.seq (.reg [⟨some 53, .mv (.t 3), .none, false⟩,
 ⟨some 54, .build [.int .i64 0, .int .i64 0] [(0, 1, .k (.int .i64 15)), (1, 1, .t 53)], .none, false⟩,
 ⟨.none, .store 2 (.t 2) (.t 54), .none, false⟩] false [2])
 (.ret))
 (.skip) [1, 2, 13, 14, 15])))) [1, 2, 13, 14, 15])
 (.reg [⟨some 55, .bin .add (.t 15) (.k (.int .i64 1)), .none, false⟩,
 ⟨some 15, .mv (.t 55), .none, false⟩] false [1, 2, 13, 14, 15])))
def x9 : XF := ⟨1, 57, [.cell 2 true 2],
  .seq (.reg [⟨some 1, .box (.t 0), .none, false⟩,
 ⟨some 2, .alloc [.int .i64 0, .int .i64 0], .none, false⟩] false [1, 2])
 (.seq (.seq (.reg [⟨some 7, .fadr 3 (.t 1), .none, false⟩,
 ⟨some 8, .load false 1 (.t 7), .none, false⟩,
 ⟨some 9, .len false (.t 8), .none, false⟩,
 ⟨some 10, .bin .eql (.t 9) (.k (.int .i64 0)), .none, false⟩] false [1, 2, 10])
 (.cond (.t 10) (.seq (.reg [⟨some 11, .build [.int .i64 0, .int .i64 0] [(0, 1, .k (.int .i64 15))], .none, false⟩,
 ⟨.none, .store 2 (.t 2) (.t 11), .none, false⟩] false [2])
 (.ret))
 (.skip) [1, 2]))
 (.seq (.seq (.reg [⟨some 12, .fadr 3 (.t 1), .none, false⟩,
 ⟨some 13, .load false 1 (.t 12), .none, false⟩,
 ⟨some 14, .len false (.t 13), .none, false⟩,
 ⟨some 15, .mv (.k (.int .i64 0)), .none, false⟩] false [1, 2, 13, 14, 15])
 (.block 0 (.loop x9_3 [1, 2, 13, 14, 15]) [2]))
 (.seq (.reg [⟨some 56, .build [.int .i64 0, .int .i64 0] [], .none, false⟩,
 ⟨.none, .store 2 (.t 2) (.t 56), .none, false⟩] false [2])
 (.ret)))), [], false, false, .none⟩
def x31_1 : XC :=
  .reg [⟨some 3, .mv (.t 0), .none, false⟩,
 ⟨some 4, .bin .geq (.t 3) (.k (.int .i64 26)), .none, false⟩,
 ⟨some 5, .mv (.t 4), .none, false⟩,
 ⟨some 6, .mv (.t 0), some (5, true), false⟩,
 ⟨some 7, .bin .leq (.t 6) (.k (.int .i64 29)), some (5, true), false⟩,
 ⟨some 8, .pick (.t 5) (.t 7) (.k (.bool false)), .none, false⟩,
 ⟨some 2, .asg (.t 8), .none, false⟩] false [2]
def x31 : XF := ⟨1, 9, [.tmp 2],
  .seq (.reg [⟨some 2, .asg (.k (.bool false)), .none, false⟩] false [0])
 (.seq x31_1
 (.ret)), [], false, false, .none⟩
def x10_1 : XC :=
  .reg [⟨some 49, .mv (.t 7), .none, false⟩,
 ⟨some 50, .fadr 5 (.t 6), .none, false⟩,
 ⟨some 51, .load false 1 (.t 50), .none, false⟩,
 ⟨some 52, .len false (.t 51), .none, false⟩,
 ⟨some 53, .bin .lss (.t 49) (.t 52), .none, false⟩,
 ⟨some 54, .mv (.t 53), .none, false⟩,
 ⟨some 55, .fadr 0 (.t 6), some (54, true), false⟩,
 ⟨some 56, .load false 1 (.t 55), some (54, true), false⟩,
 ⟨some 57, .bin .neq (.t 56) (.k (.int .i64 20)), some (54, true), false⟩,
 ⟨some 58, .pick (.t 54) (.t 57) (.k (.bool false)), .none, false⟩] false [1, 2, 3, 4, 5, 6, 7, 58]
def x10_2 : XC :=
  .reg [⟨some 61, .fadr 5 (.t 6), .none, false⟩,
 ⟨some 62, .load false 1 (.t 61), .none, false⟩,
 ⟨some 63, .mv (.t 7), .none, false⟩,
 ⟨some 64, .iadr 1 .none (.t 62) (.t 63), .none, false⟩,
 ⟨some 65, .load false 1 (.t 64), .none, false⟩,
 ⟨some 66, .bin .lss (.t 65) (.k (.int .i64 0)), .none, false⟩,
 ⟨some 67, .mv (.t 66), .none, false⟩,
 ⟨some 68, .fadr 5 (.t 6), some (67, false), false⟩,
 ⟨some 69, .load false 1 (.t 68), some (67, false), false⟩,
 ⟨some 70, .mv (.t 7), some (67, false), false⟩,
 ⟨some 71, .iadr 1 .none (.t 69) (.t 70), some (67, false), false⟩,
 ⟨some 72, .load false 1 (.t 71), some (67, false), false⟩,
 ⟨some 73, .fadr 3 (.t 1), some (67, false), false⟩,
 ⟨some 74, .load false 1 (.t 73), some (67, false), false⟩,
 ⟨some 75, .len false (.t 74), some (67, false), false⟩,
 ⟨some 76, .bin .geq (.t 72) (.t 75), some (67, false), true⟩,
 ⟨some 77, .pick (.t 67) (.k (.bool true)) (.t 76), .none, true⟩] true [1, 2, 3, 4, 5, 6, 7, 77]
def x10_3 : XC :=
  .seq (.seq x10_1
 (.cond (.t 58) (.skip)
 (.exit 4 [1, 2, 3, 4, 5]) [1, 2, 3, 4, 5, 6, 7]))
 (.seq (.block 5 (.seq x10_2
 (.cond (.t 77) (.seq (.reg [⟨some 78, .mv (.t 3), .none, false⟩,
 ⟨some 79, .build [.int .i64 0, .int .i64 0] [(0, 1, .k (.int .i64 7)), (1, 1, .t 78)], .none, false⟩,
 ⟨.none, .store 2 (.t 2) (.t 79), .none, false⟩] false [2])
 (.ret))
 (.skip) [1, 2, 3, 4, 5, 6, 7])) [1, 2, 3, 4, 5, 6, 7])
 (.reg [⟨some 59, .mv (.t 7), .none, false⟩,
 ⟨some 60, .bin .add (.t 59) (.k (.int .i64 1)), .none, false⟩,
 ⟨some 7, .asg (.t 60), .none, false⟩] false [1, 2, 3, 4, 5, 6, 7]))
def x10_4 : XC :=
  .seq (.seq (.reg [⟨some 26, .mv (.t 5), .none, false⟩,
 ⟨some 27, .mv (.t 4), .none, false⟩,
 ⟨some 28, .bin .lss (.t 26) (.t 27), .none, false⟩] false [1, 2, 3, 4, 5, 28])
 (.cond (.t 28) (.skip)
 (.exit 2 [1, 2, 3, 4]) [1, 2, 3, 4, 5]))
 (.seq (.block 3 (.seq (.reg [⟨some 31, .fadr 3 (.t 1), .none, false⟩,
 ⟨some 32, .load false 1 (.t 31), .none, false⟩,
 ⟨some 33, .mv (.t 3), .none, false⟩,
 ⟨some 34, .iadr 1 .none (.t 32) (.t 33), .none, false⟩,
 ⟨some 35, .load false 1 (.t 34), .none, false⟩,
 ⟨some 36, .mv (.t 5), .none, false⟩,
 ⟨some 37, .iadr 8 .none (.t 35) (.t 36), .none, false⟩,
 ⟨some 38, .load true 8 (.t 37), .none, false⟩,
 ⟨some 6, .alloc [.int .i64 0, .int .i64 0, .int .i64 0, .int .i64 0, .nils, .nils, .str [], .int .i64 0], .none, false⟩,
 ⟨.none, .store 8 (.t 6) (.t 38), .none, false⟩] false [1, 2, 3, 4, 5, 6])
 (.seq (.seq (.reg [⟨some 39, .fadr 0 (.t 6), .none, false⟩,
 ⟨some 40, .load false 1 (.t 39), .none, false⟩,
 ⟨some 41, .call 31 [.t 40] [], .none, false⟩,
 ⟨some 42, .mv (.t 5), .none, false⟩,
 ⟨some 43, .bin .add (.t 42) (.k (.int .i64 1)), .none, false⟩,
 ⟨some 44, .mv (.t 4), .none, false⟩,
 ⟨some 45, .bin .eql (.t 43) (.t 44), .none, false⟩,
 ⟨some 46, .beq true (.t 41) (.t 45), .none, false⟩] false [1, 2, 3, 4, 5, 6, 46])
 (.cond (.t 46) (.seq (.reg [⟨some 47, .mv (.t 3), .none, false⟩,
 ⟨some 48, .build [.int .i64 0, .int .i64 0] [(0, 1, .k (.int .i64 15)), (1, 1, .t 47)], .none, false⟩,
 ⟨.none, .store 2 (.t 2) (.t 48), .none, false⟩] false [2])
 (.ret))
 (.skip) [1, 2, 3, 4, 5, 6]))
 (.seq (.reg [⟨some 7, .asg (.k (.int .i64 0)), .none, false⟩] false [1, 2, 3, 4, 5, 6, 7])
 (.block 4 (.loop x10_3 [1, 2, 3, 4, 5, 6, 7]) [1, 2, 3, 4, 5])))) [1, 2, 3, 4, 5])
 (.reg [⟨some 29, .mv (.t 5), .none, false⟩,
 ⟨some 30, .bin .add (.t 29) (.k (.int .i64 1)), .none, false⟩,
 ⟨some 5, .asg (.t 30), .none, false⟩] false [1, 2, 3, 4, 5]))
def x10_5 : XC :=
  .seq (.seq (.reg [⟨some 13, .mv (.t 3), .none, false⟩,
 ⟨some 14, .fadr 3 (.t 1), .none, false⟩,
 ⟨some 15, .load false 1 (.t 14), .none, false⟩,
 ⟨some 16, .len false (.t 15), .none, false⟩,
 ⟨some 17, .bin .lss (.t 13) (.t 16), .none, false⟩] false [1, 2, 3, 17])
 (.cond (.t 17) (.skip)
 (.exit 0 [2]) [1, 2, 3]))
 (.seq (.block 1 (.seq (.reg [⟨some 20, .fadr 3 (.t 1), .none, false⟩,
 ⟨some 21, .load false 1 (.t 20), .none, false⟩,
 ⟨some 22, .mv (.t 3), .none, false⟩,
 ⟨some 23, .iadr 1 .none (.t 21) (.t 22), .none, false⟩,
 ⟨some 24, .load false 1 (.t 23), .none, false⟩,
 ⟨some 25, .len false (.t 24), .none, false⟩,
 ⟨some 4, .asg (.t 25), .none, false⟩] false [1, 2, 3, 4])
 (.seq (.seq (.reg [⟨some 5, .asg (.k (.int .i64 0)), .none, false⟩] false [1, 2, 3, 4, 5])
 (.block 2 (.loop x10_4 [1, 2, 3, 4, 5]) [1, 2, 3, 4]))
 (.seq (.reg [⟨some 80, .mv (.t 4), .none, false⟩,
 ⟨some 81, .bin .eql (.t 80) (.k (.int .i64 0)), .none, false⟩] false [1, 2, 3, 81])
 (.cond (.t 81) (.seq (.reg [⟨some 82, .mv (.t 3), .none, false⟩,
 ⟨some 83, .build [.int .i64 0, .int .i64 0] [(0, 1, .k (.int .i64 15)), (1, 1, .t 82)], .none, false⟩,
 ⟨.none, .store 2 (.t 2) (.t 83), .none, false⟩] false [2])
 (.ret))
 (.skip) [1, 2, 3])))) [1, 2, 3])
 (.reg [⟨some 18, .mv (.t 3), .none, false⟩,
 ⟨some 19, .bin .add (.t 18) (.k (.int .i64 1)), .none, false⟩,
 ⟨some 3, .asg (.t 19), .none, false⟩] false [1, 2, 3]))
def x10 : XF := ⟨1, 85, [.cell 2 true 2],
  .seq (.reg [⟨some 1, .box (.t 0), .none, false⟩,
 ⟨some 2, .alloc [.int .i64 0, .int .i64 0], .none, false⟩] false [1, 2])
 (.seq (.seq (.reg [⟨some 8, .fadr 3 (.t 1), .none, false⟩,
 ⟨some 9, .load false 1 (.t 8), .none, false⟩,
 ⟨some 10, .len false (.t 9), .none, false⟩,
 ⟨some 11, .bin .eql (.t 10) (.k (.int .i64 0)), .none, false⟩] false [1, 2, 11])
 (.cond (.t 11) (.seq (.reg [⟨some 12, .build [.int .i64 0, .int .i64 0] [(0, 1, .k (.int .i64 15))], .none, false⟩,
 ⟨.none, .store 2 (.t 2) (.t 12), .none, false⟩] false [2])
 (.ret))
 (.skip) [1, 2]))
 (.seq (.seq (.reg [⟨some 3, .asg (.k (.int .i64 0)), .none, false⟩] false [1, 2, 3])
 (.block 0 (.loop x10_5 [1, 2, 3]) [2]))
 (.seq (.reg [⟨some 84, .build [.int .i64 0, .int .i64 0] [], .none, false⟩,
 ⟨.none, .store 2 (.t 2) (.t 84), .none, false⟩] false [2])
 (.ret)))), [], false, false, .none⟩
def x3_1 : XC :=
  .reg [⟨some 9, .load true 5 (.t 1), .none, false⟩,
 ⟨some 10, .call 9 [.t 9] [], .none, false⟩,
 ⟨some 11, .load true 5 (.t 1), .none, false⟩,
 ⟨some 12, .call 10 [.t 11] [], .none, true⟩,
 ⟨some 13, .aeq false [.int .i64 0, .int .i64 0] (.t 10) (.t 12), .none, true⟩,
 ⟨some 14, .mv (.t 13), .none, true⟩,
 ⟨some 15, .call 8 [] [], some (14, true), true⟩,
 ⟨some 16, .pick (.t 14) (.t 15) (.k (.bool false)), .none, true⟩,
 ⟨some 2, .asg (.t 16), .none, true⟩] true [2]
def x3 : XF := ⟨1, 17, [.tmp 2],
  .seq (.reg [⟨some 1, .box (.t 0), .none, false⟩,
 ⟨some 2, .asg (.k (.bool false)), .none, false⟩] false [1])
 (.seq (.seq (.reg [⟨some 3, .load true 5 (.t 1), .none, false⟩,
 ⟨some 4, .bsl 5 1 [.str [], .nils, .int .i64 0, .nils, .int .i64 0] [(0, 5, .t 3)], .none, false⟩,
 ⟨some 5, .build [.nils] [(0, 1, .t 4)], .none, false⟩,
 ⟨some 6, .call 7 [.t 5, .k (.int .i64 300)] [], .none, false⟩,
 ⟨some 7, .bin .gtr (.t 6) (.k (.int .i64 300)), .none, false⟩] false [1, 7])
 (.cond (.t 7) (.seq (.reg [⟨some 8, .call 8 [] [], .none, false⟩,
 ⟨some 2, .asg (.t 8), .none, false⟩] false [2])
 (.ret))
 (.skip) [1]))
 (.seq x3_1
 (.ret))), [], false, false, .none⟩
def x11_1 : XC :=
  .reg [⟨some 46, .fadr 5 (.t 6), .none, false⟩,
 ⟨some 47, .load false 1 (.t 46), .none, false⟩,
 ⟨some 48, .len false (.t 47), .none, false⟩,
 ⟨some 49, .bin .gtr (.t 48) (.k (.int .i64 30)), .none, false⟩,
 ⟨some 50, .mv (.t 49), .none, false⟩,
 ⟨some 51, .fadr 4 (.t 6), some (50, false), false⟩,
 ⟨some 52, .load false 1 (.t 51), some (50, false), false⟩,
 ⟨some 53, .len false (.t 52), some (50, false), false⟩,
 ⟨some 54, .bin .gtr (.t 53) (.k (.int .i64 30)), some (50, false), false⟩,
 ⟨some 55, .pick (.t 50) (.k (.bool true)) (.t 54), .none, false⟩,
 ⟨some 56, .mv (.t 55), .none, false⟩,
 ⟨some 57, .fadr 6 (.t 6), some (56, false), false⟩,
 ⟨some 58, .load false 1 (.t 57), some (56, false), false⟩,
 ⟨some 59, .len true (.t 58), some (56, false), false⟩,
 ⟨some 60, .bin .gtr (.t 59) (.k (.int .i64 100)), some (56, false), false⟩,
 ⟨some 61, .pick (.t 56) (.k (.bool true)) (.t 60), .none, false⟩] false [1, 3, 4, 5, 61]
def x11_2 : XC :=
  .seq (.seq (.reg [⟨some 28, .mv (.t 5), .none, false⟩,
 ⟨some 29, .fadr 3 (.t 1), .none, false⟩,
 ⟨some 30, .load false 1 (.t 29), .none, false⟩,
 ⟨some 31, .mv (.t 4), .none, false⟩,
 ⟨some 32, .iadr 1 .none (.t 30) (.t 31), .none, false⟩,
 ⟨some 33, .load false 1 (.t 32), .none, false⟩,
 ⟨some 34, .len false (.t 33), .none, false⟩,
 ⟨some 35, .bin .lss (.t 28) (.t 34), .none, false⟩] false [1, 3, 4, 5, 35])
 (.cond (.t 35) (.skip)
 (.exit 2 [1, 3, 4]) [1, 3, 4, 5]))
 (.seq (.block 3 (.seq (.reg [⟨some 38, .fadr 3 (.t 1), .none, false⟩,
 ⟨some 39, .load false 1 (.t 38), .none, false⟩,
 ⟨some 40, .mv (.t 4), .none, false⟩,
 ⟨some 41, .iadr 1 .none (.t 39) (.t 40), .none, false⟩,
 ⟨some 42, .load false 1 (.t 41), .none, false⟩,
 ⟨some 43, .mv (.t 5), .none, false⟩,
 ⟨some 44, .iadr 8 .none (.t 42) (.t 43), .none, false⟩,
 ⟨some 45, .load true 8 (.t 44), .none, false⟩,
 ⟨some 6, .alloc [.int .i64 0, .int .i64 0, .int .i64 0, .int .i64 0, .nils, .nils, .str [], .int .i64 0], .none, false⟩,
 ⟨.none, .store 8 (.t 6) (.t 45), .none, false⟩] false [1, 3, 4, 5, 6])
 (.seq x11_1
 (.cond (.t 61) (.seq (.reg [⟨some 2, .asg (.k (.int .i64 1)), .none, false⟩] false [2])
 (.ret))
 (.skip) [1, 3, 4, 5]))) [1, 3, 4, 5])
 (.reg [⟨some 36, .mv (.t 5), .none, false⟩,
 ⟨some 37, .bin .add (.t 36) (.k (.int .i64 1)), .none, false⟩,
 ⟨some 5, .asg (.t 37), .none, false⟩] false [1, 3, 4, 5]))
def x11_3 : XC :=
  .seq (.seq (.reg [⟨some 11, .mv (.t 4), .none, false⟩,
 ⟨some 12, .fadr 3 (.t 1), .none, false⟩,
 ⟨some 13, .load false 1 (.t 12), .none, false⟩,
 ⟨some 14, .len false (.t 13), .none, false⟩,
 ⟨some 15, .bin .lss (.t 11) (.t 14), .none, false⟩] false [1, 3, 4, 15])
 (.cond (.t 15) (.skip)
 (.exit 0 [1]) [1, 3, 4]))
 (.seq (.block 1 (.seq (.reg [⟨some 18, .mv (.t 3), .none, false⟩,
 ⟨some 19, .fadr 3 (.t 1), .none, false⟩,
 ⟨some 20, .load false 1 (.t 19), .none, false⟩,
 ⟨some 21, .mv (.t 4), .none, false⟩,
 ⟨some 22, .iadr 1 .none (.t 20) (.t 21), .none, false⟩,
 ⟨some 23, .load false 1 (.t 22), .none, false⟩,
 ⟨some 24, .len false (.t 23), .none, false⟩,
 ⟨some 25, .bin .add (.t 18) (.t 24), .none, false⟩,
 ⟨some 3, .asg (.t 25), .none, false⟩] false [1, 3, 4])
 (.seq (.seq (.reg [⟨some 26, .mv (.t 3), .none, false⟩,
 ⟨some 27, .bin .gtr (.t 26) (.k (.int .i64 150)), .none, false⟩] false [1, 3, 4, 27])
 (.cond (.t 27) (.seq (.reg [⟨some 2, .asg (.k (.int .i64 1)), .none, false⟩] false [2])
 (.ret))
 (.skip) [1, 3, 4]))
 (.seq (.reg [⟨some 5, .asg (.k (.int .i64 0)), .none, false⟩] false [1, 3, 4, 5])
 (.block 2 (.loop x11_2 [1, 3, 4, 5]) [1, 3, 4])))) [1, 3, 4])
 (.reg [⟨some 16, .mv (.t 4), .none, false⟩,
 ⟨some 17, .bin .add (.t 16) (.k (.int .i64 1)), .none, false⟩,
 ⟨some 4, .asg (.t 17), .none, false⟩] false [1, 3, 4]))
def x11 : XF := ⟨1, 66, [.tmp 2],
  .seq (.reg [⟨some 1, .box (.t 0), .none, false⟩,
 ⟨some 2, .asg (.k (.int .i64 0)), .none, false⟩] false [1])
 (.seq (.seq (.reg [⟨some 7, .fadr 3 (.t 1), .none, false⟩,
 ⟨some 8, .load false 1 (.t 7), .none, false⟩,
 ⟨some 9, .len false (.t 8), .none, false⟩,
 ⟨some 10, .bin .gtr (.t 9) (.k (.int .i64 24)), .none, false⟩] false [1, 10])
 (.cond (.t 10) (.seq (.reg [⟨some 2, .asg (.k (.int .i64 1)), .none, false⟩] false [2])
 (.ret))
 (.skip) [1]))
 (.seq (.reg [⟨some 3, .asg (.k (.int .i64 0)), .none, false⟩] false [1, 3])
 (.seq (.seq (.reg [⟨some 4, .asg (.k (.int .i64 0)), .none, false⟩] false [1, 3, 4])
 (.block 0 (.loop x11_3 [1, 3, 4]) [1]))
 (.seq (.seq (.reg [⟨some 62, .load true 5 (.t 1), .none, false⟩,
 ⟨some 63, .call 10 [.t 62] [], .none, false⟩,
 ⟨some 64, .fld false 0 1 (.t 63), .none, false⟩,
 ⟨some 65, .bin .neq (.t 64) (.k (.int .i64 0)), .none, false⟩] false [65])
 (.cond (.t 65) (.seq (.reg [⟨some 2, .asg (.k (.int .i64 1)), .none, false⟩] false [2])
 (.ret))
 (.skip) []))
 (.seq (.reg [⟨some 2, .asg (.k (.int .i64 0)), .none, false⟩] false [2])
 (.ret)))))), [], false, false, .none⟩
def x41_1 : XC :=
  .seq (.reg [⟨some 9, .bin .lss (.t 8) (.t 7), .none, false⟩] false [0, 1, 7, 8, 9])
 (.seq (.cond (.t 9) (.skip)
 (.exit 0 []) [0, 1, 7, 8])
 (.seq (.block 1 (.seq (.reg [⟨some 10, .mv (.t 8), .none, false⟩,
 ⟨some 5, .asg (.t 10), .none, false⟩] false [0, 1, 5, 7, 8])
 (.seq (.reg [⟨some 11, .mv (.t 1), .none, false⟩,
 ⟨some 12, .mv (.t 0), .none, false⟩,
 ⟨some 13, .mv (.t 5), .none, false⟩,
 ⟨some 14, .iadr 1 .none (.t 12) (.t 13), .none, false⟩,
 ⟨some 15, .load false 1 (.t 14), .none, false⟩,
 ⟨some 16, .bin .eql (.t 11) (.t 15), .none, false⟩] false [0, 1, 5, 7, 8, 16])
 (.cond (.t 16) (.seq (.reg [⟨some 17, .mv (.t 5), .none, false⟩,
 ⟨some 4, .asg (.t 17), .none, false⟩] false [4])
 (.ret))
 (.skip) [0, 1, 7, 8]))) [0, 1, 7, 8])
 (.reg [⟨some 18, .bin .add (.t 8) (.k (.int .i64 1)), .none, false⟩,
 ⟨some 8, .mv (.t 18), .none, false⟩] false [0, 1, 7, 8])))
def x41 : XF := ⟨2, 19, [.tmp 4],
  .seq (.reg [⟨some 4, .asg (.k (.int .i64 0)), .none, false⟩] false [0, 1])
 (.seq (.seq (.reg [⟨some 6, .mv (.t 0), .none, false⟩,
 ⟨some 7, .len false (.t 6), .none, false⟩,
 ⟨some 8, .mv (.k (.int .i64 0)), .none, false⟩] false [0, 1, 7, 8])
 (.block 0 (.loop x41_1 [0, 1, 7, 8]) []))
 (.seq (.reg [⟨some 4, .asg (.k (.int .i64 (-1))), .none, false⟩] false [4])
 (.ret))), [], false, false, .none⟩
def x32 : XF := ⟨2, 9, [.tmp 4],
  .seq (.reg [⟨some 4, .asg (.k (.bool false)), .none, false⟩] false [0, 1])
 (.seq (.reg [⟨some 5, .mv (.t 0), .none, false⟩,
 ⟨some 6, .mv (.t 1), .none, false⟩,
 ⟨some 7, .call 41 [.t 5, .t 6] [], .none, false⟩,
 ⟨some 8, .bin .geq (.t 7) (.k (.int .i64 0)), .none, false⟩,
 ⟨some 4, .asg (.t 8), .none, false⟩] false [4])
 (.ret)), [], false, false, .none⟩
def x13_1 : XC :=
  .cond (.t 38) (.reg [⟨some 39, .mv (.t 3), .none, false⟩,
 ⟨some 40, .mv (.t 4), .none, false⟩,
 ⟨some 41, .mv (.t 3), .none, false⟩,
 ⟨some 42, .mv (.t 4), .none, false⟩,
 ⟨some 43, .iadr 1 .none (.t 41) (.t 42), .none, false⟩,
 ⟨some 44, .load false 1 (.t 43), .none, false⟩,
 ⟨some 45, .mv (.t 7), .none, false⟩,
 ⟨some 46, .bsl 1 1 [.int .i64 0] [(0, 1, .t 45)], .none, false⟩,
 ⟨some 47, .app 1 8 (.t 44) (.t 46), .none, false⟩,
 ⟨some 48, .iadr 1 .none (.t 39) (.t 40), .none, false⟩,
 ⟨.none, .store 1 (.t 48) (.t 47), .none, false⟩] false [1, 3, 4, 5, 13, 14, 15, 26, 27, 28])
 (.skip) [1, 3, 4, 5, 13, 14, 15, 26, 27, 28]
def x13_2 : XC :=
  .seq (.reg [⟨some 29, .bin .lss (.t 28) (.t 27), .none, false⟩] false [1, 3, 4, 5, 13, 14, 15, 26, 27, 28, 29])
 (.seq (.cond (.t 29) (.skip)
 (.exit 2 [1, 3, 13, 14, 15]) [1, 3, 4, 5, 13, 14, 15, 26, 27, 28])
 (.seq (.block 3 (.seq (.reg [⟨some 30, .iadr 1 .none (.t 26) (.t 28), .none, false⟩,
 ⟨some 31, .load false 1 (.t 30), .none, false⟩,
 ⟨some 7, .asg (.t 31), .none, false⟩] false [1, 3, 4, 5, 7, 13, 14, 15, 26, 27, 28])
 (.seq (.reg [⟨some 32, .mv (.t 3), .none, false⟩,
 ⟨some 33, .mv (.t 4), .none, false⟩,
 ⟨some 34, .iadr 1 .none (.t 32) (.t 33), .none, false⟩,
 ⟨some 35, .load false 1 (.t 34), .none, false⟩,
 ⟨some 36, .mv (.t 7), .none, false⟩,
 ⟨some 37, .call 32 [.t 35, .t 36] [], .none, false⟩,
 ⟨some 38, .un .not (.t 37), .none, false⟩] false [1, 3, 4, 5, 7, 13, 14, 15, 26, 27, 28, 38])
 x13_1)) [1, 3, 4, 5, 13, 14, 15, 26, 27, 28])
 (.reg [⟨some 49, .bin .add (.t 28) (.k (.int .i64 1)), .none, false⟩,
 ⟨some 28, .mv (.t 49), .none, false⟩] false [1, 3, 4, 5, 13, 14, 15, 26, 27, 28])))
def x13_3 : XC :=
  .seq (.reg [⟨some 16, .bin .lss (.t 15) (.t 14), .none, false⟩] false [1, 3, 13, 14, 15, 16])
 (.seq (.cond (.t 16) (.skip)
 (.exit 0 [3]) [1, 3, 13, 14, 15])
 (.seq (.block 1 (.seq (.reg [⟨some 17, .mv (.t 15), .none, false⟩,
 ⟨some 18, .iadr 1 .none (.t 13) (.t 15), .none, false⟩,
 ⟨some 19, .load false 1 (.t 18), .none, false⟩,
 ⟨some 4, .asg (.t 17), .none, false⟩,
 ⟨some 5, .asg (.t 19), .none, false⟩] false [1, 3, 4, 5, 13, 14, 15])
 (.seq (.reg [⟨some 20, .mv (.t 5), .none, false⟩,
 ⟨some 21, .mv (.t 5), .none, false⟩,
 ⟨some 22, .len false (.t 21), .none, false⟩,
 ⟨some 23, .bin .sub (.t 22) (.k (.int .i64 1)), .none, false⟩,
 ⟨some 24, .iadr 8 .none (.t 20) (.t 23), .none, false⟩,
 ⟨some 25, .fadr 5 (.t 24), .none, false⟩,
 ⟨some 26, .load false 1 (.t 25), .none, false⟩,
 ⟨some 27, .len false (.t 26), .none, false⟩,
 ⟨some 28, .mv (.k (.int .i64 0)), .none, false⟩] false [1, 3, 4, 5, 13, 14, 15, 26, 27, 28])
 (.block 2 (.loop x13_2 [1, 3, 4, 5, 13, 14, 15, 26, 27, 28]) [1, 3, 13, 14, 15]))) [1, 3, 13, 14, 15])
 (.reg [⟨some 50, .bin .add (.t 15) (.k (.int .i64 1)), .none, false⟩,
 ⟨some 15, .mv (.t 50), .none, false⟩] false [1, 3, 13, 14, 15])))
def x13 : XF := ⟨1, 52, [.tmp 2],
  .seq (.reg [⟨some 1, .box (.t 0), .none, false⟩,
 ⟨some 2, .asg (.k (.nils)), .none, false⟩] false [1])
 (.seq (.reg [⟨some 8, .fadr 3 (.t 1), .none, false⟩,
 ⟨some 9, .load false 1 (.t 8), .none, false⟩,
 ⟨some 10, .len false (.t 9), .none, false⟩,
 ⟨some 11, .mksl 1 24 [.nils] (.t 10) (.t 10), .none, false⟩,
 ⟨some 3, .asg (.t 11), .none, false⟩] false [1, 3])
 (.seq (.seq (.reg [⟨some 12, .fadr 3 (.t 1), .none, false⟩,
 ⟨some 13, .load false 1 (.t 12), .none, false⟩,
 ⟨some 14, .len false (.t 13), .none, false⟩,
 ⟨some 15, .mv (.k (.int .i64 0)), .none, false⟩] false [1, 3, 13, 14, 15])
 (.block 0 (.loop x13_3 [1, 3, 13, 14, 15]) [3]))
 (.seq (.reg [⟨some 51, .mv (.t 3), .none, false⟩,
 ⟨some 2, .asg (.t 51), .none, false⟩] false [2])
 (.ret)))), [], false, false, .none⟩
def x33_1 : XC :=
  .seq (.seq (.reg [⟨some 6, .mv (.t 5), .none, false⟩,
 ⟨some 7, .mv (.t 0), .none, false⟩,
 ⟨some 8, .len false (.t 7), .none, false⟩,
 ⟨some 9, .bin .lss (.t 6) (.t 8), .none, false⟩] false [0, 1, 5, 9])
 (.cond (.t 9) (.skip)
 (.exit 0 []) [0, 1, 5]))
 (.seq (.block 1 (.seq (.reg [⟨some 12, .mv (.t 0), .none, false⟩,
 ⟨some 13, .mv (.t 5), .none, false⟩,
 ⟨some 14, .iadr 1 .none (.t 12) (.t 13), .none, false⟩,
 ⟨some 15, .load false 1 (.t 14), .none, false⟩,
 ⟨some 16, .mv (.t 1), .none, false⟩,
 ⟨some 17, .bin .eql (.t 15) (.t 16), .none, false⟩] false [0, 1, 5, 17])
 (.cond (.t 17) (.seq (.reg [⟨some 4, .asg (.k (.bool true)), .none, false⟩] false [4])
 (.ret))
 (.skip) [0, 1, 5])) [0, 1, 5])
 (.reg [⟨some 10, .mv (.t 5), .none, false⟩,
 ⟨some 11, .bin .add (.t 10) (.k (.int .i64 1)), .none, false⟩,
 ⟨some 5, .asg (.t 11), .none, false⟩] false [0, 1, 5]))
def x33 : XF := ⟨2, 18, [.tmp 4],
  .seq (.reg [⟨some 4, .asg (.k (.bool false)), .none, false⟩] false [0, 1])
 (.seq (.seq (.reg [⟨some 5, .asg (.k (.int .i64 0)), .none, false⟩] false [0, 1, 5])
 (.block 0 (.loop x33_1 [0, 1, 5]) []))
 (.seq (.reg [⟨some 4, .asg (.k (.bool false)), .none, false⟩] false [4])
 (.ret))), [], false, false, .none⟩
def x26_1 : XC :=
  .cond (.t 35) (.reg [⟨some 36, .mv (.t 5), .none, false⟩,
 ⟨some 37, .mv (.t 6), .none, false⟩,
 ⟨some 38, .mv (.t 7), .none, false⟩,
 ⟨some 39, .iadr 1 .none (.t 37) (.t 38), .none, false⟩,
 ⟨some 40, .load false 1 (.t 39), .none, false⟩,
 ⟨some 41, .bsl 1 1 [.int .i64 0] [(0, 1, .t 40)], .none, false⟩,
 ⟨some 42, .app 1 8 (.t 36) (.t 41), .none, false⟩,
 ⟨some 5, .asg (.t 42), .none, false⟩] false [5, 6, 7])
 (.skip) [5, 6, 7]
def x26_2 : XC :=
  .seq (.seq (.reg [⟨some 23, .mv (.t 7), .none, false⟩,
 ⟨some 24, .mv (.t 6), .none, false⟩,
 ⟨some 25, .len false (.t 24), .none, false⟩,
 ⟨some 26, .bin .lss (.t 23) (.t 25), .none, false⟩] false [5, 6, 7, 26])
 (.cond (.t 26) (.skip)
 (.exit 0 [5]) [5, 6, 7]))
 (.seq (.block 1 (.seq (.reg [⟨some 29, .mv (.t 5), .none, false⟩,
 ⟨some 30, .mv (.t 6), .none, false⟩,
 ⟨some 31, .mv (.t 7), .none, false⟩,
 ⟨some 32, .iadr 1 .none (.t 30) (.t 31), .none, false⟩,
 ⟨some 33, .load false 1 (.t 32), .none, false⟩,
 ⟨some 34, .call 33 [.t 29, .t 33] [], .none, false⟩,
 ⟨some 35, .un .not (.t 34), .none, false⟩] false [5, 6, 7, 35])
 x26_1) [5, 6, 7])
 (.reg [⟨some 27, .mv (.t 7), .none, false⟩,
 ⟨some 28, .bin .add (.t 27) (.k (.int .i64 1)), .none, false⟩,
 ⟨some 7, .asg (.t 28), .none, false⟩] false [5, 6, 7]))
def x26 : XF := ⟨2, 44, [.tmp 4],
  .seq (.reg [⟨some 2, .box (.t 0), .none, false⟩,
 ⟨some 4, .asg (.k (.nils)), .none, false⟩] false [1, 2])
 (.seq (.reg [⟨some 5, .asg (.k (.nils)), .none, false⟩] false [1, 2, 5])
 (.seq (.reg [⟨some 8, .fadr 3 (.t 2), .none, false⟩,
 ⟨some 9, .load false 1 (.t 8), .none, false⟩,
 ⟨some 10, .mv (.t 1), .none, false⟩,
 ⟨some 11, .iadr 1 .none (.t 9) (.t 10), .none, false⟩,
 ⟨some 12, .load false 1 (.t 11), .none, false⟩,
 ⟨some 13, .fadr 3 (.t 2), .none, false⟩,
 ⟨some 14, .load false 1 (.t 13), .none, false⟩,
 ⟨some 15, .mv (.t 1), .none, false⟩,
 ⟨some 16, .iadr 1 .none (.t 14) (.t 15), .none, false⟩,
 ⟨some 17, .load false 1 (.t 16), .none, false⟩,
 ⟨some 18, .len false (.t 17), .none, false⟩,
 ⟨some 19, .bin .sub (.t 18) (.k (.int .i64 1)), .none, false⟩,
 ⟨some 20, .iadr 8 .none (.t 12) (.t 19), .none, true⟩,
 ⟨some 21, .fadr 5 (.t 20), .none, true⟩,
 ⟨some 22, .load false 1 (.t 21), .none, true⟩,
 ⟨some 6, .asg (.t 22), .none, true⟩] true [5, 6])
 (.seq (.seq (.reg [⟨some 7, .asg (.k (.int .i64 0)), .none, false⟩] false [5, 6, 7])
 (.block 0 (.loop x26_2 [5, 6, 7]) [5]))
 (.seq (.reg [⟨some 43, .mv (.t 5), .none, false⟩,
 ⟨some 4, .asg (.t 43), .none, false⟩] false [4])
 (.ret))))), [], false, false, .none⟩
def x14_1 : XC :=
  .seq (.seq (.reg [⟨some 5, .mv (.t 4), .none, false⟩,
 ⟨some 6, .fadr 3 (.t 1), .none, false⟩,
 ⟨some 7, .load false 1 (.t 6), .none, false⟩,
 ⟨some 8, .len false (.t 7), .none, false⟩,
 ⟨some 9, .bin .lss (.t 5) (.t 8), .none, false⟩] false [1, 3, 4, 9])
 (.cond (.t 9) (.skip)
 (.exit 0 [3]) [1, 3, 4]))
 (.seq (.block 1 (.reg [⟨some 12, .mv (.t 3), .none, false⟩,
 ⟨some 13, .load true 5 (.t 1), .none, false⟩,
 ⟨some 14, .mv (.t 4), .none, false⟩,
 ⟨some 15, .call 26 [.t 13, .t 14] [], .none, false⟩,
 ⟨some 16, .bsl 1 1 [.nils] [(0, 1, .t 15)], .none, false⟩,
 ⟨some 17, .app 1 24 (.t 12) (.t 16), .none, false⟩,
 ⟨some 3, .asg (.t 17), .none, false⟩] false [1, 3, 4]) [1, 3, 4])
 (.reg [⟨some 10, .mv (.t 4), .none, false⟩,
 ⟨some 11, .bin .add (.t 10) (.k (.int .i64 1)), .none, false⟩,
 ⟨some 4, .asg (.t 11), .none, false⟩] false [1, 3, 4]))
def x14 : XF := ⟨1, 19, [.tmp 2],
  .seq (.reg [⟨some 1, .box (.t 0), .none, false⟩,
 ⟨some 2, .asg (.k (.nils)), .none, false⟩] false [1])
 (.seq (.reg [⟨some 3, .asg (.k (.nils)), .none, false⟩] false [1, 3])
 (.seq (.seq (.reg [⟨some 4, .asg (.k (.int .i64 0)), .none, false⟩] false [1, 3, 4])
 (.block 0 (.loop x14_1 [1, 3, 4]) [3]))
 (.seq (.reg [⟨some 18, .mv (.t 3), .none, false⟩,
 ⟨some 2, .asg (.t 18), .none, false⟩] false [2])
 (.ret)))), [], false, false, .none⟩
def x17_1 : XC :=
  .seq (.seq (.reg [⟨some 11, .mv (.t 5), .none, false⟩,
 ⟨some 12, .mv (.t 0), .none, false⟩,
 ⟨some 13, .len false (.t 12), .none, false⟩,
 ⟨some 14, .bin .lss (.t 11) (.t 13), .none, false⟩] false [0, 1, 5, 14])
 (.cond (.t 14) (.skip)
 (.exit 0 []) [0, 1, 5]))
 (.seq (.block 1 (.seq (.reg [⟨some 17, .mv (.t 0), .none, false⟩,
 ⟨some 18, .mv (.t 5), .none, false⟩,
 ⟨some 19, .iadr 1 .none (.t 17) (.t 18), .none, false⟩,
 ⟨some 20, .load false 1 (.t 19), .none, false⟩,
 ⟨some 21, .mv (.t 1), .none, false⟩,
 ⟨some 22, .mv (.t 5), .none, false⟩,
 ⟨some 23, .iadr 1 .none (.t 21) (.t 22), .none, false⟩,
 ⟨some 24, .load false 1 (.t 23), .none, false⟩,
 ⟨some 25, .bin .neq (.t 20) (.t 24), .none, true⟩] true [0, 1, 5, 25])
 (.cond (.t 25) (.seq (.reg [⟨some 4, .asg (.k (.bool false)), .none, false⟩] false [4])
 (.ret))
 (.skip) [0, 1, 5])) [0, 1, 5])
 (.reg [⟨some 15, .mv (.t 5), .none, false⟩,
 ⟨some 16, .bin .add (.t 15) (.k (.int .i64 1)), .none, false⟩,
 ⟨some 5, .asg (.t 16), .none, false⟩] false [0, 1, 5]))
def x17 : XF := ⟨2, 26, [.tmp 4],
  .seq (.reg [⟨some 4, .asg (.k (.bool false)), .none, false⟩] false [0, 1])
 (.seq (.seq (.reg [⟨some 6, .mv (.t 0), .none, false⟩,
 ⟨some 7, .len false (.t 6), .none, false⟩,
 ⟨some 8, .mv (.t 1), .none, false⟩,
 ⟨some 9, .len false (.t 8), .none, false⟩,
 ⟨some 10, .bin .neq (.t 7) (.t 9), .none, false⟩] false [0, 1, 10])
 (.cond (.t 10) (.seq (.reg [⟨some 4, .asg (.k (.bool false)), .none, false⟩] false [4])
 (.ret))
 (.skip) [0, 1]))
 (.seq (.seq (.reg [⟨some 5, .asg (.k (.int .i64 0)), .none, false⟩] false [0, 1, 5])
 (.block 0 (.loop x17_1 [0, 1, 5]) []))
 (.seq (.reg [⟨some 4, .asg (.k (.bool true)), .none, false⟩] false [4])
 (.ret)))), [], false, false, .none⟩
def x12_1 : XC :=
  .seq (.seq (.reg [⟨some 11, .mv (.t 5), .none, false⟩,
 ⟨some 12, .mv (.t 0), .none, false⟩,
 ⟨some 13, .len false (.t 12), .none, false⟩,
 ⟨some 14, .bin .lss (.t 11) (.t 13), .none, false⟩] false [0, 1, 5, 14])
 (.cond (.t 14) (.skip)
 (.exit 0 []) [0, 1, 5]))
 (.seq (.block 1 (.seq (.reg [⟨some 17, .mv (.t 0), .none, false⟩,
 ⟨some 18, .mv (.t 5), .none, false⟩,
 ⟨some 19, .iadr 1 .none (.t 17) (.t 18), .none, false⟩,
 ⟨some 20, .load false 1 (.t 19), .none, false⟩,
 ⟨some 21, .mv (.t 1), .none, false⟩,
 ⟨some 22, .mv (.t 5), .none, false⟩,
 ⟨some 23, .iadr 1 .none (.t 21) (.t 22), .none, false⟩,
 ⟨some 24, .load false 1 (.t 23), .none, false⟩,
 ⟨some 25, .call 17 [.t 20, .t 24] [], .none, true⟩,
 ⟨some 26, .un .not (.t 25), .none, true⟩] true [0, 1, 5, 26])
 (.cond (.t 26) (.seq (.reg [⟨some 4, .asg (.k (.bool false)), .none, false⟩] false [4])
 (.ret))
 (.skip) [0, 1, 5])) [0, 1, 5])
 (.reg [⟨some 15, .mv (.t 5), .none, false⟩,
 ⟨some 16, .bin .add (.t 15) (.k (.int .i64 1)), .none, false⟩,
 ⟨some 5, .asg (.t 16), .none, false⟩] false [0, 1, 5]))
def x12 : XF := ⟨2, 27, [.tmp 4],
  .seq (.reg [⟨some 4, .asg (.k (.bool false)), .none, false⟩] false [0, 1])
 (.seq (.seq (.reg [⟨some 6, .mv (.t 0), .none, false⟩,
 ⟨some 7, .len false (.t 6), .none, false⟩,
 ⟨some 8, .mv (.t 1), .none, false⟩,
 ⟨some 9, .len false (.t 8), .none, false⟩,
 ⟨some 10, .bin .neq (.t 7) (.t 9), .none, false⟩] false [0, 1, 10])
 (.cond (.t 10) (.seq (.reg [⟨some 4, .asg (.k (.bool false)), .none, false⟩] false [4])
 (.ret))
 (.skip) [0, 1]))
 (.seq (.seq (.reg [⟨some 5, .asg (.k (.int .i64 0)), .none, false⟩] false [0, 1, 5])
 (.block 0 (.loop x12_1 [0, 1, 5]) []))
 (.seq (.reg [⟨some 4, .asg (.k (.bool true)), .none, false⟩] false [4])
 (.ret)))), [], false, false, .none⟩
def x15_1 : XC :=
  .seq (.reg [⟨some 23, .bin .lss (.t 22) (.t 21), .none, false⟩] false [3, 4, 5, 13, 14, 15, 20, 21, 22, 23])
 (.seq (.cond (.t 23) (.skip)
 (.exit 2 [3, 13, 14, 15]) [3, 4, 5, 13, 14, 15, 20, 21, 22])
 (.seq (.block 3 (.seq (.reg [⟨some 24, .iadr 1 .none (.t 20) (.t 22), .none, false⟩,
 ⟨some 25, .load false 1 (.t 24), .none, false⟩,
 ⟨some 7, .asg (.t 25), .none, false⟩] false [3, 4, 5, 7, 13, 14, 15, 20, 21, 22])
 (.reg [⟨some 26, .mv (.t 3), .none, false⟩,
 ⟨some 27, .mv (.t 7), .none, false⟩,
 ⟨some 28, .mv (.t 3), .none, false⟩,
 ⟨some 29, .mv (.t 7), .none, false⟩,
 ⟨some 30, .iadr 1 .none (.t 28) (.t 29), .none, false⟩,
 ⟨some 31, .load false 1 (.t 30), .none, false⟩,
 ⟨some 32, .mv (.t 4), .none, false⟩,
 ⟨some 33, .bsl 1 1 [.int .i64 0] [(0, 1, .t 32)], .none, false⟩,
 ⟨some 34, .app 1 8 (.t 31) (.t 33), .none, false⟩,
 ⟨some 35, .iadr 1 .none (.t 26) (.t 27), .none, false⟩,
 ⟨.none, .store 1 (.t 35) (.t 34), .none, false⟩] false [3, 4, 5, 13, 14, 15, 20, 21, 22])) [3, 4, 5, 13, 14, 15, 20, 21, 22])
 (.reg [⟨some 36, .bin .add (.t 22) (.k (.int .i64 1)), .none, false⟩,
 ⟨some 22, .mv (.t 36), .none, false⟩] false [3, 4, 5, 13, 14, 15, 20, 21, 22])))
def x15_2 : XC :=
  .seq (.reg [⟨some 16, .bin .lss (.t 15) (.t 14), .none, false⟩] false [3, 13, 14, 15, 16])
 (.seq (.cond (.t 16) (.skip)
 (.exit 0 [3]) [3, 13, 14, 15])
 (.seq (.block 1 (.seq (.reg [⟨some 17, .mv (.t 15), .none, false⟩,
 ⟨some 18, .iadr 1 .none (.t 13) (.t 15), .none, false⟩,
 ⟨some 19, .load false 1 (.t 18), .none, false⟩,
 ⟨some 4, .asg (.t 17), .none, false⟩,
 ⟨some 5, .asg (.t 19), .none, false⟩] false [3, 4, 5, 13, 14, 15])
 (.seq (.reg [⟨some 20, .mv (.t 5), .none, false⟩,
 ⟨some 21, .len false (.t 20), .none, false⟩,
 ⟨some 22, .mv (.k (.int .i64 0)), .none, false⟩] false [3, 4, 5, 13, 14, 15, 20, 21, 22])
 (.block 2 (.loop x15_1 [3, 4, 5, 13, 14, 15, 20, 21, 22]) [3, 13, 14, 15]))) [3, 13, 14, 15])
 (.reg [⟨some 37, .bin .add (.t 15) (.k (.int .i64 1)), .none, false⟩,
 ⟨some 15, .mv (.t 37), .none, false⟩] false [3, 13, 14, 15])))
def x15 : XF := ⟨1, 39, [.tmp 2],
  .seq (.reg [⟨some 1, .box (.t 0), .none, false⟩,
 ⟨some 2, .asg (.k (.nils)), .none, false⟩] false [1])
 (.seq (.reg [⟨some 8, .fadr 3 (.t 1), .none, false⟩,
 ⟨some 9, .load false 1 (.t 8), .none, false⟩,
 ⟨some 10, .len false (.t 9), .none, false⟩,
 ⟨some 11, .mksl 1 24 [.nils] (.t 10) (.t 10), .none, false⟩,
 ⟨some 3, .asg (.t 11), .none, false⟩] false [1, 3])
 (.seq (.seq (.reg [⟨some 12, .load true 5 (.t 1), .none, false⟩,
 ⟨some 13, .call 13 [.t 12] [], .none, false⟩,
 ⟨some 14, .len false (.t 13), .none, false⟩,
 ⟨some 15, .mv (.k (.int .i64 0)), .none, false⟩] false [3, 13, 14, 15])
 (.block 0 (.loop x15_2 [3, 13, 14, 15]) [3]))
 (.seq (.reg [⟨some 38, .mv (.t 3), .none, false⟩,
 ⟨some 2, .asg (.t 38), .none, false⟩] false [2])
 (.ret)))), [], false, false, .none⟩
def x16_1 : XC :=
  .cond (.t 25) (.reg [⟨some 26, .mv (.t 5), .none, false⟩,
 ⟨some 27, .mv (.t 6), .none, false⟩,
 ⟨some 28, .bsl 1 1 [.int .i64 0] [(0, 1, .t 27)], .none, false⟩,
 ⟨some 29, .app 1 8 (.t 26) (.t 28), .none, false⟩,
 ⟨some 5, .asg (.t 29), .none, false⟩] false [1, 3, 4, 5, 6])
 (.skip) [1, 3, 4, 5, 6]
def x16_2 : XC :=
  .seq (.seq (.reg [⟨some 14, .mv (.t 6), .none, false⟩,
 ⟨some 15, .fadr 3 (.t 1), .none, false⟩,
 ⟨some 16, .load false 1 (.t 15), .none, false⟩,
 ⟨some 17, .len false (.t 16), .none, false⟩,
 ⟨some 18, .bin .lss (.t 14) (.t 17), .none, false⟩] false [1, 3, 4, 5, 6, 18])
 (.cond (.t 18) (.skip)
 (.exit 2 [1, 3, 4, 5]) [1, 3, 4, 5, 6]))
 (.seq (.block 3 (.seq (.reg [⟨some 21, .load true 5 (.t 1), .none, false⟩,
 ⟨some 22, .mv (.t 6), .none, false⟩,
 ⟨some 23, .call 26 [.t 21, .t 22] [], .none, false⟩,
 ⟨some 24, .mv (.t 4), .none, false⟩,
 ⟨some 25, .call 33 [.t 23, .t 24] [], .none, false⟩] false [1, 3, 4, 5, 6, 25])
 x16_1) [1, 3, 4, 5, 6])
 (.reg [⟨some 19, .mv (.t 6), .none, false⟩,
 ⟨some 20, .bin .add (.t 19) (.k (.int .i64 1)), .none, false⟩,
 ⟨some 6, .asg (.t 20), .none, false⟩] false [1, 3, 4, 5, 6]))
def x16_3 : XC :=
  .seq (.seq (.reg [⟨some 7, .mv (.t 4), .none, false⟩,
 ⟨some 8, .fadr 3 (.t 1), .none, false⟩,
 ⟨some 9, .load false 1 (.t 8), .none, false⟩,
 ⟨some 10, .len false (.t 9), .none, false⟩,
 ⟨some 11, .bin .lss (.t 7) (.t 10), .none, false⟩] false [1, 3, 4, 11])
 (.cond (.t 11) (.skip)
 (.exit 0 [3]) [1, 3, 4]))
 (.seq (.block 1 (.seq (.reg [⟨some 5, .asg (.k (.nils)), .none, false⟩] false [1, 3, 4, 5])
 (.seq (.seq (.reg [⟨some 6, .asg (.k (.int .i64 0)), .none, false⟩] false [1, 3, 4, 5, 6])
 (.block 2 (.loop x16_2 [1, 3, 4, 5, 6]) [1, 3, 4, 5]))
 (.reg [⟨some 30, .mv (.t 3), .none, false⟩,
 ⟨some 31, .mv (.t 5), .none, false⟩,
 ⟨some 32, .bsl 1 1 [.nils] [(0, 1, .t 31)], .none, false⟩,
 ⟨some 33, .app 1 24 (.t 30) (.t 32), .none, false⟩,
 ⟨some 3, .asg (.t 33), .none, false⟩] false [1, 3, 4]))) [1, 3, 4])
 (.reg [⟨some 12, .mv (.t 4), .none, false⟩,
 ⟨some 13, .bin .add (.t 12) (.k (.int .i64 1)), .none, false⟩,
 ⟨some 4, .asg (.t 13), .none, false⟩] false [1, 3, 4]))
def x16 : XF := ⟨1, 35, [.tmp 2],
  .seq (.reg [⟨some 1, .box (.t 0), .none, false⟩,
 ⟨some 2, .asg (.k (.nils)), .none, false⟩] false [1])
 (.seq (.reg [⟨some 3, .asg (.k (.nils)), .none, false⟩] false [1, 3])
 (.seq (.seq (.reg [⟨some 4, .asg (.k (.int .i64 0)), .none, false⟩] false [1, 3, 4])
 (.block 0 (.loop x16_3 [1, 3, 4]) [3]))
 (.seq (.reg [⟨some 34, .mv (.t 3), .none, false⟩,
 ⟨some 2, .asg (.t 34), .none, false⟩] false [2])
 (.ret)))), [], false, false, .none⟩
def x34_1 : XC :=
  .cond (.t 31) (.reg [⟨some 32, .mv (.t 0), .none, false⟩,
 ⟨some 33, .mv (.t 5), .none, false⟩,
 ⟨some 34, .call 34 [.t 32, .t 33] [], .none, false⟩] false [0, 1, 18, 19, 20])
 (.skip) [0, 1, 18, 19, 20]
def x34_2 : XC :=
  .seq (.reg [⟨some 21, .bin .lss (.t 20) (.t 19), .none, false⟩] false [0, 1, 18, 19, 20, 21])
 (.seq (.cond (.t 21) (.skip)
 (.exit 0 [0, 1]) [0, 1, 18, 19, 20])
 (.seq (.block 1 (.seq (.reg [⟨some 22, .iadr 1 .none (.t 18) (.t 20), .none, false⟩,
 ⟨some 23, .load false 1 (.t 22), .none, false⟩,
 ⟨some 5, .asg (.t 23), .none, false⟩] false [0, 1, 5, 18, 19, 20])
 (.seq (.reg [⟨some 24, .mv (.t 0), .none, false⟩,
 ⟨some 25, .nilck (.t 24), .none, false⟩,
 ⟨some 26, .fadr 1 (.t 25), .none, false⟩,
 ⟨some 27, .load false 1 (.t 26), .none, false⟩,
 ⟨some 28, .mv (.t 5), .none, false⟩,
 ⟨some 29, .iadr 1 .none (.t 27) (.t 28), .none, false⟩,
 ⟨some 30, .load false 1 (.t 29), .none, false⟩,
 ⟨some 31, .un .not (.t 30), .none, false⟩] false [0, 1, 5, 18, 19, 20, 31])
 x34_1)) [0, 1, 18, 19, 20])
 (.reg [⟨some 35, .bin .add (.t 20) (.k (.int .i64 1)), .none, false⟩,
 ⟨some 20, .mv (.t 35), .none, false⟩] false [0, 1, 18, 19, 20])))
def x34 : XF := ⟨2, 46, [],
  .seq (.reg [⟨some 6, .mv (.t 0), .none, false⟩,
 ⟨some 7, .nilck (.t 6), .none, false⟩,
 ⟨some 8, .fadr 1 (.t 7), .none, false⟩,
 ⟨some 9, .load false 1 (.t 8), .none, false⟩,
 ⟨some 10, .mv (.t 1), .none, false⟩,
 ⟨some 11, .iadr 1 .none (.t 9) (.t 10), .none, false⟩,
 ⟨.none, .store 1 (.t 11) (.k (.bool true)), .none, false⟩] false [0, 1])
 (.seq (.seq (.reg [⟨some 12, .mv (.t 0), .none, false⟩,
 ⟨some 13, .nilck (.t 12), .none, false⟩,
 ⟨some 14, .fadr 0 (.t 13), .none, false⟩,
 ⟨some 15, .load false 1 (.t 14), .none, false⟩,
 ⟨some 16, .mv (.t 1), .none, false⟩,
 ⟨some 17, .iadr 1 .none (.t 15) (.t 16), .none, false⟩,
 ⟨some 18, .load false 1 (.t 17), .none, false⟩,
 ⟨some 19, .len false (.t 18), .none, false⟩,
 ⟨some 20, .mv (.k (.int .i64 0)), .none, false⟩] false [0, 1, 18, 19, 20])
 (.block 0 (.loop x34_2 [0, 1, 18, 19, 20]) [0, 1]))
 (.reg [⟨some 36, .mv (.t 0), .none, false⟩,
 ⟨some 37, .mv (.t 0), .none, false⟩,
 ⟨some 38, .nilck (.t 37), .none, false⟩,
 ⟨some 39, .fadr 2 (.t 38), .none, false⟩,
 ⟨some 40, .load false 1 (.t 39), .none, false⟩,
 ⟨some 41, .mv (.t 1), .none, false⟩,
 ⟨some 42, .bsl 1 1 [.int .i64 0] [(0, 1, .t 41)], .none, false⟩,
 ⟨some 43, .app 1 8 (.t 40) (.t 42), .none, false⟩,
 ⟨some 44, .nilck (.t 36), .none, false⟩,
 ⟨some 45, .fadr 2 (.t 44), .none, false⟩,
 ⟨.none, .store 1 (.t 45) (.t 43), .none, false⟩] false [0])), [0], false, false, .none⟩
def x18 : XF := ⟨1, 23, [.tmp 2],
  .seq (.reg [⟨some 1, .box (.t 0), .none, false⟩,
 ⟨some 2, .asg (.k (.nils)), .none, false⟩] false [1])
 (.seq (.reg [⟨some 4, .load true 5 (.t 1), .none, false⟩,
 ⟨some 5, .call 13 [.t 4] [], .none, false⟩,
 ⟨some 6, .fadr 3 (.t 1), .none, false⟩,
 ⟨some 7, .load false 1 (.t 6), .none, false⟩,
 ⟨some 8, .len false (.t 7), .none, false⟩,
 ⟨some 9, .mksl 1 1 [.bool false] (.t 8) (.t 8), .none, false⟩,
 ⟨some 10, .build [.nils, .nils, .nils] [(0, 1, .t 5), (1, 1, .t 9)], .none, true⟩,
 ⟨some 11, .box (.t 10), .none, true⟩,
 ⟨some 3, .asg (.t 11), .none, true⟩] true [3, 11])
 (.seq (.reg [⟨some 12, .mv (.t 3), .none, false⟩,
 ⟨some 13, .call 34 [.t 12, .k (.int .i64 0)] [], .none, false⟩] false [3, 11])
 (.seq (.reg [⟨some 14, .mv (.t 3), .none, false⟩,
 ⟨some 15, .nilck (.t 14), .none, false⟩,
 ⟨some 16, .fadr 2 (.t 15), .none, false⟩,
 ⟨some 17, .load false 1 (.t 16), .none, false⟩,
 ⟨some 18, .call 35 [.t 17] [0], .none, false⟩] false [3, 11])
 (.seq (.reg [⟨some 19, .mv (.t 3), .none, false⟩,
 ⟨some 20, .nilck (.t 19), .none, false⟩,
 ⟨some 21, .fadr 2 (.t 20), .none, false⟩,
 ⟨some 22, .load false 1 (.t 21), .none, false⟩,
 ⟨some 2, .asg (.t 22), .none, false⟩] false [2])
 (.ret))))), [], false, false, .none⟩
def x36_1 : XC :=
  .reg [⟨some 31, .mv (.t 10), .none, false⟩,
 ⟨some 32, .mv (.t 11), .none, false⟩,
 ⟨some 33, .mv (.t 12), .none, false⟩,
 ⟨some 34, .iadr 1 .none (.t 32) (.t 33), .none, false⟩,
 ⟨some 35, .load false 1 (.t 34), .none, false⟩,
 ⟨some 36, .call 33 [.t 31, .t 35] [], .none, false⟩,
 ⟨some 37, .un .not (.t 36), .none, false⟩,
 ⟨some 38, .mv (.t 37), .none, false⟩,
 ⟨some 39, .mv (.t 9), some (38, true), false⟩,
 ⟨some 40, .mv (.t 11), some (38, true), false⟩,
 ⟨some 41, .mv (.t 12), some (38, true), false⟩,
 ⟨some 42, .iadr 1 .none (.t 40) (.t 41), some (38, true), false⟩,
 ⟨some 43, .load false 1 (.t 42), some (38, true), false⟩,
 ⟨some 44, .call 33 [.t 39, .t 43] [], some (38, true), false⟩,
 ⟨some 45, .un .not (.t 44), some (38, true), false⟩,
 ⟨some 46, .pick (.t 38) (.t 45) (.k (.bool false)), .none, false⟩] false [1, 4, 9, 10, 11, 12, 46]
def x36_3 : XC :=
  .reg [⟨some 47, .load true 5 (.t 4), .none, false⟩,
 ⟨some 48, .mv (.t 11), .none, false⟩,
 ⟨some 49, .mv (.t 12), .none, false⟩,
 ⟨some 50, .iadr 1 .none (.t 48) (.t 49), .none, false⟩,
 ⟨some 51, .load false 1 (.t 50), .none, false⟩,
 ⟨some 52, .mv (.t 10), .none, false⟩,
 ⟨some 53, .mv (.t 9), .none, false⟩,
 ⟨some 54, .call 36 [.t 47, .t 51, .t 52, .t 53] [], .none, true⟩,
 ⟨some 10, .asg (.t 54), .none, true⟩] true [1, 4, 9, 10, 11, 12]
def x36_2 : XC :=
  .cond (.t 46) x36_3
 (.skip) [1, 4, 9, 10, 11, 12]
def x36_4 : XC :=
  .seq (.seq (.reg [⟨some 25, .mv (.t 12), .none, false⟩,
 ⟨some 26, .mv (.t 11), .none, false⟩,
 ⟨some 27, .len false (.t 26), .none, false⟩,
 ⟨some 28, .bin .lss (.t 25) (.t 27), .none, false⟩] false [1, 4, 9, 10, 11, 12, 28])
 (.cond (.t 28) (.skip)
 (.exit 0 [1, 10]) [1, 4, 9, 10, 11, 12]))
 (.seq (.block 1 (.seq x36_1
 x36_2) [1, 4, 9, 10, 11, 12])
 (.reg [⟨some 29, .mv (.t 12), .none, false⟩,
 ⟨some 30, .bin .add (.t 29) (.k (.int .i64 1)), .none, false⟩,
 ⟨some 12, .asg (.t 30), .none, false⟩] false [1, 4, 9, 10, 11, 12]))
def x36 : XF := ⟨4, 62, [.tmp 8],
  .seq (.reg [⟨some 4, .box (.t 0), .none, false⟩,
 ⟨some 8, .asg (.k (.nils)), .none, false⟩] false [1, 2, 3, 4])
 (.seq (.reg [⟨some 9, .asg (.k (.nils)), .none, false⟩] false [1, 2, 3, 4, 9])
 (.seq (.reg [⟨some 14, .mv (.t 9), .none, false⟩,
 ⟨some 15, .mv (.t 3), .none, false⟩,
 ⟨some 16, .app 1 8 (.t 14) (.t 15), .none, false⟩,
 ⟨some 9, .asg (.t 16), .none, false⟩] false [1, 2, 4, 9])
 (.seq (.reg [⟨some 17, .mv (.t 9), .none, false⟩,
 ⟨some 18, .mv (.t 1), .none, false⟩,
 ⟨some 19, .bsl 1 1 [.int .i64 0] [(0, 1, .t 18)], .none, false⟩,
 ⟨some 20, .app 1 8 (.t 17) (.t 19), .none, false⟩,
 ⟨some 9, .asg (.t 20), .none, false⟩] false [1, 2, 4, 9])
 (.seq (.reg [⟨some 21, .mv (.t 2), .none, false⟩,
 ⟨some 10, .asg (.t 21), .none, false⟩] false [1, 4, 9, 10])
 (.seq (.reg [⟨some 22, .load true 5 (.t 4), .none, false⟩,
 ⟨some 23, .mv (.t 1), .none, false⟩,
 ⟨some 24, .call 26 [.t 22, .t 23] [], .none, false⟩,
 ⟨some 11, .asg (.t 24), .none, false⟩] false [1, 4, 9, 10, 11])
 (.seq (.seq (.reg [⟨some 12, .asg (.k (.int .i64 0)), .none, false⟩] false [1, 4, 9, 10, 11, 12])
 (.block 0 (.loop x36_4 [1, 4, 9, 10, 11, 12]) [1, 10]))
 (.seq (.reg [⟨some 13, .asg (.k (.nils)), .none, false⟩] false [1, 10, 13])
 (.seq (.reg [⟨some 55, .mv (.t 13), .none, false⟩,
 ⟨some 56, .mv (.t 10), .none, false⟩,
 ⟨some 57, .app 1 8 (.t 55) (.t 56), .none, false⟩,
 ⟨some 13, .asg (.t 57), .none, false⟩] false [1, 13])
 (.seq (.reg [⟨some 58, .mv (.t 13), .none, false⟩,
 ⟨some 59, .mv (.t 1), .none, false⟩,
 ⟨some 60, .bsl 1 1 [.int .i64 0] [(0, 1, .t 59)], .none, false⟩,
 ⟨some 61, .app 1 8 (.t 58) (.t 60), .none, false⟩,
 ⟨some 8, .asg (.t 61), .none, false⟩] false [8])
 (.ret)))))))))), [], false, false, .none⟩
def x19_1 : XC :=
  .seq (.seq (.reg [⟨some 11, .mv (.t 5), .none, false⟩,
 ⟨some 12, .bin .geq (.t 11) (.k (.int .i64 0)), .none, false⟩] false [3, 4, 5, 12])
 (.cond (.t 12) (.skip)
 (.exit 0 [4]) [3, 4, 5]))
 (.seq (.block 1 (.reg [⟨some 15, .mv (.t 4), .none, false⟩,
 ⟨some 16, .mv (.t 3), .none, false⟩,
 ⟨some 17, .mv (.t 5), .none, false⟩,
 ⟨some 18, .iadr 1 .none (.t 16) (.t 17), .none, false⟩,
 ⟨some 19, .load false 1 (.t 18), .none, false⟩,
 ⟨some 20, .bsl 1 1 [.int .i64 0] [(0, 1, .t 19)], .none, false⟩,
 ⟨some 21, .app 1 8 (.t 15) (.t 20), .none, false⟩,
 ⟨some 4, .asg (.t 21), .none, false⟩] false [3, 4, 5]) [3, 4, 5])
 (.reg [⟨some 13, .mv (.t 5), .none, false⟩,
 ⟨some 14, .bin .sub (.t 13) (.k (.int .i64 1)), .none, false⟩,
 ⟨some 5, .asg (.t 14), .none, false⟩] false [3, 4, 5]))
def x19 : XF := ⟨1, 23, [.tmp 2],
  .seq (.reg [⟨some 1, .box (.t 0), .none, false⟩,
 ⟨some 2, .asg (.k (.nils)), .none, false⟩] false [1])
 (.seq (.reg [⟨some 6, .load true 5 (.t 1), .none, false⟩,
 ⟨some 7, .call 36 [.t 6, .k (.int .i64 0), .k (.nils), .k (.nils)] [], .none, false⟩,
 ⟨some 3, .asg (.t 7), .none, false⟩] false [3])
 (.seq (.reg [⟨some 4, .asg (.k (.nils)), .none, false⟩] false [3, 4])
 (.seq (.seq (.reg [⟨some 8, .mv (.t 3), .none, false⟩,
 ⟨some 9, .len false (.t 8), .none, false⟩,
 ⟨some 10, .bin .sub (.t 9) (.k (.int .i64 1)), .none, false⟩,
 ⟨some 5, .asg (.t 10), .none, false⟩] false [3, 4, 5])
 (.block 0 (.loop x19_1 [3, 4, 5]) [4]))
 (.seq (.reg [⟨some 22, .mv (.t 4), .none, false⟩,
 ⟨some 2, .asg (.t 22), .none, false⟩] false [2])
 (.ret))))), [], false, false, .none⟩
def x20_1 : XC :=
  .seq (.reg [⟨some 14, .bin .lss (.t 13) (.t 12), .none, false⟩] false [1, 3, 12, 13, 14])
 (.seq (.cond (.t 14) (.skip)
 (.exit 0 [1, 3]) [1, 3, 12, 13])
 (.seq (.block 1 (.seq (.reg [⟨some 15, .mv (.t 13), .none, false⟩,
 ⟨some 4, .asg (.t 15), .none, false⟩] false [1, 3, 4, 12, 13])
 (.reg [⟨some 16, .mv (.t 3), .none, false⟩,
 ⟨some 17, .mv (.t 4), .none, false⟩,
 ⟨some 18, .iadr 1 .none (.t 16) (.t 17), .none, false⟩,
 ⟨.none, .store 1 (.t 18) (.k (.int .i64 (-1))), .none, false⟩] false [1, 3, 12, 13])) [1, 3, 12, 13])
 (.reg [⟨some 19, .bin .add (.t 13) (.k (.int .i64 1)), .none, false⟩,
 ⟨some 13, .mv (.t 19), .none, false⟩] false [1, 3, 12, 13])))
def x20_2 : XC :=
  .seq (.reg [⟨some 24, .bin .lss (.t 23) (.t 22), .none, false⟩] false [3, 21, 22, 23, 24])
 (.seq (.cond (.t 24) (.skip)
 (.exit 2 [3]) [3, 21, 22, 23])
 (.seq (.block 3 (.seq (.reg [⟨some 25, .mv (.t 23), .none, false⟩,
 ⟨some 26, .iadr 1 .none (.t 21) (.t 23), .none, false⟩,
 ⟨some 27, .load false 1 (.t 26), .none, false⟩,
 ⟨some 5, .asg (.t 25), .none, false⟩,
 ⟨some 6, .asg (.t 27), .none, false⟩] false [3, 5, 6, 21, 22, 23])
 (.reg [⟨some 28, .mv (.t 3), .none, false⟩,
 ⟨some 29, .mv (.t 6), .none, false⟩,
 ⟨some 30, .mv (.t 5), .none, false⟩,
 ⟨some 31, .iadr 1 .none (.t 28) (.t 29), .none, false⟩,
 ⟨.none, .store 1 (.t 31) (.t 30), .none, false⟩] false [3, 21, 22, 23])) [3, 21, 22, 23])
 (.reg [⟨some 32, .bin .add (.t 23) (.k (.int .i64 1)), .none, false⟩,
 ⟨some 23, .mv (.t 32), .none, false⟩] false [3, 21, 22, 23])))
def x20 : XF := ⟨1, 34, [.tmp 2],
  .seq (.reg [⟨some 1, .box (.t 0), .none, false⟩,
 ⟨some 2, .asg (.k (.nils)), .none, false⟩] false [1])
 (.seq (.reg [⟨some 7, .fadr 3 (.t 1), .none, false⟩,
 ⟨some 8, .load false 1 (.t 7), .none, false⟩,
 ⟨some 9, .len false (.t 8), .none, false⟩,
 ⟨some 10, .mksl 1 8 [.int .i64 0] (.t 9) (.t 9), .none, false⟩,
 ⟨some 3, .asg (.t 10), .none, false⟩] false [1, 3])
 (.seq (.seq (.reg [⟨some 11, .mv (.t 3), .none, false⟩,
 ⟨some 12, .len false (.t 11), .none, false⟩,
 ⟨some 13, .mv (.k (.int .i64 0)), .none, false⟩] false [1, 3, 12, 13])
 (.block 0 (.loop x20_1 [1, 3, 12, 13]) [1, 3]))
 (.seq (.seq (.reg [⟨some 20, .load true 5 (.t 1), .none, false⟩,
 ⟨some 21, .call 18 [.t 20] [], .none, false⟩,
 ⟨some 22, .len false (.t 21), .none, false⟩,
 ⟨some 23, .mv (.k (.int .i64 0)), .none, false⟩] false [3, 21, 22, 23])
 (.block 2 (.loop x20_2 [3, 21, 22, 23]) [3]))
 (.seq (.reg [⟨some 33, .mv (.t 3), .none, false⟩,
 ⟨some 2, .asg (.t 33), .none, false⟩] false [2])
 (.ret))))), [], false, false, .none⟩
def x37_1 : XC :=
  .seq (.seq (.reg [⟨some 6, .mv (.t 5), .none, false⟩,
 ⟨some 7, .mv (.t 0), .none, false⟩,
 ⟨some 8, .len false (.t 7), .none, false⟩,
 ⟨some 9, .bin .lss (.t 6) (.t 8), .none, false⟩] false [0, 1, 5, 9])
 (.cond (.t 9) (.skip)
 (.exit 0 []) [0, 1, 5]))
 (.seq (.block 1 (.seq (.reg [⟨some 12, .mv (.t 0), .none, false⟩,
 ⟨some 13, .mv (.t 5), .none, false⟩,
 ⟨some 14, .iadr 1 .none (.t 12) (.t 13), .none, false⟩,
 ⟨some 15, .load false 1 (.t 14), .none, false⟩,
 ⟨some 16, .mv (.t 1), .none, false⟩,
 ⟨some 17, .bin .eql (.t 15) (.t 16), .none, false⟩] false [0, 1, 5, 17])
 (.cond (.t 17) (.seq (.reg [⟨some 18, .mv (.t 5), .none, false⟩,
 ⟨some 4, .asg (.t 18), .none, false⟩] false [4])
 (.ret))
 (.skip) [0, 1, 5])) [0, 1, 5])
 (.reg [⟨some 10, .mv (.t 5), .none, false⟩,
 ⟨some 11, .bin .add (.t 10) (.k (.int .i64 1)), .none, false⟩,
 ⟨some 5, .asg (.t 11), .none, false⟩] false [0, 1, 5]))
def x37 : XF := ⟨2, 19, [.tmp 4],
  .seq (.reg [⟨some 4, .asg (.k (.int .i64 0)), .none, false⟩] false [0, 1])
 (.seq (.seq (.reg [⟨some 5, .asg (.k (.int .i64 0)), .none, false⟩] false [0, 1, 5])
 (.block 0 (.loop x37_1 [0, 1, 5]) []))
 (.seq (.reg [⟨some 4, .asg (.k (.int .i64 (-1))), .none, false⟩] false [4])
 (.ret))), [], false, false, .none⟩
def x21_1 : XC :=
  .seq (.seq (.reg [⟨some 8, .mv (.t 5), .none, false⟩,
 ⟨some 9, .fadr 3 (.t 1), .none, false⟩,
 ⟨some 10, .load false 1 (.t 9), .none, false⟩,
 ⟨some 11, .len false (.t 10), .none, false⟩,
 ⟨some 12, .bin .lss (.t 8) (.t 11), .none, false⟩] false [1, 3, 4, 5, 12])
 (.cond (.t 12) (.skip)
 (.exit 0 [4]) [1, 3, 4, 5]))
 (.seq (.block 1 (.reg [⟨some 15, .mv (.t 4), .none, false⟩,
 ⟨some 16, .mv (.t 3), .none, false⟩,
 ⟨some 17, .mv (.t 5), .none, false⟩,
 ⟨some 18, .call 37 [.t 16, .t 17] [], .none, false⟩,
 ⟨some 19, .bsl 1 1 [.int .i64 0] [(0, 1, .t 18)], .none, false⟩,
 ⟨some 20, .app 1 8 (.t 15) (.t 19), .none, false⟩,
 ⟨some 4, .asg (.t 20), .none, false⟩] false [1, 3, 4, 5]) [1, 3, 4, 5])
 (.reg [⟨some 13, .mv (.t 5), .none, false⟩,
 ⟨some 14, .bin .add (.t 13) (.k (.int .i64 1)), .none, false⟩,
 ⟨some 5, .asg (.t 14), .none, false⟩] false [1, 3, 4, 5]))
def x21 : XF := ⟨1, 22, [.tmp 2],
  .seq (.reg [⟨some 1, .box (.t 0), .none, false⟩,
 ⟨some 2, .asg (.k (.nils)), .none, false⟩] false [1])
 (.seq (.reg [⟨some 6, .load true 5 (.t 1), .none, false⟩,
 ⟨some 7, .call 19 [.t 6] [], .none, false⟩,
 ⟨some 3, .asg (.t 7), .none, false⟩] false [1, 3])
 (.seq (.reg [⟨some 4, .asg (.k (.nils)), .none, false⟩] false [1, 3, 4])
 (.seq (.seq (.reg [⟨some 5, .asg (.k (.int .i64 0)), .none, false⟩] false [1, 3, 4, 5])
 (.block 0 (.loop x21_1 [1, 3, 4, 5]) [4]))
 (.seq (.reg [⟨some 21, .mv (.t 4), .none, false⟩,
 ⟨some 2, .asg (.t 21), .none, false⟩] false [2])
 (.ret))))), [], false, false, .none⟩
def x22_1 : XC :=
  .reg [⟨some 25, .mv (.t 4), .none, false⟩,
 ⟨some 26, .mv (.t 5), .none, false⟩,
 ⟨some 27, .iadr 1 .none (.t 25) (.t 26), .none, false⟩,
 ⟨some 28, .load false 1 (.t 27), .none, false⟩,
 ⟨some 29, .bin .geq (.t 28) (.k (.int .i64 0)), .none, false⟩,
 ⟨some 30, .mv (.t 29), .none, false⟩,
 ⟨some 31, .mv (.t 4), some (30, true), false⟩,
 ⟨some 32, .mv (.t 8), some (30, true), false⟩,
 ⟨some 33, .iadr 1 .none (.t 31) (.t 32), some (30, true), false⟩,
 ⟨some 34, .load false 1 (.t 33), some (30, true), false⟩,
 ⟨some 35, .mv (.t 4), some (30, true), false⟩,
 ⟨some 36, .mv (.t 5), some (30, true), false⟩,
 ⟨some 37, .iadr 1 .none (.t 35) (.t 36), some (30, true), false⟩,
 ⟨some 38, .load false 1 (.t 37), some (30, true), false⟩,
 ⟨some 39, .bin .leq (.t 34) (.t 38), some (30, true), true⟩,
 ⟨some 40, .pick (.t 30) (.t 39) (.k (.bool false)), .none, true⟩] true [3, 4, 5, 6, 8, 12, 13, 14, 19, 20, 21, 40]
def x22_2 : XC :=
  .cond (.t 40) (.reg [⟨some 41, .mv (.t 3), .none, false⟩,
 ⟨some 42, .mv (.t 5), .none, false⟩,
 ⟨some 43, .mv (.t 8), .none, false⟩,
 ⟨some 44, .build [.int .i64 0, .int .i64 0] [(0, 1, .t 42), (1, 1, .t 43)], .none, false⟩,
 ⟨some 45, .bsl 2 1 [.int .i64 0, .int .i64 0] [(0, 2, .t 44)], .none, false⟩,
 ⟨some 46, .app 2 16 (.t 41) (.t 45), .none, false⟩,
 ⟨some 3, .asg (.t 46), .none, false⟩] false [3, 4, 5, 6, 12, 13, 14, 19, 20, 21])
 (.skip) [3, 4, 5, 6, 12, 13, 14, 19, 20, 21]
def x22_3 : XC :=
  .seq (.reg [⟨some 22, .bin .lss (.t 21) (.t 20), .none, false⟩] false [3, 4, 5, 6, 12, 13, 14, 19, 20, 21, 22])
 (.seq (.cond (.t 22) (.skip)
 (.exit 2 [3, 4, 12, 13, 14]) [3, 4, 5, 6, 12, 13, 14, 19, 20, 21])
 (.seq (.block 3 (.seq (.reg [⟨some 23, .iadr 1 .none (.t 19) (.t 21), .none, false⟩,
 ⟨some 24, .load false 1 (.t 23), .none, false⟩,
 ⟨some 8, .asg (.t 24), .none, false⟩] false [3, 4, 5, 6, 8, 12, 13, 14, 19, 20, 21])
 (.seq x22_1
 x22_2)) [3, 4, 5, 6, 12, 13, 14, 19, 20, 21])
 (.reg [⟨some 47, .bin .add (.t 21) (.k (.int .i64 1)), .none, false⟩,
 ⟨some 21, .mv (.t 47), .none, false⟩] false [3, 4, 5, 6, 12, 13, 14, 19, 20, 21])))
def x22_4 : XC :=
  .seq (.reg [⟨some 15, .bin .lss (.t 14) (.t 13), .none, false⟩] false [3, 4, 12, 13, 14, 15])
 (.seq (.cond (.t 15) (.skip)
 (.exit 0 [3]) [3, 4, 12, 13, 14])
 (.seq (.block 1 (.seq (.reg [⟨some 16, .mv (.t 14), .none, false⟩,
 ⟨some 17, .iadr 1 .none (.t 12) (.t 14), .none, false⟩,
 ⟨some 18, .load false 1 (.t 17), .none, false⟩,
 ⟨some 5, .asg (.t 16), .none, false⟩,
 ⟨some 6, .asg (.t 18), .none, false⟩] false [3, 4, 5, 6, 12, 13, 14])
 (.seq (.reg [⟨some 19, .mv (.t 6), .none, false⟩,
 ⟨some 20, .len false (.t 19), .none, false⟩,
 ⟨some 21, .mv (.k (.int .i64 0)), .none, false⟩] false [3, 4, 5, 6, 12, 13, 14, 19, 20, 21])
 (.block 2 (.loop x22_3 [3, 4, 5, 6, 12, 13, 14, 19, 20, 21]) [3, 4, 12, 13, 14]))) [3, 4, 12, 13, 14])
 (.reg [⟨some 48, .bin .add (.t 14) (.k (.int .i64 1)), .none, false⟩,
 ⟨some 14, .mv (.t 48), .none, false⟩] false [3, 4, 12, 13, 14])))
def x22 : XF := ⟨1, 50, [.tmp 2],
  .seq (.reg [⟨some 1, .box (.t 0), .none, false⟩,
 ⟨some 2, .asg (.k (.nils)), .none, false⟩] false [1])
 (.seq (.reg [⟨some 3, .asg (.k (.nils)), .none, false⟩] false [1, 3])
 (.seq (.reg [⟨some 9, .load true 5 (.t 1), .none, false⟩,
 ⟨some 10, .call 20 [.t 9] [], .none, false⟩,
 ⟨some 4, .asg (.t 10), .none, false⟩] false [1, 3, 4])
 (.seq (.seq (.reg [⟨some 11, .load true 5 (.t 1), .none, false⟩,
 ⟨some 12, .call 13 [.t 11] [], .none, false⟩,
 ⟨some 13, .len false (.t 12), .none, false⟩,
 ⟨some 14, .mv (.k (.int .i64 0)), .none, false⟩] false [3, 4, 12, 13, 14])
 (.block 0 (.loop x22_4 [3, 4, 12, 13, 14]) [3]))
 (.seq (.reg [⟨some 49, .mv (.t 3), .none, false⟩,
 ⟨some 2, .asg (.t 49), .none, false⟩] false [2])
 (.ret))))), [], false, false, .none⟩
def x23_1 : XC :=
  .reg [⟨some 20, .mv (.t 7), .none, false⟩,
 ⟨some 21, .mv (.t 6), .none, false⟩,
 ⟨some 22, .len false (.t 21), .none, false⟩,
 ⟨some 23, .bin .lss (.t 20) (.t 22), .none, false⟩,
 ⟨some 24, .mv (.t 23), .none, false⟩,
 ⟨some 25, .mv (.t 3), some (24, true), false⟩,
 ⟨some 26, .mv (.t 5), some (24, true), false⟩,
 ⟨some 27, .iadr 1 .none (.t 25) (.t 26), some (24, true), false⟩,
 ⟨some 28, .load false 1 (.t 27), some (24, true), false⟩,
 ⟨some 29, .bin .geq (.t 28) (.k (.int .i64 0)), some (24, true), false⟩,
 ⟨some 30, .pick (.t 24) (.t 29) (.k (.bool false)), .none, false⟩] false [1, 3, 4, 5, 6, 7, 30]
def x23_2 : XC :=
  .cond (.t 44) (.reg [⟨some 45, .mv (.t 4), .none, false⟩,
 ⟨some 46, .mv (.t 5), .none, false⟩,
 ⟨some 47, .mv (.t 6), .none, false⟩,
 ⟨some 48, .mv (.t 7), .none, false⟩,
 ⟨some 49, .iadr 1 .none (.t 47) (.t 48), .none, false⟩,
 ⟨some 50, .load false 1 (.t 49), .none, false⟩,
 ⟨some 51, .build [.int .i64 0, .int .i64 0] [(0, 1, .t 46), (1, 1, .t 50)], .none, false⟩,
 ⟨some 52, .bsl 2 1 [.int .i64 0, .int .i64 0] [(0, 2, .t 51)], .none, false⟩,
 ⟨some 53, .app 2 16 (.t 45) (.t 52), .none, false⟩,
 ⟨some 4, .asg (.t 53), .none, false⟩] false [1, 3, 4, 5, 6, 7])
 (.skip) [1, 3, 4, 5, 6, 7]
def x23_3 : XC :=
  .seq (.seq x23_1
 (.cond (.t 30) (.skip)
 (.exit 2 [1, 3, 4, 5]) [1, 3, 4, 5, 6, 7]))
 (.seq (.block 3 (.seq (.reg [⟨some 33, .mv (.t 3), .none, false⟩,
 ⟨some 34, .mv (.t 6), .none, false⟩,
 ⟨some 35, .mv (.t 7), .none, false⟩,
 ⟨some 36, .iadr 1 .none (.t 34) (.t 35), .none, false⟩,
 ⟨some 37, .load false 1 (.t 36), .none, false⟩,
 ⟨some 38, .iadr 1 .none (.t 33) (.t 37), .none, false⟩,
 ⟨some 39, .load false 1 (.t 38), .none, false⟩,
 ⟨some 40, .mv (.t 3), .none, false⟩,
 ⟨some 41, .mv (.t 5), .none, false⟩,
 ⟨some 42, .iadr 1 .none (.t 40) (.t 41), .none, false⟩,
 ⟨some 43, .load false 1 (.t 42), .none, false⟩,
 ⟨some 44, .bin .leq (.t 39) (.t 43), .none, true⟩] true [1, 3, 4, 5, 6, 7, 44])
 x23_2) [1, 3, 4, 5, 6, 7])
 (.reg [⟨some 31, .mv (.t 7), .none, false⟩,
 ⟨some 32, .bin .add (.t 31) (.k (.int .i64 1)), .none, false⟩,
 ⟨some 7, .asg (.t 32), .none, false⟩] false [1, 3, 4, 5, 6, 7]))
def x23_4 : XC :=
  .seq (.seq (.reg [⟨some 10, .mv (.t 5), .none, false⟩,
 ⟨some 11, .fadr 3 (.t 1), .none, false⟩,
 ⟨some 12, .load false 1 (.t 11), .none, false⟩,
 ⟨some 13, .len false (.t 12), .none, false⟩,
 ⟨some 14, .bin .lss (.t 10) (.t 13), .none, false⟩] false [1, 3, 4, 5, 14])
 (.cond (.t 14) (.skip)
 (.exit 0 [4]) [1, 3, 4, 5]))
 (.seq (.block 1 (.seq (.reg [⟨some 17, .load true 5 (.t 1), .none, false⟩,
 ⟨some 18, .mv (.t 5), .none, false⟩,
 ⟨some 19, .call 26 [.t 17, .t 18] [], .none, false⟩,
 ⟨some 6, .asg (.t 19), .none, false⟩] false [1, 3, 4, 5, 6])
 (.seq (.reg [⟨some 7, .asg (.k (.int .i64 0)), .none, false⟩] false [1, 3, 4, 5, 6, 7])
 (.block 2 (.loop x23_3 [1, 3, 4, 5, 6, 7]) [1, 3, 4, 5]))) [1, 3, 4, 5])
 (.reg [⟨some 15, .mv (.t 5), .none, false⟩,
 ⟨some 16, .bin .add (.t 15) (.k (.int .i64 1)), .none, false⟩,
 ⟨some 5, .asg (.t 16), .none, false⟩] false [1, 3, 4, 5]))
def x23 : XF := ⟨1, 55, [.tmp 2],
  .seq (.reg [⟨some 1, .box (.t 0), .none, false⟩,
 ⟨some 2, .asg (.k (.nils)), .none, false⟩] false [1])
 (.seq (.reg [⟨some 8, .load true 5 (.t 1), .none, false⟩,
 ⟨some 9, .call 21 [.t 8] [], .none, false⟩,
 ⟨some 3, .asg (.t 9), .none, false⟩] false [1, 3])
 (.seq (.reg [⟨some 4, .asg (.k (.nils)), .none, false⟩] false [1, 3, 4])
 (.seq (.seq (.reg [⟨some 5, .asg (.k (.int .i64 0)), .none, false⟩] false [1, 3, 4, 5])
 (.block 0 (.loop x23_4 [1, 3, 4, 5]) [4]))
 (.seq (.reg [⟨some 54, .mv (.t 4), .none, false⟩,
 ⟨some 2, .asg (.t 54), .none, false⟩] false [2])
 (.ret))))), [], false, false, .none⟩
def x4_1 : XC :=
  .reg [⟨some 10, .load true 5 (.t 1), .none, false⟩,
 ⟨some 11, .call 13 [.t 10] [], .none, false⟩,
 ⟨some 12, .load true 5 (.t 1), .none, false⟩,
 ⟨some 13, .call 14 [.t 12] [], .none, false⟩,
 ⟨some 14, .call 12 [.t 11, .t 13] [], .none, false⟩,
 ⟨some 15, .un .not (.t 14), .none, false⟩,
 ⟨some 16, .mv (.t 15), .none, false⟩,
 ⟨some 17, .load true 5 (.t 1), some (16, false), false⟩,
 ⟨some 18, .call 15 [.t 17] [], some (16, false), false⟩,
 ⟨some 19, .load true 5 (.t 1), some (16, false), false⟩,
 ⟨some 20, .call 16 [.t 19] [], some (16, false), false⟩,
 ⟨some 21, .call 12 [.t 18, .t 20] [], some (16, false), false⟩,
 ⟨some 22, .un .not (.t 21), some (16, false), false⟩,
 ⟨some 23, .pick (.t 16) (.k (.bool true)) (.t 22), .none, false⟩,
 ⟨some 24, .mv (.t 23), .none, false⟩,
 ⟨some 25, .load true 5 (.t 1), some (24, false), false⟩,
 ⟨some 26, .call 18 [.t 25] [], some (24, false), false⟩,
 ⟨some 27, .load true 5 (.t 1), some (24, false), false⟩,
 ⟨some 28, .call 19 [.t 27] [], some (24, false), false⟩,
 ⟨some 29, .call 17 [.t 26, .t 28] [], some (24, false), false⟩,
 ⟨some 30, .un .not (.t 29), some (24, false), false⟩,
 ⟨some 31, .pick (.t 24) (.k (.bool true)) (.t 30), .none, false⟩,
 ⟨some 32, .mv (.t 31), .none, false⟩,
 ⟨some 33, .load true 5 (.t 1), some (32, false), false⟩,
 ⟨some 34, .call 20 [.t 33] [], some (32, false), false⟩,
 ⟨some 35, .load true 5 (.t 1), some (32, false), false⟩,
 ⟨some 36, .call 21 [.t 35] [], some (32, false), true⟩,
 ⟨some 37, .call 17 [.t 34, .t 36] [], some (32, false), true⟩,
 ⟨some 38, .un .not (.t 37), some (32, false), true⟩,
 ⟨some 39, .pick (.t 32) (.k (.bool true)) (.t 38), .none, true⟩] true [1, 39]
def x4_2 : XC :=
  .seq (.seq (.reg [⟨some 49, .mv (.t 5), .none, false⟩,
 ⟨some 50, .mv (.t 3), .none, false⟩,
 ⟨some 51, .len false (.t 50), .none, false⟩,
 ⟨some 52, .bin .lss (.t 49) (.t 51), .none, false⟩] false [3, 4, 5, 52])
 (.cond (.t 52) (.skip)
 (.exit 0 []) [3, 4, 5]))
 (.seq (.block 1 (.seq (.reg [⟨some 55, .mv (.t 3), .none, false⟩,
 ⟨some 56, .mv (.t 5), .none, false⟩,
 ⟨some 57, .iadr 2 .none (.t 55) (.t 56), .none, false⟩,
 ⟨some 58, .load true 2 (.t 57), .none, false⟩,
 ⟨some 59, .mv (.t 4), .none, false⟩,
 ⟨some 60, .mv (.t 5), .none, false⟩,
 ⟨some 61, .iadr 2 .none (.t 59) (.t 60), .none, false⟩,
 ⟨some 62, .load true 2 (.t 61), .none, false⟩,
 ⟨some 63, .aeq true [.int .i64 0, .int .i64 0] (.t 58) (.t 62), .none, true⟩] true [3, 4, 5, 63])
 (.cond (.t 63) (.seq (.reg [⟨some 2, .asg (.k (.bool false)), .none, false⟩] false [2])
 (.ret))
 (.skip) [3, 4, 5])) [3, 4, 5])
 (.reg [⟨some 53, .mv (.t 5), .none, false⟩,
 ⟨some 54, .bin .add (.t 53) (.k (.int .i64 1)), .none, false⟩,
 ⟨some 5, .asg (.t 54), .none, false⟩] false [3, 4, 5]))
def x4 : XF := ⟨1, 65, [.tmp 2],
  .seq (.reg [⟨some 1, .box (.t 0), .none, false⟩,
 ⟨some 2, .asg (.k (.bool false)), .none, false⟩] false [1])
 (.seq (.seq (.reg [⟨some 6, .load true 5 (.t 1), .none, false⟩,
 ⟨some 7, .call 11 [.t 6] [], .none, false⟩,
 ⟨some 8, .bin .gtr (.t 7) (.k (.int .i64 0)), .none, false⟩] false [1, 8])
 (.cond (.t 8) (.seq (.reg [⟨some 9, .call 8 [] [], .none, false⟩,
 ⟨some 2, .asg (.t 9), .none, false⟩] false [2])
 (.ret))
 (.skip) [1]))
 (.seq (.seq x4_1
 (.cond (.t 39) (.seq (.reg [⟨some 2, .asg (.k (.bool false)), .none, false⟩] false [2])
 (.ret))
 (.skip) [1]))
 (.seq (.reg [⟨some 40, .load true 5 (.t 1), .none, false⟩,
 ⟨some 41, .call 22 [.t 40] [], .none, false⟩,
 ⟨some 42, .load true 5 (.t 1), .none, false⟩,
 ⟨some 43, .call 23 [.t 42] [], .none, true⟩,
 ⟨some 3, .asg (.t 41), .none, true⟩,
 ⟨some 4, .asg (.t 43), .none, true⟩] true [3, 4])
 (.seq (.seq (.reg [⟨some 44, .mv (.t 3), .none, false⟩,
 ⟨some 45, .len false (.t 44), .none, false⟩,
 ⟨some 46, .mv (.t 4), .none, false⟩,
 ⟨some 47, .len false (.t 46), .none, false⟩,
 ⟨some 48, .bin .neq (.t 45) (.t 47), .none, false⟩] false [3, 4, 48])
 (.cond (.t 48) (.seq (.reg [⟨some 2, .asg (.k (.bool false)), .none, false⟩] false [2])
 (.ret))
 (.skip) [3, 4]))
 (.seq (.seq (.reg [⟨some 5, .asg (.k (.int .i64 0)), .none, false⟩] false [3, 4, 5])
 (.block 0 (.loop x4_2 [3, 4, 5]) []))
 (.seq (.reg [⟨some 64, .call 8 [] [], .none, false⟩,
 ⟨some 2, .asg (.t 64), .none, false⟩] false [2])
 (.ret))))))), [], false, false, .none⟩
def x24_1 : XC :=
  .reg [⟨some 25, .mv (.t 10), .none, false⟩,
 ⟨some 26, .mv (.t 2), .none, false⟩,
 ⟨some 27, .bin .neq (.t 25) (.t 26), .none, false⟩,
 ⟨some 28, .mv (.t 27), .none, false⟩,
 ⟨some 29, .mv (.t 7), some (28, true), false⟩,
 ⟨some 30, .mv (.t 10), some (28, true), false⟩,
 ⟨some 31, .iadr 1 .none (.t 29) (.t 30), some (28, true), false⟩,
 ⟨some 32, .load false 1 (.t 31), some (28, true), false⟩,
 ⟨some 33, .un .not (.t 32), some (28, true), false⟩,
 ⟨some 34, .pick (.t 28) (.t 33) (.k (.bool false)), .none, false⟩] false [0, 1, 2, 7, 8, 10, 19, 20, 21, 34]
def x24_2 : XC :=
  .cond (.t 34) (.seq (.reg [⟨some 35, .mv (.t 7), .none, false⟩,
 ⟨some 36, .mv (.t 10), .none, false⟩,
 ⟨some 37, .iadr 1 .none (.t 35) (.t 36), .none, false⟩,
 ⟨.none, .store 1 (.t 37) (.k (.bool true)), .none, false⟩] false [0, 1, 2, 7, 8, 10, 19, 20, 21])
 (.reg [⟨some 38, .mv (.t 8), .none, false⟩,
 ⟨some 39, .mv (.t 10), .none, false⟩,
 ⟨some 40, .bsl 1 1 [.int .i64 0] [(0, 1, .t 39)], .none, false⟩,
 ⟨some 41, .app 1 8 (.t 38) (.t 40), .none, false⟩,
 ⟨some 8, .asg (.t 41), .none, false⟩] false [0, 1, 2, 7, 8, 19, 20, 21]))
 (.skip) [0, 1, 2, 7, 8, 19, 20, 21]
def x24_3 : XC :=
  .seq (.reg [⟨some 22, .bin .lss (.t 21) (.t 20), .none, false⟩] false [0, 1, 2, 7, 8, 19, 20, 21, 22])
 (.seq (.cond (.t 22) (.skip)
 (.exit 0 [0, 2, 7, 8]) [0, 1, 2, 7, 8, 19, 20, 21])
 (.seq (.block 1 (.seq (.reg [⟨some 23, .iadr 1 .none (.t 19) (.t 21), .none, false⟩,
 ⟨some 24, .load false 1 (.t 23), .none, false⟩,
 ⟨some 10, .asg (.t 24), .none, false⟩] false [0, 1, 2, 7, 8, 10, 19, 20, 21])
 (.seq x24_1
 x24_2)) [0, 1, 2, 7, 8, 19, 20, 21])
 (.reg [⟨some 42, .bin .add (.t 21) (.k (.int .i64 1)), .none, false⟩,
 ⟨some 21, .mv (.t 42), .none, false⟩] false [0, 1, 2, 7, 8, 19, 20, 21])))
def x24_4 : XC :=
  .reg [⟨some 65, .mv (.t 15), .none, false⟩,
 ⟨some 66, .mv (.t 2), .none, false⟩,
 ⟨some 67, .bin .neq (.t 65) (.t 66), .none, false⟩,
 ⟨some 68, .mv (.t 67), .none, false⟩,
 ⟨some 69, .mv (.t 7), some (68, true), false⟩,
 ⟨some 70, .mv (.t 15), some (68, true), false⟩,
 ⟨some 71, .iadr 1 .none (.t 69) (.t 70), some (68, true), false⟩,
 ⟨some 72, .load false 1 (.t 71), some (68, true), false⟩,
 ⟨some 73, .un .not (.t 72), some (68, true), false⟩,
 ⟨some 74, .pick (.t 68) (.t 73) (.k (.bool false)), .none, false⟩] false [0, 2, 7, 8, 11, 15, 44, 45, 50, 51, 52, 59, 60, 61, 74]
def x24_5 : XC :=
  .cond (.t 74) (.seq (.reg [⟨some 75, .mv (.t 7), .none, false⟩,
 ⟨some 76, .mv (.t 15), .none, false⟩,
 ⟨some 77, .iadr 1 .none (.t 75) (.t 76), .none, false⟩,
 ⟨.none, .store 1 (.t 77) (.k (.bool true)), .none, false⟩] false [0, 2, 7, 8, 11, 15, 44, 45, 50, 51, 52, 59, 60, 61])
 (.reg [⟨some 78, .mv (.t 11), .none, false⟩,
 ⟨some 79, .mv (.t 15), .none, false⟩,
 ⟨some 80, .bsl 1 1 [.int .i64 0] [(0, 1, .t 79)], .none, false⟩,
 ⟨some 81, .app 1 8 (.t 78) (.t 80), .none, false⟩,
 ⟨some 11, .asg (.t 81), .none, false⟩] false [0, 2, 7, 8, 11, 44, 45, 50, 51, 52, 59, 60, 61]))
 (.skip) [0, 2, 7, 8, 11, 44, 45, 50, 51, 52, 59, 60, 61]
def x24_6 : XC :=
  .seq (.reg [⟨some 62, .bin .lss (.t 61) (.t 60), .none, false⟩] false [0, 2, 7, 8, 11, 44, 45, 50, 51, 52, 59, 60, 61, 62])
 (.seq (.cond (.t 62) (.skip)
 (.exit 6 [0, 2, 7, 8, 11, 44, 45, 50, 51, 52]) [0, 2, 7, 8, 11, 44, 45, 50, 51, 52, 59, 60, 61])
 (.seq (.block 7 (.seq (.reg [⟨some 63, .iadr 1 .none (.t 59) (.t 61), .none, false⟩,
 ⟨some 64, .load false 1 (.t 63), .none, false⟩,
 ⟨some 15, .asg (.t 64), .none, false⟩] false [0, 2, 7, 8, 11, 15, 44, 45, 50, 51, 52, 59, 60, 61])
 (.seq x24_4
 x24_5)) [0, 2, 7, 8, 11, 44, 45, 50, 51, 52, 59, 60, 61])
 (.reg [⟨some 82, .bin .add (.t 61) (.k (.int .i64 1)), .none, false⟩,
 ⟨some 61, .mv (.t 82), .none, false⟩] false [0, 2, 7, 8, 11, 44, 45, 50, 51, 52, 59, 60, 61])))
def x24_7 : XC :=
  .seq (.reg [⟨some 53, .bin .lss (.t 52) (.t 51), .none, false⟩] false [0, 2, 7, 8, 11, 44, 45, 50, 51, 52, 53])
 (.seq (.cond (.t 53) (.skip)
 (.exit 4 [0, 2, 7, 11, 44, 45]) [0, 2, 7, 8, 11, 44, 45, 50, 51, 52])
 (.seq (.block 5 (.seq (.reg [⟨some 54, .iadr 1 .none (.t 50) (.t 52), .none, false⟩,
 ⟨some 55, .load false 1 (.t 54), .none, false⟩,
 ⟨some 13, .asg (.t 55), .none, false⟩] false [0, 2, 7, 8, 11, 13, 44, 45, 50, 51, 52])
 (.seq (.reg [⟨some 56, .mv (.t 0), .none, false⟩,
 ⟨some 57, .mv (.t 13), .none, false⟩,
 ⟨some 58, .iadr 1 .none (.t 56) (.t 57), .none, false⟩,
 ⟨some 59, .load false 1 (.t 58), .none, false⟩,
 ⟨some 60, .len false (.t 59), .none, false⟩,
 ⟨some 61, .mv (.k (.int .i64 0)), .none, false⟩] false [0, 2, 7, 8, 11, 44, 45, 50, 51, 52, 59, 60, 61])
 (.block 6 (.loop x24_6 [0, 2, 7, 8, 11, 44, 45, 50, 51, 52, 59, 60, 61]) [0, 2, 7, 8, 11, 44, 45, 50, 51, 52]))) [0, 2, 7, 8, 11, 44, 45, 50, 51, 52])
 (.reg [⟨some 83, .bin .add (.t 52) (.k (.int .i64 1)), .none, false⟩,
 ⟨some 52, .mv (.t 83), .none, false⟩] false [0, 2, 7, 8, 11, 44, 45, 50, 51, 52])))
def x24_8 : XC :=
  .seq (.reg [⟨some 46, .bin .lss (.t 45) (.t 44), .none, false⟩] false [0, 2, 7, 8, 44, 45, 46])
 (.seq (.cond (.t 46) (.skip)
 (.exit 2 [7]) [0, 2, 7, 8, 44, 45])
 (.seq (.block 3 (.seq (.seq (.reg [⟨some 47, .mv (.t 8), .none, false⟩,
 ⟨some 48, .len false (.t 47), .none, false⟩,
 ⟨some 49, .bin .eql (.t 48) (.k (.int .i64 0)), .none, false⟩] false [0, 2, 7, 8, 44, 45, 49])
 (.cond (.t 49) (.exit 2 [7])
 (.skip) [0, 2, 7, 8, 44, 45]))
 (.seq (.reg [⟨some 11, .asg (.k (.nils)), .none, false⟩] false [0, 2, 7, 8, 11, 44, 45])
 (.seq (.seq (.reg [⟨some 50, .mv (.t 8), .none, false⟩,
 ⟨some 51, .len false (.t 50), .none, false⟩,
 ⟨some 52, .mv (.k (.int .i64 0)), .none, false⟩] false [0, 2, 7, 8, 11, 44, 45, 50, 51, 52])
 (.block 4 (.loop x24_7 [0, 2, 7, 8, 11, 44, 45, 50, 51, 52]) [0, 2, 7, 11, 44, 45]))
 (.reg [⟨some 84, .mv (.t 11), .none, false⟩,
 ⟨some 8, .asg (.t 84), .none, false⟩] false [0, 2, 7, 8, 44, 45])))) [0, 2, 7, 8, 44, 45])
 (.reg [⟨some 85, .bin .add (.t 45) (.k (.int .i64 1)), .none, false⟩,
 ⟨some 45, .mv (.t 85), .none, false⟩] false [0, 2, 7, 8, 44, 45])))
def x24 : XF := ⟨3, 87, [.tmp 6],
  .seq (.reg [⟨some 6, .asg (.k (.nils)), .none, false⟩] false [0, 1, 2])
 (.seq (.reg [⟨some 16, .mv (.t 0), .none, false⟩,
 ⟨some 17, .len false (.t 16), .none, false⟩,
 ⟨some 18, .mksl 1 1 [.bool false] (.t 17) (.t 17), .none, false⟩,
 ⟨some 7, .asg (.t 18), .none, false⟩] false [0, 1, 2, 7])
 (.seq (.reg [⟨some 8, .asg (.k (.nils)), .none, false⟩] false [0, 1, 2, 7, 8])
 (.seq (.seq (.reg [⟨some 19, .mv (.t 1), .none, false⟩,
 ⟨some 20, .len false (.t 19), .none, false⟩,
 ⟨some 21, .mv (.k (.int .i64 0)), .none, false⟩] false [0, 1, 2, 7, 8, 19, 20, 21])
 (.block 0 (.loop x24_3 [0, 1, 2, 7, 8, 19, 20, 21]) [0, 2, 7, 8]))
 (.seq (.seq (.reg [⟨some 43, .mv (.t 0), .none, false⟩,
 ⟨some 44, .len false (.t 43), .none, false⟩,
 ⟨some 45, .mv (.k (.int .i64 0)), .none, false⟩] false [0, 2, 7, 8, 44, 45])
 (.block 2 (.loop x24_8 [0, 2, 7, 8, 44, 45]) [7]))
 (.seq (.reg [⟨some 86, .mv (.t 7), .none, false⟩,
 ⟨some 6, .asg (.t 86), .none, false⟩] false [6])
 (.ret)))))), [], false, false, .none⟩
def x25_1 : XC :=
  .reg [⟨some 20, .mv (.t 1), .none, false⟩,
 ⟨some 21, .mv (.t 10), .none, false⟩,
 ⟨some 22, .iadr 1 .none (.t 20) (.t 21), .none, false⟩,
 ⟨some 23, .load false 1 (.t 22), .none, false⟩,
 ⟨some 24, .mv (.t 3), .none, false⟩,
 ⟨some 25, .bin .neq (.t 23) (.t 24), .none, false⟩,
 ⟨some 26, .mv (.t 25), .none, false⟩,
 ⟨some 27, .mv (.t 9), some (26, true), false⟩,
 ⟨some 28, .mv (.t 1), some (26, true), false⟩,
 ⟨some 29, .mv (.t 10), some (26, true), false⟩,
 ⟨some 30, .iadr 1 .none (.t 28) (.t 29), some (26, true), false⟩,
 ⟨some 31, .load false 1 (.t 30), some (26, true), false⟩,
 ⟨some 32, .call 33 [.t 27, .t 31] [], some (26, true), false⟩,
 ⟨some 33, .un .not (.t 32), some (26, true), false⟩,
 ⟨some 34, .pick (.t 26) (.t 33) (.k (.bool false)), .none, false⟩] false [0, 1, 2, 3, 9, 10, 34]
def x25_2 : XC :=
  .cond (.t 34) (.reg [⟨some 35, .mv (.t 9), .none, false⟩,
 ⟨some 36, .mv (.t 1), .none, false⟩,
 ⟨some 37, .mv (.t 10), .none, false⟩,
 ⟨some 38, .iadr 1 .none (.t 36) (.t 37), .none, false⟩,
 ⟨some 39, .load false 1 (.t 38), .none, false⟩,
 ⟨some 40, .bsl 1 1 [.int .i64 0] [(0, 1, .t 39)], .none, false⟩,
 ⟨some 41, .app 1 8 (.t 35) (.t 40), .none, false⟩,
 ⟨some 9, .asg (.t 41), .none, false⟩] false [0, 1, 2, 3, 9, 10])
 (.skip) [0, 1, 2, 3, 9, 10]
def x25_3 : XC :=
  .seq (.seq (.reg [⟨some 14, .mv (.t 10), .none, false⟩,
 ⟨some 15, .mv (.t 1), .none, false⟩,
 ⟨some 16, .len false (.t 15), .none, false⟩,
 ⟨some 17, .bin .lss (.t 14) (.t 16), .none, false⟩] false [0, 1, 2, 3, 9, 10, 17])
 (.cond (.t 17) (.skip)
 (.exit 0 [0, 2, 3, 9]) [0, 1, 2, 3, 9, 10]))
 (.seq (.block 1 (.seq x25_1
 x25_2) [0, 1, 2, 3, 9, 10])
 (.reg [⟨some 18, .mv (.t 10), .none, false⟩,
 ⟨some 19, .bin .add (.t 18) (.k (.int .i64 1)), .none, false⟩,
 ⟨some 10, .asg (.t 19), .none, false⟩] false [0, 1, 2, 3, 9, 10]))
def x25_4 : XC :=
  .reg [⟨some 61, .mv (.t 12), .none, false⟩,
 ⟨some 62, .mv (.t 13), .none, false⟩,
 ⟨some 63, .iadr 1 .none (.t 61) (.t 62), .none, false⟩,
 ⟨some 64, .load false 1 (.t 63), .none, false⟩,
 ⟨some 65, .mv (.t 3), .none, false⟩,
 ⟨some 66, .bin .neq (.t 64) (.t 65), .none, false⟩,
 ⟨some 67, .mv (.t 66), .none, false⟩,
 ⟨some 68, .mv (.t 9), some (67, true), false⟩,
 ⟨some 69, .mv (.t 12), some (67, true), false⟩,
 ⟨some 70, .mv (.t 13), some (67, true), false⟩,
 ⟨some 71, .iadr 1 .none (.t 69) (.t 70), some (67, true), false⟩,
 ⟨some 72, .load false 1 (.t 71), some (67, true), false⟩,
 ⟨some 73, .call 33 [.t 68, .t 72] [], some (67, true), false⟩,
 ⟨some 74, .un .not (.t 73), some (67, true), false⟩,
 ⟨some 75, .pick (.t 67) (.t 74) (.k (.bool false)), .none, false⟩] false [0, 2, 3, 9, 11, 12, 13, 75]
def x25_5 : XC :=
  .cond (.t 75) (.reg [⟨some 76, .mv (.t 9), .none, false⟩,
 ⟨some 77, .mv (.t 12), .none, false⟩,
 ⟨some 78, .mv (.t 13), .none, false⟩,
 ⟨some 79, .iadr 1 .none (.t 77) (.t 78), .none, false⟩,
 ⟨some 80, .load false 1 (.t 79), .none, false⟩,
 ⟨some 81, .bsl 1 1 [.int .i64 0] [(0, 1, .t 80)], .none, false⟩,
 ⟨some 82, .app 1 8 (.t 76) (.t 81), .none, false⟩,
 ⟨some 9, .asg (.t 82), .none, false⟩] false [0, 2, 3, 9, 11, 12, 13])
 (.skip) [0, 2, 3, 9, 11, 12, 13]
def x25_6 : XC :=
  .seq (.seq (.reg [⟨some 55, .mv (.t 13), .none, false⟩,
 ⟨some 56, .mv (.t 12), .none, false⟩,
 ⟨some 57, .len false (.t 56), .none, false⟩,
 ⟨some 58, .bin .lss (.t 55) (.t 57), .none, false⟩] false [0, 2, 3, 9, 11, 12, 13, 58])
 (.cond (.t 58) (.skip)
 (.exit 4 [0, 2, 3, 9, 11]) [0, 2, 3, 9, 11, 12, 13]))
 (.seq (.block 5 (.seq x25_4
 x25_5) [0, 2, 3, 9, 11, 12, 13])
 (.reg [⟨some 59, .mv (.t 13), .none, false⟩,
 ⟨some 60, .bin .add (.t 59) (.k (.int .i64 1)), .none, false⟩,
 ⟨some 13, .asg (.t 60), .none, false⟩] false [0, 2, 3, 9, 11, 12, 13]))
def x25_7 : XC :=
  .seq (.seq (.reg [⟨some 42, .mv (.t 11), .none, false⟩,
 ⟨some 43, .mv (.t 9), .none, false⟩,
 ⟨some 44, .len false (.t 43), .none, false⟩,
 ⟨some 45, .bin .lss (.t 42) (.t 44), .none, false⟩] false [0, 2, 3, 9, 11, 45])
 (.cond (.t 45) (.skip)
 (.exit 2 [2, 9]) [0, 2, 3, 9, 11]))
 (.seq (.block 3 (.seq (.reg [⟨some 48, .mv (.t 0), .none, false⟩,
 ⟨some 49, .mv (.t 9), .none, false⟩,
 ⟨some 50, .mv (.t 11), .none, false⟩,
 ⟨some 51, .iadr 1 .none (.t 49) (.t 50), .none, false⟩,
 ⟨some 52, .load false 1 (.t 51), .none, false⟩,
 ⟨some 53, .iadr 1 .none (.t 48) (.t 52), .none, false⟩,
 ⟨some 54, .load false 1 (.t 53), .none, false⟩,
 ⟨some 12, .asg (.t 54), .none, false⟩] false [0, 2, 3, 9, 11, 12])
 (.seq (.reg [⟨some 13, .asg (.k (.int .i64 0)), .none, false⟩] false [0, 2, 3, 9, 11, 12, 13])
 (.block 4 (.loop x25_6 [0, 2, 3, 9, 11, 12, 13]) [0, 2, 3, 9, 11]))) [0, 2, 3, 9, 11])
 (.reg [⟨some 46, .mv (.t 11), .none, false⟩,
 ⟨some 47, .bin .add (.t 46) (.k (.int .i64 1)), .none, false⟩,
 ⟨some 11, .asg (.t 47), .none, false⟩] false [0, 2, 3, 9, 11]))
def x25 : XF := ⟨4, 86, [.tmp 8],
  .seq (.reg [⟨some 8, .asg (.k (.bool false)), .none, false⟩] false [0, 1, 2, 3])
 (.seq (.reg [⟨some 9, .asg (.k (.nils)), .none, false⟩] false [0, 1, 2, 3, 9])
 (.seq (.seq (.reg [⟨some 10, .asg (.k (.int .i64 0)), .none, false⟩] false [0, 1, 2, 3, 9, 10])
 (.block 0 (.loop x25_3 [0, 1, 2, 3, 9, 10]) [0, 2, 3, 9]))
 (.seq (.seq (.reg [⟨some 11, .asg (.k (.int .i64 0)), .none, false⟩] false [0, 2, 3, 9, 11])
 (.block 2 (.loop x25_7 [0, 2, 3, 9, 11]) [2, 9]))
 (.seq (.reg [⟨some 83, .mv (.t 9), .none, false⟩,
 ⟨some 84, .mv (.t 2), .none, false⟩,
 ⟨some 85, .call 33 [.t 83, .t 84] [], .none, false⟩,
 ⟨some 8, .asg (.t 85), .none, false⟩] false [8])
 (.ret))))), [], false, false, .none⟩
def x5_1 : XC :=
  .reg [⟨some 11, .load true 5 (.t 3), .none, false⟩,
 ⟨some 12, .call 11 [.t 11] [], .none, false⟩,
 ⟨some 13, .bin .gtr (.t 12) (.k (.int .i64 0)), .none, false⟩,
 ⟨some 14, .mv (.t 13), .none, false⟩,
 ⟨some 15, .mv (.t 1), some (14, false), false⟩,
 ⟨some 16, .len false (.t 15), some (14, false), false⟩,
 ⟨some 17, .bin .gtr (.t 16) (.k (.int .i64 20)), some (14, false), false⟩,
 ⟨some 18, .pick (.t 14) (.k (.bool true)) (.t 17), .none, false⟩] false [1, 2, 3, 18]
def x5_2 : XC :=
  .seq (.seq (.reg [⟨some 20, .mv (.t 8), .none, false⟩,
 ⟨some 21, .mv (.t 1), .none, false⟩,
 ⟨some 22, .len false (.t 21), .none, false⟩,
 ⟨some 23, .bin .lss (.t 20) (.t 22), .none, false⟩] false [1, 2, 3, 7, 8, 23])
 (.cond (.t 23) (.skip)
 (.exit 0 [2, 3, 7]) [1, 2, 3, 7, 8]))
 (.seq (.block 1 (.reg [⟨some 26, .mv (.t 7), .none, false⟩,
 ⟨some 27, .mv (.t 1), .none, false⟩,
 ⟨some 28, .mv (.t 8), .none, false⟩,
 ⟨some 29, .iadr 1 .none (.t 27) (.t 28), .none, false⟩,
 ⟨some 30, .load false 1 (.t 29), .none, false⟩,
 ⟨some 31, .conv .i64 (.t 30), .none, false⟩,
 ⟨some 32, .fadr 3 (.t 3), .none, false⟩,
 ⟨some 33, .load false 1 (.t 32), .none, false⟩,
 ⟨some 34, .len false (.t 33), .none, false⟩,
 ⟨some 35, .bin .rem (.t 31) (.t 34), .none, false⟩,
 ⟨some 36, .bsl 1 1 [.int .i64 0] [(0, 1, .t 35)], .none, false⟩,
 ⟨some 37, .app 1 8 (.t 26) (.t 36), .none, true⟩,
 ⟨some 7, .asg (.t 37), .none, true⟩] true [1, 2, 3, 7, 8]) [1, 2, 3, 7, 8])
 (.reg [⟨some 24, .mv (.t 8), .none, false⟩,
 ⟨some 25, .bin .add (.t 24) (.k (.int .i64 1)), .none, false⟩,
 ⟨some 8, .asg (.t 25), .none, false⟩] false [1, 2, 3, 7, 8]))
def x5_3 : XC :=
  .reg [⟨some 55, .mv (.t 9), .none, false⟩,
 ⟨some 56, .mv (.t 10), .none, false⟩,
 ⟨some 57, .iadr 1 .none (.t 55) (.t 56), .none, false⟩,
 ⟨some 58, .load false 1 (.t 57), .none, false⟩,
 ⟨some 59, .load true 5 (.t 3), .none, false⟩,
 ⟨some 60, .call 14 [.t 59] [], .none, false⟩,
 ⟨some 61, .mv (.t 7), .none, false⟩,
 ⟨some 62, .mv (.t 10), .none, false⟩,
 ⟨some 63, .mv (.t 2), .none, false⟩,
 ⟨some 64, .call 25 [.t 60, .t 61, .t 62, .t 63] [], .none, false⟩,
 ⟨some 65, .beq true (.t 58) (.t 64), .none, true⟩] true [2, 3, 7, 9, 10, 65]
def x5_4 : XC :=
  .seq (.seq (.reg [⟨some 49, .mv (.t 10), .none, false⟩,
 ⟨some 50, .mv (.t 9), .none, false⟩,
 ⟨some 51, .len false (.t 50), .none, false⟩,
 ⟨some 52, .bin .lss (.t 49) (.t 51), .none, false⟩] false [2, 3, 7, 9, 10, 52])
 (.cond (.t 52) (.skip)
 (.exit 2 []) [2, 3, 7, 9, 10]))
 (.seq (.block 3 (.seq x5_3
 (.cond (.t 65) (.seq (.reg [⟨some 6, .asg (.k (.bool false)), .none, false⟩] false [6])
 (.ret))
 (.skip) [2, 3, 7, 9, 10])) [2, 3, 7, 9, 10])
 (.reg [⟨some 53, .mv (.t 10), .none, false⟩,
 ⟨some 54, .bin .add (.t 53) (.k (.int .i64 1)), .none, false⟩,
 ⟨some 10, .asg (.t 54), .none, false⟩] false [2, 3, 7, 9, 10]))
def x5 : XF := ⟨3, 67, [.tmp 6],
  .seq (.reg [⟨some 3, .box (.t 0), .none, false⟩,
 ⟨some 6, .asg (.k (.bool false)), .none, false⟩] false [1, 2, 3])
 (.seq (.seq x5_1
 (.cond (.t 18) (.seq (.reg [⟨some 19, .call 8 [] [], .none, false⟩,
 ⟨some 6, .asg (.t 19), .none, false⟩] false [6])
 (.ret))
 (.skip) [1, 2, 3]))
 (.seq (.reg [⟨some 7, .asg (.k (.nils)), .none, false⟩] false [1, 2, 3, 7])
 (.seq (.seq (.reg [⟨some 8, .asg (.k (.int .i64 0)), .none, false⟩] false [1, 2, 3, 7, 8])
 (.block 0 (.loop x5_2 [1, 2, 3, 7, 8]) [2, 3, 7]))
 (.seq (.reg [⟨some 38, .load true 5 (.t 3), .none, false⟩,
 ⟨some 39, .call 13 [.t 38] [], .none, false⟩,
 ⟨some 40, .mv (.t 7), .none, false⟩,
 ⟨some 41, .mv (.t 2), .none, false⟩,
 ⟨some 42, .call 24 [.t 39, .t 40, .t 41] [], .none, false⟩,
 ⟨some 9, .asg (.t 42), .none, false⟩] false [2, 3, 7, 9])
 (.seq (.seq (.reg [⟨some 43, .mv (.t 9), .none, false⟩,
 ⟨some 44, .len false (.t 43), .none, false⟩,
 ⟨some 45, .fadr 3 (.t 3), .none, false⟩,
 ⟨some 46, .load false 1 (.t 45), .none, false⟩,
 ⟨some 47, .len false (.t 46), .none, false⟩,
 ⟨some 48, .bin .neq (.t 44) (.t 47), .none, false⟩] false [2, 3, 7, 9, 48])
 (.cond (.t 48) (.seq (.reg [⟨some 6, .asg (.k (.bool false)), .none, false⟩] false [6])
 (.ret))
 (.skip) [2, 3, 7, 9]))
 (.seq (.seq (.reg [⟨some 10, .asg (.k (.int .i64 0)), .none, false⟩] false [2, 3, 7, 9, 10])
 (.block 2 (.loop x5_4 [2, 3, 7, 9, 10]) []))
 (.seq (.reg [⟨some 66, .call 8 [] [], .none, false⟩,
 ⟨some 6, .asg (.t 66), .none, false⟩] false [6])
 (.ret)))))))), [], false, false, .none⟩
def x6_1 : XC :=
  .reg [⟨some 46, .mv (.t 8), .none, false⟩,
 ⟨some 47, .mv (.t 46), .none, false⟩,
 ⟨some 48, .mv (.t 4), some (47, false), false⟩,
 ⟨some 49, .mv (.t 9), some (47, false), false⟩,
 ⟨some 50, .iadr 2 .none (.t 48) (.t 49), some (47, false), false⟩,
 ⟨some 51, .load true 2 (.t 50), some (47, false), false⟩,
 ⟨some 52, .mv (.t 5), some (47, false), false⟩,
 ⟨some 53, .mv (.t 6), some (47, false), false⟩,
 ⟨some 54, .mv (.t 7), some (47, false), false⟩,
 ⟨some 55, .iadr 1 .none (.t 53) (.t 54), some (47, false), false⟩,
 ⟨some 56, .load false 1 (.t 55), some (47, false), false⟩,
 ⟨some 57, .build [.int .i64 0, .int .i64 0] [(0, 1, .t 52), (1, 1, .t 56)], some (47, false), false⟩,
 ⟨some 58, .aeq false [.int .i64 0, .int .i64 0] (.t 51) (.t 57), some (47, false), true⟩,
 ⟨some 59, .pick (.t 47) (.k (.bool true)) (.t 58), .none, true⟩,
 ⟨some 8, .asg (.t 59), .none, true⟩] true [1, 3, 4, 5, 6, 7, 8, 9]
def x6_2 : XC :=
  .seq (.seq (.reg [⟨some 40, .mv (.t 9), .none, false⟩,
 ⟨some 41, .mv (.t 4), .none, false⟩,
 ⟨some 42, .len false (.t 41), .none, false⟩,
 ⟨some 43, .bin .lss (.t 40) (.t 42), .none, false⟩] false [1, 3, 4, 5, 6, 7, 8, 9, 43])
 (.cond (.t 43) (.skip)
 (.exit 4 [1, 3, 4, 5, 6, 7, 8]) [1, 3, 4, 5, 6, 7, 8, 9]))
 (.seq (.block 5 x6_1 [1, 3, 4, 5, 6, 7, 8, 9])
 (.reg [⟨some 44, .mv (.t 9), .none, false⟩,
 ⟨some 45, .bin .add (.t 44) (.k (.int .i64 1)), .none, false⟩,
 ⟨some 9, .asg (.t 45), .none, false⟩] false [1, 3, 4, 5, 6, 7, 8, 9]))
def x6_3 : XC :=
  .reg [⟨some 60, .mv (.t 3), .none, false⟩,
 ⟨some 61, .mv (.t 5), .none, false⟩,
 ⟨some 62, .iadr 1 .none (.t 60) (.t 61), .none, false⟩,
 ⟨some 63, .load false 1 (.t 62), .none, false⟩,
 ⟨some 64, .bin .geq (.t 63) (.k (.int .i64 0)), .none, false⟩,
 ⟨some 65, .mv (.t 64), .none, false⟩,
 ⟨some 66, .mv (.t 8), some (65, true), false⟩,
 ⟨some 67, .un .not (.t 66), some (65, true), false⟩,
 ⟨some 68, .pick (.t 65) (.t 67) (.k (.bool false)), .none, false⟩,
 ⟨some 69, .mv (.t 68), .none, false⟩,
 ⟨some 70, .mv (.t 3), some (69, true), false⟩,
 ⟨some 71, .mv (.t 6), some (69, true), false⟩,
 ⟨some 72, .mv (.t 7), some (69, true), false⟩,
 ⟨some 73, .iadr 1 .none (.t 71) (.t 72), some (69, true), false⟩,
 ⟨some 74, .load false 1 (.t 73), some (69, true), false⟩,
 ⟨some 75, .iadr 1 .none (.t 70) (.t 74), some (69, true), false⟩,
 ⟨some 76, .load false 1 (.t 75), some (69, true), false⟩,
 ⟨some 77, .mv (.t 3), some (69, true), false⟩,
 ⟨some 78, .mv (.t 5), some (69, true), false⟩,
 ⟨some 79, .iadr 1 .none (.t 77) (.t 78), some (69, true), false⟩,
 ⟨some 80, .load false 1 (.t 79), some (69, true), false⟩,
 ⟨some 81, .bin .leq (.t 76) (.t 80), some (69, true), true⟩,
 ⟨some 82, .pick (.t 69) (.t 81) (.k (.bool false)), .none, true⟩] true [1, 3, 4, 5, 6, 7, 82]
def x6_4 : XC :=
  .seq (.seq (.reg [⟨some 34, .mv (.t 7), .none, false⟩,
 ⟨some 35, .mv (.t 6), .none, false⟩,
 ⟨some 36, .len false (.t 35), .none, false⟩,
 ⟨some 37, .bin .lss (.t 34) (.t 36), .none, false⟩] false [1, 3, 4, 5, 6, 7, 37])
 (.cond (.t 37) (.skip)
 (.exit 2 [1, 3, 4, 5]) [1, 3, 4, 5, 6, 7]))
 (.seq (.block 3 (.seq (.reg [⟨some 8, .asg (.k (.bool false)), .none, false⟩] false [1, 3, 4, 5, 6, 7, 8])
 (.seq (.seq (.reg [⟨some 9, .asg (.k (.int .i64 0)), .none, false⟩] false [1, 3, 4, 5, 6, 7, 8, 9])
 (.block 4 (.loop x6_2 [1, 3, 4, 5, 6, 7, 8, 9]) [1, 3, 4, 5, 6, 7, 8]))
 (.seq x6_3
 (.cond (.t 82) (.seq (.reg [⟨some 2, .asg (.k (.bool false)), .none, false⟩] false [2])
 (.ret))
 (.skip) [1, 3, 4, 5, 6, 7])))) [1, 3, 4, 5, 6, 7])
 (.reg [⟨some 38, .mv (.t 7), .none, false⟩,
 ⟨some 39, .bin .add (.t 38) (.k (.int .i64 1)), .none, false⟩,
 ⟨some 7, .asg (.t 39), .none, false⟩] false [1, 3, 4, 5, 6, 7]))
def x6_5 : XC :=
  .seq (.seq (.reg [⟨some 24, .mv (.t 5), .none, false⟩,
 ⟨some 25, .fadr 3 (.t 1), .none, false⟩,
 ⟨some 26, .load false 1 (.t 25), .none, false⟩,
 ⟨some 27, .len false (.t 26), .none, false⟩,
 ⟨some 28, .bin .lss (.t 24) (.t 27), .none, false⟩] false [1, 3, 4, 5, 28])
 (.cond (.t 28) (.skip)
 (.exit 0 [3]) [1, 3, 4, 5]))
 (.seq (.block 1 (.seq (.reg [⟨some 31, .load true 5 (.t 1), .none, false⟩,
 ⟨some 32, .mv (.t 5), .none, false⟩,
 ⟨some 33, .call 26 [.t 31, .t 32] [], .none, false⟩,
 ⟨some 6, .asg (.t 33), .none, false⟩] false [1, 3, 4, 5, 6])
 (.seq (.reg [⟨some 7, .asg (.k (.int .i64 0)), .none, false⟩] false [1, 3, 4, 5, 6, 7])
 (.block 2 (.loop x6_4 [1, 3, 4, 5, 6, 7]) [1, 3, 4, 5]))) [1, 3, 4, 5])
 (.reg [⟨some 29, .mv (.t 5), .none, false⟩,
 ⟨some 30, .bin .add (.t 29) (.k (.int .i64 1)), .none, false⟩,
 ⟨some 5, .asg (.t 30), .none, false⟩] false [1, 3, 4, 5]))
def x6_6 : XC :=
  .reg [⟨some 83, .mv (.t 3), .none, false⟩,
 ⟨some 84, .iadr 1 .none (.t 83) (.k (.int .i64 0)), .none, false⟩,
 ⟨some 85, .load false 1 (.t 84), .none, false⟩,
 ⟨some 86, .bin .eql (.t 85) (.k (.int .i64 0)), .none, false⟩,
 ⟨some 87, .mv (.t 86), .none, false⟩,
 ⟨some 88, .call 8 [] [], some (87, true), false⟩,
 ⟨some 89, .pick (.t 87) (.t 88) (.k (.bool false)), .none, false⟩,
 ⟨some 2, .asg (.t 89), .none, false⟩] false [2]
def x6 : XF := ⟨1, 90, [.tmp 2],
  .seq (.reg [⟨some 1, .box (.t 0), .none, false⟩,
 ⟨some 2, .asg (.k (.bool false)), .none, false⟩] false [1])
 (.seq (.seq (.reg [⟨some 10, .load true 5 (.t 1), .none, false⟩,
 ⟨some 11, .call 11 [.t 10] [], .none, false⟩,
 ⟨some 12, .bin .gtr (.t 11) (.k (.int .i64 0)), .none, false⟩] false [1, 12])
 (.cond (.t 12) (.seq (.reg [⟨some 13, .call 8 [] [], .none, false⟩,
 ⟨some 2, .asg (.t 13), .none, false⟩] false [2])
 (.ret))
 (.skip) [1]))
 (.seq (.reg [⟨some 14, .load true 5 (.t 1), .none, false⟩,
 ⟨some 15, .call 20 [.t 14] [], .none, false⟩,
 ⟨some 16, .load true 5 (.t 1), .none, false⟩,
 ⟨some 17, .call 22 [.t 16] [], .none, true⟩,
 ⟨some 3, .asg (.t 15), .none, true⟩,
 ⟨some 4, .asg (.t 17), .none, true⟩] true [1, 3, 4])
 (.seq (.seq (.reg [⟨some 18, .mv (.t 3), .none, false⟩,
 ⟨some 19, .len false (.t 18), .none, false⟩,
 ⟨some 20, .fadr 3 (.t 1), .none, false⟩,
 ⟨some 21, .load false 1 (.t 20), .none, false⟩,
 ⟨some 22, .len false (.t 21), .none, false⟩,
 ⟨some 23, .bin .neq (.t 19) (.t 22), .none, false⟩] false [1, 3, 4, 23])
 (.cond (.t 23) (.seq (.reg [⟨some 2, .asg (.k (.bool false)), .none, false⟩] false [2])
 (.ret))
 (.skip) [1, 3, 4]))
 (.seq (.seq (.reg [⟨some 5, .asg (.k (.int .i64 0)), .none, false⟩] false [1, 3, 4, 5])
 (.block 0 (.loop x6_5 [1, 3, 4, 5]) [3]))
 (.seq x6_6
 (.ret)))))), [], false, false, .none⟩
def x35 : XF := ⟨1, 0, [], .skip, [], false, false, some 0⟩
def x8 : XF := ⟨0, 85, [.tmp 0],
  .seq (.reg [q 0 (.asg (.k (.bool false)))] false [])
 (.seq (.reg [q 6 (.call 27 [] []),
 q 1 (.alloc [.str [], .nils, .int .i64 0, .nils, .int .i64 0]),
 ⟨.none, .store 5 (.t 1) (.t 6), .none, false⟩] false [1])
 (.seq (.seq (.reg [q 7 (.fadr 3 (.t 1)),
 q 8 (.load false 1 (.t 7)),
 q 9 (.len false (.t 8)),
 q 10 (.bin .neq (.t 9) (.k (.int .i64 7))),
 q 11 (.mv (.t 10)),
 ⟨some 12, .load true 5 (.t 1), some (11, false), false⟩,
 ⟨some 13, .call 9 [.t 12] [], some (11, false), false⟩,
 ⟨some 14, .fld false 0 1 (.t 13), some (11, false), false⟩,
 ⟨some 15, .bin .neq (.t 14) (.k (.int .i64 0)), some (11, false), false⟩,
 q 16 (.pick (.t 11) (.k (.bool true)) (.t 15)),
 q 17 (.mv (.t 16)),
 ⟨some 18, .build [.str [], .nils, .int .i64 0, .nils, .int .i64 0] [], some (17, false), false⟩,
 ⟨some 19, .call 9 [.t 18] [], some (17, false), false⟩,
 ⟨some 20, .fld false 0 1 (.t 19), some (17, false), false⟩,
 ⟨some 21, .bin .neq (.t 20) (.k (.int .i64 15)), some (17, false), false⟩,
 q 22 (.pick (.t 17) (.k (.bool true)) (.t 21))] false [1, 22])
 (.cond (.t 22) (.seq (.reg [q 0 (.asg (.k (.bool false)))] false [0])
 (.ret))
 (.skip) [1]))
 (.seq (.reg [q 23 (.load true 5 (.t 1)),
 q 24 (.call 15 [.t 23] []),
 q 25 (.load true 5 (.t 1)),
 q 26 (.call 18 [.t 25] []),
 q 27 (.load true 5 (.t 1)),
 ⟨some 28, .call 22 [.t 27] [], .none, true⟩,
 ⟨some 2, .asg (.t 24), .none, true⟩,
 ⟨some 3, .asg (.t 26), .none, true⟩,
 ⟨some 4, .asg (.t 28), .none, true⟩] true [1, 2, 3, 4])
 (.seq (.seq (.reg [q 29 (.mv (.t 2)),
 q 30 (.len false (.t 29)),
 q 31 (.bin .neq (.t 30) (.k (.int .i64 7))),
 q 32 (.mv (.t 31)),
 ⟨some 33, .mv (.t 3), some (32, false), false⟩,
 ⟨some 34, .len false (.t 33), some (32, false), false⟩,
 ⟨some 35, .bin .neq (.t 34) (.k (.int .i64 6)), some (32, false), false⟩,
 q 36 (.pick (.t 32) (.k (.bool true)) (.t 35)),
 q 37 (.mv (.t 36)),
 ⟨some 38, .mv (.t 4), some (37, false), false⟩,
 ⟨some 39, .len false (.t 38), some (37, false), false⟩,
 ⟨some 40, .bin .neq (.t 39) (.k (.int .i64 1)), some (37, false), false⟩,
 q 41 (.pick (.t 37) (.k (.bool true)) (.t 40))] false [1, 2, 3, 4, 41])
 (.cond (.t 41) (.seq (.reg [q 0 (.asg (.k (.bool false)))] false [0])
 (.ret))
 (.skip) [1, 2, 3, 4]))
 (.seq (.reg [q 42 (.load true 5 (.t 1)),
 q 43 (.call 13 [.t 42] []),
 q 44 (.bsl 1 1 [.int .i64 0] [(0, 1, .k (.int .i64 0))]),
 q 45 (.call 24 [.t 43, .t 44, .k (.int .i64 1)] []),
 q 5 (.asg (.t 45))] false [1, 2, 3, 4, 5])
 (.seq (.reg [q 46 (.mv (.t 2)),
 q 47 (.iadr 1 .none (.t 46) (.k (.int .i64 1))),
 q 48 (.load false 1 (.t 47)),
 q 49 (.bsl 1 2 [.int .i64 0] [(0, 1, .k (.int .i64 0)), (1, 1, .k (.int .i64 4))]),
 q 50 (.call 17 [.t 48, .t 49] []),
 q 51 (.mv (.t 50)),
 ⟨some 52, .mv (.t 3), some (51, true), false⟩,
 ⟨some 53, .bsl 1 6 [.int .i64 0] [(0, 1, .k (.int .i64 0)), (1, 1, .k (.int .i64 1)), (2, 1, .k (.int .i64 3)), (3, 1, .k (.int .i64 2)), (4, 1, .k (.int .i64 4)), (5, 1, .k (.int .i64 5))], some (51, true), false⟩,
 ⟨some 54, .call 17 [.t 52, .t 53] [], some (51, true), false⟩,
 q 55 (.pick (.t 51) (.t 54) (.k (.bool false))),
 q 56 (.mv (.t 55)),
 ⟨some 57, .mv (.t 4), some (56, true), false⟩,
 ⟨some 58, .iadr 2 .none (.t 57) (.k (.int .i64 0)), some (56, true), false⟩,
 ⟨some 59, .load true 2 (.t 58), some (56, true), false⟩,
 ⟨some 60, .build [.int .i64 0, .int .i64 0] [(0, 1, .k (.int .i64 4)), (1, 1, .k (.int .i64 1))], some (56, true), false⟩,
 ⟨some 61, .aeq false [.int .i64 0, .int .i64 0] (.t 59) (.t 60), some (56, true), false⟩,
 q 62 (.pick (.t 56) (.t 61) (.k (.bool false))),
 q 63 (.mv (.t 62)),
 ⟨some 64, .mv (.t 5), some (63, true), false⟩,
 ⟨some 65, .len false (.t 64), some (63, true), false⟩,
 ⟨some 66, .bin .eql (.t 65) (.k (.int .i64 7)), some (63, true), false⟩,
 q 67 (.pick (.t 63) (.t 66) (.k (.bool false))),
 q 68 (.mv (.t 67)),
 ⟨some 69, .mv (.t 5), some (68, true), false⟩,
 ⟨some 70, .iadr 1 .none (.t 69) (.k (.int .i64 0)), some (68, true), false⟩,
 ⟨some 71, .load false 1 (.t 70), some (68, true), false⟩,
 q 72 (.pick (.t 68) (.t 71) (.k (.bool false))),
 q 73 (.mv (.t 72)),
 ⟨some 74, .mv (.t 5), some (73, true), false⟩,
 ⟨some 75, .iadr 1 .none (.t 74) (.k (.int .i64 4)), some (73, true), false⟩,
 ⟨some 76, .load false 1 (.t 75), some (73, true), false⟩,
 ⟨some 77, .un .not (.t 76), some (73, true), false⟩,
 q 78 (.pick (.t 73) (.t 77) (.k (.bool false))),
 q 79 (.mv (.t 78)),
 ⟨some 80, .load true 5 (.t 1), some (79, true), false⟩,
 ⟨some 81, .call 20 [.t 80] [], some (79, true), false⟩,
 ⟨some 82, .bsl 1 7 [.int .i64 0] [(0, 1, .k (.int .i64 0)), (1, 1, .k (.int .i64 1)), (2, 1, .k (.int .i64 3)), (3, 1, .k (.int .i64 2)), (4, 1, .k (.int .i64 4)), (5, 1, .k (.int .i64 5)), (6, 1, .k (.int .i64 (-1)))], some (79, true), false⟩,
 ⟨some 83, .call 17 [.t 81, .t 82] [], some (79, true), false⟩,
 q 84 (.pick (.t 79) (.t 83) (.k (.bool false))),
 q 0 (.asg (.t 84))] false [0])
 (.ret))))))), [], false, true, .none⟩
def x27 : XF := ⟨0, 16, [.cell 0 true 5],
  .seq (.reg [q 0 (.alloc [.str [], .nils, .int .i64 0, .nils, .int .i64 0])] false [0])
 (.seq (.reg [q 4 (.call 38 [.k (.str [102, 117, 110, 99, 32, 102, 40, 105, 41, 32, 110, 32, 123, 32, 98, 48, 58, 32, 98, 114, 32, 98, 49, 32, 98, 49, 58, 32, 105, 102, 32, 37, 48, 32, 98, 50, 32, 98, 51, 32, 98, 50, 58, 32, 98, 114, 32, 98, 52, 32, 98, 51, 58, 32, 98, 114, 32, 98, 52, 32, 98, 52, 58, 32, 105, 102, 32, 37, 48, 32, 98, 49, 32, 98, 53, 32, 98, 53, 58, 32, 114, 101, 116, 32, 98, 54, 58, 32, 114, 101, 116, 32, 125])] []),
 q 3 (.mv (.t 4)),
 q 5 (.ext (.t 3) 0),
 q 6 (.ext (.t 3) 1),
 q 1 (.alloc [.nils]),
 q 2 (.alloc [.int .i64 0, .int .i64 0]),
 ⟨.none, .store 1 (.t 1) (.t 5), .none, false⟩,
 ⟨.none, .store 2 (.t 2) (.t 6), .none, false⟩] false [0, 1])
 (.seq (.seq (.reg [q 7 (.fadr 0 (.t 1)),
 q 8 (.load false 1 (.t 7)),
 q 9 (.len false (.t 8)),
 q 10 (.bin .eql (.t 9) (.k (.int .i64 0)))] false [0, 1, 10])
 (.cond (.t 10) (.seq (.reg [q 11 (.build [.str [], .nils, .int .i64 0, .nils, .int .i64 0] []),
 ⟨.none, .store 5 (.t 0) (.t 11), .none, false⟩] false [0])
 (.ret))
 (.skip) [0, 1]))
 (.seq (.reg [q 12 (.fadr 0 (.t 1)),
 q 13 (.load false 1 (.t 12)),
 q 14 (.iadr 5 .none (.t 13) (.k (.int .i64 0))),
 q 15 (.load true 5 (.t 14)),
 ⟨.none, .store 5 (.t 0) (.t 15), .none, false⟩] false [0])
 (.ret)))), [], false, true, .none⟩
def x38 : XF := ⟨1, 67, [.cell 2 true 1, .cell 3 true 2],
  .seq (.reg [q 2 (.alloc [.nils]),
 q 3 (.alloc [.int .i64 0, .int .i64 0])] false [0, 2, 3])
 (.seq (.reg [q 10 (.mv (.t 0)),
 q 11 (.call 42 [.t 10] []),
 q 9 (.mv (.t 11)),
 q 12 (.ext (.t 9) 0),
 q 13 (.ext (.t 9) 1),
 q 5 (.alloc [.int .i64 0, .int .i64 0]),
 q 4 (.asg (.t 12)),
 ⟨.none, .store 2 (.t 5) (.t 13), .none, false⟩] false [0, 2, 3, 4, 5])
 (.seq (.seq (.reg [q 14 (.fadr 0 (.t 5)),
 q 15 (.load false 1 (.t 14)),
 q 16 (.bin .neq (.t 15) (.k (.int .i64 0)))] false [0, 2, 3, 4, 5, 16])
 (.cond (.t 16) (.seq (.no)
 (.ret))
 (.skip) [0, 2, 3, 4]))
 (.seq (.reg [q 19 (.mv (.t 4)),
 q 20 (.mv (.t 0)),
 q 21 (.len true (.t 20)),
 q 22 (.build [.nils, .int .i64 0, .int .i64 0, .int .i64 0, .int .i64 0, .int .i64 0] [(0, 1, .t 19), (2, 1, .t 21)]),
 q 23 (.box (.t 22)),
 q 6 (.asg (.t 23))] false [2, 3, 4, 6, 23])
 (.seq (.reg [q 24 (.build [.nils] []),
 q 7 (.alloc [.nils]),
 ⟨.none, .store 1 (.t 7) (.t 24), .none, false⟩] false [2, 3, 4, 6, 7, 23])
 (.seq (.block 0 (.loop (.seq (.seq (.reg [q 25 (.mv (.t 6)),
 q 26 (.nilck (.t 25)),
 q 27 (.fadr 4 (.t 26)),
 q 28 (.fadr 0 (.t 27)),
 q 29 (.load false 1 (.t 28)),
 q 30 (.bin .eql (.t 29) (.k (.int .i64 0))),
 q 31 (.mv (.t 30)),
 ⟨some 32, .mv (.t 6), some (31, true), false⟩,
 ⟨some 33, .nilck (.t 32), some (31, true), false⟩,
 ⟨some 34, .fadr 1 (.t 33), some (31, true), false⟩,
 ⟨some 35, .load false 1 (.t 34), some (31, true), false⟩,
 ⟨some 36, .mv (.t 4), some (31, true), false⟩,
 ⟨some 37, .len false (.t 36), some (31, true), false⟩,
 ⟨some 38, .bin .lss (.t 35) (.t 37), some (31, true), false⟩,
 q 39 (.pick (.t 31) (.t 38) (.k (.bool false)))] false [2, 3, 4, 6, 7, 23, 39])
 (.cond (.t 39) (.skip)
 (.exit 0 [2, 3, 6, 7, 23]) [2, 3, 4, 6, 7, 23]))
 (.block 1 (.seq (.seq (.reg [q 40 (.fadr 0 (.t 7)),
 q 41 (.load false 1 (.t 40)),
 q 42 (.len false (.t 41)),
 q 43 (.bin .geq (.t 42) (.k (.int .i64 32)))] false [2, 3, 4, 6, 7, 23, 43])
 (.cond (.t 43) (.seq (.reg [q 44 (.mv (.t 6)),
 q 45 (.call 43 [.t 44, .k (.int .i64 6)] [])] false [2, 3, 6, 7, 23])
 (.exit 0 [2, 3, 6, 7, 23]))
 (.skip) [2, 3, 4, 6, 7, 23]))
 (.seq (.reg [q 46 (.mv (.t 6)),
 q 47 (.call 44 [.t 46] []),
 q 8 (.alloc [.str [], .nils, .int .i64 0, .nils, .int .i64 0]),
 ⟨.none, .store 5 (.t 8) (.t 47), .none, false⟩] false [2, 3, 4, 6, 7, 8, 23])
 (.reg [q 48 (.fadr 0 (.t 7)),
 q 49 (.load false 1 (.t 48)),
 q 50 (.load true 5 (.t 8)),
 q 51 (.bsl 5 1 [.str [], .nils, .int .i64 0, .nils, .int .i64 0] [(0, 5, .t 50)]),
 q 52 (.app 5 80 (.t 49) (.t 51)),
 q 53 (.fadr 0 (.t 7)),
 ⟨.none, .store 1 (.t 53) (.t 52), .none, false⟩] false [2, 3, 4, 6, 7, 23]))) [2, 3, 4, 6, 7, 23])) [2, 3, 4, 6, 7, 23]) [2, 3, 6, 7, 23])
 (.seq (.seq (.reg [q 54 (.mv (.t 6)),
 q 55 (.nilck (.t 54)),
 q 56 (.fadr 4 (.t 55)),
 q 57 (.fadr 0 (.t 56)),
 q 58 (.load false 1 (.t 57)),
 q 59 (.bin .neq (.t 58) (.k (.int .i64 0)))] false [2, 3, 6, 7, 23, 59])
 (.cond (.t 59) (.seq (.no)
 (.ret))
 (.skip) [2, 3, 7]))
 (.seq (.reg [q 65 (.load true 1 (.t 7)),
 q 66 (.build [.int .i64 0, .int .i64 0] []),
 ⟨.none, .store 1 (.t 2) (.t 65), .none, false⟩,
 ⟨.none, .store 2 (.t 3) (.t 66), .none, false⟩] false [2, 3])
 (.ret)))))))), [], false, true, .none⟩
def x44 : XF := ⟨1, 109, [.cell 2 true 5],
  .seq (.reg [q 2 (.alloc [.str [], .nils, .int .i64 0, .nils, .int .i64 0])] false [0, 2])
 (.seq (.reg [q 6 (.mv (.t 0)),
 q 7 (.nilck (.t 6)),
 q 8 (.fadr 0 (.t 7)),
 q 9 (.load false 1 (.t 8)),
 q 10 (.mv (.t 0)),
 q 11 (.nilck (.t 10)),
 q 12 (.fadr 1 (.t 11)),
 q 13 (.load false 1 (.t 12)),
 q 14 (.iadr 2 .none (.t 9) (.t 13)),
 q 15 (.fadr 1 (.t 14)),
 q 16 (.load false 1 (.t 15)),
 q 17 (.build [.str [], .nils, .int .i64 0, .nils, .int .i64 0] [(4, 1, .t 16)]),
 q 3 (.alloc [.str [], .nils, .int .i64 0, .nils, .int .i64 0]),
 ⟨.none, .store 5 (.t 3) (.t 17), .none, true⟩] true [0, 2, 3])
 (.seq (.reg [q 18 (.mv (.t 0)),
 q 19 (.call 48 [.t 18, .k (.str [102, 117, 110, 99])] [])] false [0, 2, 3])
 (.seq (.reg [q 20 (.mv (.t 0)),
 q 21 (.call 49 [.t 20] []),
 q 22 (.fadr 0 (.t 3)),
 ⟨.none, .store 1 (.t 22) (.t 21), .none, false⟩] false [0, 2, 3])
 (.seq (.reg [q 23 (.mv (.t 0)),
 q 24 (.call 48 [.t 23, .k (.str [40])] [])] false [0, 2, 3])
 (.seq (.block 0 (.loop (.seq (.seq (.reg [q 25 (.mv (.t 0)),
 q 26 (.nilck (.t 25)),
 q 27 (.fadr 4 (.t 26)),
 q 28 (.fadr 0 (.t 27)),
 q 29 (.load false 1 (.t 28)),
 q 30 (.bin .eql (.t 29) (.k (.int .i64 0))),
 q 31 (.mv (.t 30)),
 ⟨some 32, .mv (.t 0), some (31, true), false⟩,
 ⟨some 33, .call 50 [.t 32, .k (.int .i64 0)] [], some (31, true), false⟩,
 ⟨some 34, .bin .neq (.t 33) (.k (.str [41])), some (31, true), false⟩,
 q 35 (.pick (.t 31) (.t 34) (.k (.bool false)))] false [0, 2, 3, 35])
 (.cond (.t 35) (.skip)
 (.exit 0 [0, 2, 3]) [0, 2, 3]))
 (.block 1 (.seq (.reg [q 36 (.mv (.t 0)),
 q 37 (.call 50 [.t 36, .k (.int .i64 0)] []),
 q 38 (.call 51 [.t 37] []),
 q 4 (.asg (.t 38))] false [0, 2, 3, 4])
 (.seq (.seq (.reg [q 39 (.mv (.t 4)),
 q 40 (.bin .lss (.t 39) (.k (.int .i64 1)))] false [0, 2, 3, 4, 40])
 (.cond (.t 40) (.reg [q 41 (.mv (.t 0)),
 q 42 (.call 43 [.t 41, .k (.int .i64 9)] [])] false [0, 2, 3, 4])
 (.skip) [0, 2, 3, 4]))
 (.seq (.seq (.reg [q 43 (.fadr 1 (.t 3)),
 q 44 (.load false 1 (.t 43)),
 q 45 (.len false (.t 44)),
 q 46 (.bin .geq (.t 45) (.k (.int .i64 8)))] false [0, 2, 3, 4, 46])
 (.cond (.t 46) (.reg [q 47 (.mv (.t 0)),
 q 48 (.call 43 [.t 47, .k (.int .i64 6)] [])] false [0, 2, 3, 4])
 (.skip) [0, 2, 3, 4]))
 (.seq (.reg [q 49 (.fadr 1 (.t 3)),
 q 50 (.load false 1 (.t 49)),
 q 51 (.mv (.t 4)),
 q 52 (.bsl 1 1 [.int .i64 0] [(0, 1, .t 51)]),
 q 53 (.app 1 8 (.t 50) (.t 52)),
 q 54 (.fadr 1 (.t 3)),
 ⟨.none, .store 1 (.t 54) (.t 53), .none, false⟩] false [0, 2, 3])
 (.reg [q 55 (.mv (.t 0)),
 q 56 (.mv (.t 0)),
 q 57 (.nilck (.t 56)),
 q 58 (.fadr 1 (.t 57)),
 q 59 (.load false 1 (.t 58)),
 q 60 (.bin .add (.t 59) (.k (.int .i64 1))),
 q 61 (.nilck (.t 55)),
 q 62 (.fadr 1 (.t 61)),
 ⟨.none, .store 1 (.t 62) (.t 60), .none, false⟩] false [0, 2, 3]))))) [0, 2, 3])) [0, 2, 3]) [0, 2, 3])
 (.seq (.reg [q 63 (.mv (.t 0)),
 q 64 (.call 48 [.t 63, .k (.str [41])] [])] false [0, 2, 3])
 (.seq (.reg [q 65 (.mv (.t 0)),
 q 66 (.call 50 [.t 65, .k (.int .i64 0)] []),
 q 67 (.call 51 [.t 66] []),
 q 68 (.fadr 2 (.t 3)),
 ⟨.none, .store 1 (.t 68) (.t 67), .none, false⟩] false [0, 2, 3])
 (.seq (.seq (.reg [q 69 (.fadr 2 (.t 3)),
 q 70 (.load false 1 (.t 69)),
 q 71 (.bin .lss (.t 70) (.k (.int .i64 0)))] false [0, 2, 3, 71])
 (.cond (.t 71) (.reg [q 72 (.mv (.t 0)),
 q 73 (.call 43 [.t 72, .k (.int .i64 9)] [])] false [0, 2, 3])
 (.skip) [0, 2, 3]))
 (.seq (.reg [q 74 (.mv (.t 0)),
 q 75 (.mv (.t 0)),
 q 76 (.nilck (.t 75)),
 q 77 (.fadr 1 (.t 76)),
 q 78 (.load false 1 (.t 77)),
 q 79 (.bin .add (.t 78) (.k (.int .i64 1))),
 q 80 (.nilck (.t 74)),
 q 81 (.fadr 1 (.t 80)),
 ⟨.none, .store 1 (.t 81) (.t 79), .none, false⟩] false [0, 2, 3])
 (.seq (.reg [q 82 (.mv (.t 0)),
 q 83 (.call 48 [.t 82, .k (.str [123])] [])] false [0, 2, 3])
 (.seq (.block 2 (.loop (.seq (.seq (.reg [q 84 (.mv (.t 0)),
 q 85 (.nilck (.t 84)),
 q 86 (.fadr 4 (.t 85)),
 q 87 (.fadr 0 (.t 86)),
 q 88 (.load false 1 (.t 87)),
 q 89 (.bin .eql (.t 88) (.k (.int .i64 0))),
 q 90 (.mv (.t 89)),
 ⟨some 91, .mv (.t 0), some (90, true), false⟩,
 ⟨some 92, .call 50 [.t 91, .k (.int .i64 0)] [], some (90, true), false⟩,
 ⟨some 93, .bin .neq (.t 92) (.k (.str [125])), some (90, true), false⟩,
 q 94 (.pick (.t 90) (.t 93) (.k (.bool false)))] false [0, 2, 3, 94])
 (.cond (.t 94) (.skip)
 (.exit 2 [0, 2, 3]) [0, 2, 3]))
 (.block 3 (.seq (.reg [q 95 (.mv (.t 0)),
 q 96 (.fadr 3 (.t 3)),
 q 97 (.load false 1 (.t 96)),
 q 98 (.len false (.t 97)),
 q 99 (.call 52 [.t 95, .t 98] []),
 q 5 (.asg (.t 99))] false [0, 2, 3, 5])
 (.reg [q 100 (.fadr 3 (.t 3)),
 q 101 (.load false 1 (.t 100)),
 q 102 (.mv (.t 5)),
 q 103 (.bsl 1 1 [.nils] [(0, 1, .t 102)]),
 q 104 (.app 1 24 (.t 101) (.t 103)),
 q 105 (.fadr 3 (.t 3)),
 ⟨.none, .store 1 (.t 105) (.t 104), .none, false⟩] false [0, 2, 3])) [0, 2, 3])) [0, 2, 3]) [0, 2, 3])
 (.seq (.reg [q 106 (.mv (.t 0)),
 q 107 (.call 48 [.t 106, .k (.str [125])] [])] false [0, 2, 3])
 (.seq (.reg [q 108 (.load true 5 (.t 3)),
 ⟨.none, .store 5 (.t 2) (.t 108), .none, false⟩] false [0, 2])
 (.ret)))))))))))))), [0], false, true, .none⟩
def x48 : XF := ⟨2, 26, [],
  .seq (.reg [q 4 (.mv (.t 0)),
 q 5 (.nilck (.t 4)),
 q 6 (.fadr 4 (.t 5)),
 q 7 (.fadr 0 (.t 6)),
 q 8 (.load false 1 (.t 7)),
 q 9 (.bin .eql (.t 8) (.k (.int .i64 0))),
 q 10 (.mv (.t 9)),
 ⟨some 11, .mv (.t 0), some (10, true), false⟩,
 ⟨some 12, .call 50 [.t 11, .k (.int .i64 0)] [], some (10, true), false⟩,
 ⟨some 13, .mv (.t 1), some (10, true), false⟩,
 ⟨some 14, .bin .eql (.t 12) (.t 13), some (10, true), false⟩,
 q 15 (.pick (.t 10) (.t 14) (.k (.bool false)))] false [0, 15])
 (.cond (.t 15) (.reg [q 16 (.mv (.t 0)),
 q 17 (.mv (.t 0)),
 q 18 (.nilck (.t 17)),
 q 19 (.fadr 1 (.t 18)),
 q 20 (.load false 1 (.t 19)),
 q 21 (.bin .add (.t 20) (.k (.int .i64 1))),
 q 22 (.nilck (.t 16)),
 q 23 (.fadr 1 (.t 22)),
 ⟨.none, .store 1 (.t 23) (.t 21), .none, false⟩] false [0])
 (.reg [q 24 (.mv (.t 0)),
 q 25 (.call 43 [.t 24, .k (.int .i64 2)] [])] false [0]) [0]), [0], false, true, .none⟩
def x43 : XF := ⟨2, 42, [],
  .seq (.seq (.reg [q 5 (.mv (.t 0)),
 q 6 (.nilck (.t 5)),
 q 7 (.fadr 4 (.t 6)),
 q 8 (.fadr 0 (.t 7)),
 q 9 (.load false 1 (.t 8)),
 q 10 (.bin .neq (.t 9) (.k (.int .i64 0)))] false [0, 1, 10])
 (.cond (.t 10) (.ret)
 (.skip) [0, 1]))
 (.seq (.reg [q 11 (.mv (.t 0)),
 q 12 (.nilck (.t 11)),
 q 13 (.fadr 2 (.t 12)),
 q 14 (.load false 1 (.t 13)),
 q 4 (.asg (.t 14))] false [0, 1, 4])
 (.seq (.seq (.reg [q 15 (.mv (.t 0)),
 q 16 (.nilck (.t 15)),
 q 17 (.fadr 1 (.t 16)),
 q 18 (.load false 1 (.t 17)),
 q 19 (.mv (.t 0)),
 q 20 (.nilck (.t 19)),
 q 21 (.fadr 0 (.t 20)),
 q 22 (.load false 1 (.t 21)),
 q 23 (.len false (.t 22)),
 ⟨some 24, .bin .lss (.t 18) (.t 23), .none, true⟩] true [0, 1, 4, 24])
 (.cond (.t 24) (.reg [q 25 (.mv (.t 0)),
 q 26 (.nilck (.t 25)),
 q 27 (.fadr 0 (.t 26)),
 q 28 (.load false 1 (.t 27)),
 q 29 (.mv (.t 0)),
 q 30 (.nilck (.t 29)),
 q 31 (.fadr 1 (.t 30)),
 q 32 (.load false 1 (.t 31)),
 ⟨some 33, .iadr 2 .none (.t 28) (.t 32), .none, true⟩,
 ⟨some 34, .fadr 1 (.t 33), .none, true⟩,
 ⟨some 35, .load false 1 (.t 34), .none, true⟩,
 ⟨some 4, .asg (.t 35), .none, true⟩] true [0, 1, 4])
 (.skip) [0, 1, 4]))
 (.reg [q 36 (.mv (.t 0)),
 q 37 (.mv (.t 1)),
 q 38 (.mv (.t 4)),
 q 39 (.build [.int .i64 0, .int .i64 0] [(0, 1, .t 37), (1, 1, .t 38)]),
 q 40 (.nilck (.t 36)),
 q 41 (.fadr 4 (.t 40)),
 ⟨.none, .store 2 (.t 41) (.t 39), .none, false⟩] false [0]))), [0], false, true, .none⟩
def x50 : XF := ⟨2, 38, [.tmp 4],
  .seq (.reg [q 4 (.asg (.k (.str [])))] false [0, 1])
 (.seq (.seq (.reg [q 5 (.mv (.t 0)),
 q 6 (.nilck (.t 5)),
 q 7 (.fadr 4 (.t 6)),
 q 8 (.fadr 0 (.t 7)),
 q 9 (.load false 1 (.t 8)),
 q 10 (.bin .neq (.t 9) (.k (.int .i64 0))),
 q 11 (.mv (.t 10)),
 ⟨some 12, .mv (.t 0), some (11, false), false⟩,
 ⟨some 13, .nilck (.t 12), some (11, false), false⟩,
 ⟨some 14, .fadr 1 (.t 13), some (11, false), false⟩,
 ⟨some 15, .load false 1 (.t 14), some (11, false), false⟩,
 ⟨some 16, .mv (.t 1), some (11, false), false⟩,
 ⟨some 17, .bin .add (.t 15) (.t 16), some (11, false), false⟩,
 ⟨some 18, .mv (.t 0), some (11, false), false⟩,
 ⟨some 19, .nilck (.t 18), some (11, false), false⟩,
 ⟨some 20, .fadr 0 (.t 19), some (11, false), false⟩,
 ⟨some 21, .load false 1 (.t 20), some (11, false), false⟩,
 ⟨some 22, .len false (.t 21), some (11, false), false⟩,
 ⟨some 23, .bin .geq (.t 17) (.t 22), some (11, false), true⟩,
 ⟨some 24, .pick (.t 11) (.k (.bool true)) (.t 23), .none, true⟩] true [0, 1, 24])
 (.cond (.t 24) (.seq (.reg [q 4 (.asg (.k (.str [])))] false [0, 4])
 (.ret))
 (.skip) [0, 1]))
 (.seq (.reg [q 25 (.mv (.t 0)),
 q 26 (.nilck (.t 25)),
 q 27 (.fadr 0 (.t 26)),
 q 28 (.load false 1 (.t 27)),
 q 29 (.mv (.t 0)),
 q 30 (.nilck (.t 29)),
 q 31 (.fadr 1 (.t 30)),
 q 32 (.load false 1 (.t 31)),
 q 33 (.mv (.t 1)),
 q 34 (.bin .add (.t 32) (.t 33)),
 ⟨some 35, .iadr 2 .none (.t 28) (.t 34), .none, true⟩,
 ⟨some 36, .fadr 0 (.t 35), .none, true⟩,
 ⟨some 37, .load false 1 (.t 36), .none, true⟩,
 ⟨some 4, .asg (.t 37), .none, true⟩] true [0, 4])
 (.ret))), [0], false, true, .none⟩
def x52 : XF := ⟨2, 67, [.tmp 4],
  .seq (.reg [q 4 (.asg (.k (.nils)))] false [0, 1])
 (.seq (.seq (.reg [q 7 (.mv (.t 1)),
 q 8 (.bin .geq (.t 7) (.k (.int .i64 256)))] false [0, 1, 8])
 (.cond (.t 8) (.reg [q 9 (.mv (.t 0)),
 q 10 (.call 43 [.t 9, .k (.int .i64 6)] [])] false [0, 1])
 (.skip) [0, 1]))
 (.seq (.seq (.reg [q 11 (.mv (.t 0)),
 q 12 (.call 50 [.t 11, .k (.int .i64 0)] []),
 q 13 (.mv (.t 1)),
 q 14 (.call 54 [.t 13] []),
 q 15 (.bin .add (.k (.str [98])) (.t 14)),
 q 16 (.bin .neq (.t 12) (.t 15))] false [0, 16])
 (.cond (.t 16) (.reg [q 17 (.mv (.t 0)),
 q 18 (.call 43 [.t 17, .k (.int .i64 7)] [])] false [0])
 (.skip) [0]))
 (.seq (.reg [q 19 (.mv (.t 0)),
 q 20 (.mv (.t 0)),
 q 21 (.nilck (.t 20)),
 q 22 (.fadr 1 (.t 21)),
 q 23 (.load false 1 (.t 22)),
 q 24 (.bin .add (.t 23) (.k (.int .i64 1))),
 q 25 (.nilck (.t 19)),
 q 26 (.fadr 1 (.t 25)),
 ⟨.none, .store 1 (.t 26) (.t 24), .none, false⟩] false [0])
 (.seq (.reg [q 27 (.mv (.t 0)),
 q 28 (.call 48 [.t 27, .k (.str [58])] [])] false [0])
 (.seq (.reg [q 5 (.asg (.k (.nils)))] false [0, 5])
 (.seq (.block 0 (.loop (.seq (.seq (.reg [q 29 (.mv (.t 0)),
 q 30 (.nilck (.t 29)),
 q 31 (.fadr 4 (.t 30)),
 q 32 (.fadr 0 (.t 31)),
 q 33 (.load false 1 (.t 32)),
 q 34 (.bin .eql (.t 33) (.k (.int .i64 0))),
 q 35 (.mv (.t 34)),
 ⟨some 36, .mv (.t 0), some (35, true), false⟩,
 ⟨some 37, .call 50 [.t 36, .k (.int .i64 0)] [], some (35, true), false⟩,
 ⟨some 38, .bin .neq (.t 37) (.k (.str [125])), some (35, true), false⟩,
 q 39 (.pick (.t 35) (.t 38) (.k (.bool false))),
 q 40 (.mv (.t 39)),
 ⟨some 41, .mv (.t 0), some (40, true), false⟩,
 ⟨some 42, .call 50 [.t 41, .k (.int .i64 1)] [], some (40, true), false⟩,
 ⟨some 43, .bin .neq (.t 42) (.k (.str [58])), some (40, true), false⟩,
 q 44 (.pick (.t 40) (.t 43) (.k (.bool false)))] false [0, 5, 44])
 (.cond (.t 44) (.skip)
 (.exit 0 [0, 5]) [0, 5]))
 (.block 1 (.seq (.seq (.reg [q 45 (.mv (.t 0)),
 q 46 (.nilck (.t 45)),
 q 47 (.fadr 3 (.t 46)),
 q 48 (.load false 1 (.t 47)),
 q 49 (.bin .geq (.t 48) (.k (.int .i64 4096)))] false [0, 5, 49])
 (.cond (.t 49) (.reg [q 50 (.mv (.t 0)),
 q 51 (.call 43 [.t 50, .k (.int .i64 6)] [])] false [0, 5])
 (.skip) [0, 5]))
 (.seq (.reg [q 52 (.mv (.t 0)),
 q 53 (.mv (.t 0)),
 q 54 (.nilck (.t 53)),
 q 55 (.fadr 3 (.t 54)),
 q 56 (.load false 1 (.t 55)),
 q 57 (.bin .add (.t 56) (.k (.int .i64 1))),
 q 58 (.nilck (.t 52)),
 q 59 (.fadr 3 (.t 58)),
 ⟨.none, .store 1 (.t 59) (.t 57), .none, false⟩] false [0, 5])
 (.seq (.reg [q 60 (.mv (.t 0)),
 q 61 (.call 55 [.t 60] []),
 q 6 (.alloc [.int .i64 0, .int .i64 0, .int .i64 0, .int .i64 0, .nils, .nils, .str [], .int .i64 0]),
 ⟨.none, .store 8 (.t 6) (.t 61), .none, false⟩] false [0, 5, 6])
 (.reg [q 62 (.mv (.t 5)),
 q 63 (.load true 8 (.t 6)),
 q 64 (.bsl 8 1 [.int .i64 0, .int .i64 0, .int .i64 0, .int .i64 0, .nils, .nils, .str [], .int .i64 0] [(0, 8, .t 63)]),
 q 65 (.app 8 104 (.t 62) (.t 64)),
 q 5 (.asg (.t 65))] false [0, 5])))) [0, 5])) [0, 5]) [0, 5])
 (.seq (.reg [q 66 (.mv (.t 5)),
 q 4 (.asg (.t 66))] false [0, 4])
 (.ret)))))))), [0], false, true, .none⟩
def x55 : XF := ⟨1, 77, [.cell 2 true 8],
  .seq (.reg [q 2 (.alloc [.int .i64 0, .int .i64 0, .int .i64 0, .int .i64 0, .nils, .nils, .str [], .int .i64 0])] false [0, 2])
 (.seq (.reg [q 6 (.mv (.t 0)),
 q 7 (.nilck (.t 6)),
 q 8 (.fadr 2 (.t 7)),
 q 9 (.load false 1 (.t 8)),
 q 10 (.build [.int .i64 0, .int .i64 0, .int .i64 0, .int .i64 0, .nils, .nils, .str [], .int .i64 0] [(1, 1, .k (.int .i64 (-1))), (7, 1, .t 9)]),
 q 3 (.alloc [.int .i64 0, .int .i64 0, .int .i64 0, .int .i64 0, .nils, .nils, .str [], .int .i64 0]),
 ⟨.none, .store 8 (.t 3) (.t 10), .none, false⟩] false [0, 2, 3])
 (.seq (.seq (.reg [q 11 (.mv (.t 0)),
 q 12 (.nilck (.t 11)),
 q 13 (.fadr 1 (.t 12)),
 q 14 (.load false 1 (.t 13)),
 q 15 (.mv (.t 0)),
 q 16 (.nilck (.t 15)),
 q 17 (.fadr 0 (.t 16)),
 q 18 (.load false 1 (.t 17)),
 q 19 (.len false (.t 18)),
 ⟨some 20, .bin .lss (.t 14) (.t 19), .none, true⟩] true [0, 2, 3, 20])
 (.cond (.t 20) (.reg [q 21 (.mv (.t 0)),
 q 22 (.nilck (.t 21)),
 q 23 (.fadr 0 (.t 22)),
 q 24 (.load false 1 (.t 23)),
 q 25 (.mv (.t 0)),
 q 26 (.nilck (.t 25)),
 q 27 (.fadr 1 (.t 26)),
 q 28 (.load false 1 (.t 27)),
 ⟨some 29, .iadr 2 .none (.t 24) (.t 28), .none, true⟩,
 ⟨some 30, .fadr 1 (.t 29), .none, true⟩,
 ⟨some 31, .load false 1 (.t 30), .none, true⟩,
 ⟨some 32, .fadr 7 (.t 3), .none, true⟩,
 ⟨.none, .store 1 (.t 32) (.t 31), .none, true⟩] true [0, 2, 3])
 (.skip) [0, 2, 3]))
 (.seq (.seq (.reg [q 33 (.mv (.t 0)),
 q 34 (.call 50 [.t 33, .k (.int .i64 1)] []),
 q 35 (.bin .eql (.t 34) (.k (.str [61])))] false [0, 2, 3, 35])
 (.cond (.t 35) (.seq (.reg [q 36 (.mv (.t 0)),
 q 37 (.call 56 [.t 36] []),
 q 38 (.fadr 1 (.t 3)),
 ⟨.none, .store 1 (.t 38) (.t 37), .none, false⟩] false [0, 2, 3])
 (.reg [q 39 (.mv (.t 0)),
 q 40 (.call 48 [.t 39, .k (.str [61])] [])] false [0, 2, 3]))
 (.skip) [0, 2, 3]))
 (.seq (.reg [q 42 (.mv (.t 0)),
 q 43 (.call 50 [.t 42, .k (.int .i64 0)] []),
 q 44 (.call 57 [.t 43] []),
 q 41 (.mv (.t 44)),
 q 45 (.ext (.t 41) 0),
 q 46 (.ext (.t 41) 1),
 q 4 (.asg (.t 45)),
 q 5 (.asg (.t 46))] false [0, 2, 3, 4, 5])
 (.seq (.reg [q 47 (.mv (.t 4)),
 q 48 (.fadr 0 (.t 3)),
 ⟨.none, .store 1 (.t 48) (.t 47), .none, false⟩] false [0, 2, 3, 4, 5])
 (.seq (.reg [q 49 (.mv (.t 5)),
 q 50 (.fadr 3 (.t 3)),
 ⟨.none, .store 1 (.t 50) (.t 49), .none, false⟩] false [0, 2, 3, 4])
 (.seq (.seq (.reg [q 51 (.mv (.t 4)),
 q 52 (.bin .eql (.t 51) (.k (.int .i64 0)))] false [0, 2, 3, 52])
 (.cond (.t 52) (.seq (.reg [q 53 (.mv (.t 0)),
 q 54 (.call 43 [.t 53, .k (.int .i64 2)] [])] false [0, 2, 3])
 (.seq (.reg [q 55 (.load true 8 (.t 3)),
 ⟨.none, .store 8 (.t 2) (.t 55), .none, false⟩] false [0, 2])
 (.ret)))
 (.skip) [0, 2, 3]))
 (.seq (.seq (.reg [q 56 (.load true 8 (.t 3)),
 q 57 (.call 58 [.t 56] []),
 q 58 (.bin .neq (.t 57) (.k (.int .i64 0))),
 q 59 (.fadr 1 (.t 3)),
 q 60 (.load false 1 (.t 59)),
 q 61 (.bin .geq (.t 60) (.k (.int .i64 0))),
 ⟨some 62, .beq true (.t 58) (.t 61), .none, true⟩] true [0, 2, 3, 62])
 (.cond (.t 62) (.seq (.reg [q 63 (.mv (.t 0)),
 q 64 (.call 43 [.t 63, .k (.int .i64 8)] [])] false [0, 2, 3])
 (.seq (.reg [q 65 (.load true 8 (.t 3)),
 ⟨.none, .store 8 (.t 2) (.t 65), .none, false⟩] false [0, 2])
 (.ret)))
 (.skip) [0, 2, 3]))
 (.seq (.reg [q 66 (.mv (.t 0)),
 q 67 (.mv (.t 0)),
 q 68 (.nilck (.t 67)),
 q 69 (.fadr 1 (.t 68)),
 q 70 (.load false 1 (.t 69)),
 q 71 (.bin .add (.t 70) (.k (.int .i64 1))),
 q 72 (.nilck (.t 66)),
 q 73 (.fadr 1 (.t 72)),
 ⟨.none, .store 1 (.t 73) (.t 71), .none, false⟩] false [0, 2, 3])
 (.seq (.reg [q 74 (.mv (.t 0)),
 q 75 (.load true 8 (.t 3)),
 q 76 (.call 59 [.t 74, .t 75] []),
 ⟨.none, .store 8 (.t 2) (.t 76), .none, false⟩] false [0, 2])
 (.ret))))))))))), [0], false, true, .none⟩
def x59 : XF := ⟨2, 71, [.cell 4 true 8],
  .seq (.reg [q 3 (.box (.t 1)),
 q 4 (.alloc [.int .i64 0, .int .i64 0, .int .i64 0, .int .i64 0, .nils, .nils, .str [], .int .i64 0])] false [0, 3, 4])
 (.seq (.reg [q 9 (.load true 8 (.t 3)),
 q 5 (.alloc [.int .i64 0, .int .i64 0, .int .i64 0, .int .i64 0, .nils, .nils, .str [], .int .i64 0]),
 ⟨.none, .store 8 (.t 5) (.t 9), .none, false⟩] false [0, 4, 5])
 (.seq (.seq (.reg [q 10 (.fadr 0 (.t 5)),
 q 11 (.load false 1 (.t 10))] false [0, 4, 5, 11])
 (.block 0 (.seq (.reg [q 19 (.bin .eql (.t 11) (.k (.int .i64 1))),
 q 18 (.asg (.t 19))] false [0, 4, 5, 11, 18])
 (.cond (.t 18) (.reg [q 20 (.mv (.t 0)),
 q 21 (.call 64 [.t 20, .k (.int .i64 (-9223372036854775808)), .k (.int .i64 9223372036854775807)] []),
 q 22 (.fadr 2 (.t 5)),
 ⟨.none, .store 1 (.t 22) (.t 21), .none, false⟩] false [0, 4, 5])
 (.seq (.reg [q 24 (.bin .eql (.t 11) (.k (.int .i64 29))),
 q 23 (.asg (.t 24))] false [0, 4, 5, 11, 23])
 (.cond (.t 23) (.reg [q 25 (.mv (.t 0)),
 q 26 (.call 64 [.t 25, .k (.int .i64 0), .k (.int .i64 255)] []),
 q 27 (.fadr 2 (.t 5)),
 ⟨.none, .store 1 (.t 27) (.t 26), .none, false⟩] false [0, 4, 5])
 (.seq (.reg [q 29 (.bin .eql (.t 11) (.k (.int .i64 10))),
 q 28 (.asg (.t 29))] false [0, 4, 5, 11, 28])
 (.cond (.t 28) (.seq (.reg [q 30 (.mv (.t 0)),
 q 31 (.call 50 [.t 30, .k (.int .i64 0)] []),
 q 6 (.asg (.t 31))] false [0, 4, 5, 6])
 (.seq (.seq (.reg [q 33 (.mv (.t 6)),
 q 34 (.call 65 [.t 33] []),
 q 32 (.mv (.t 34)),
 q 35 (.ext (.t 32) 0),
 q 36 (.ext (.t 32) 1),
 q 7 (.alloc [.int .i64 0, .int .i64 0]),
 ⟨.none, .store 2 (.t 7) (.t 35), .none, false⟩,
 q 8 (.asg (.t 36))] false [0, 4, 5, 6, 8])
 (.seq (.reg [q 37 (.mv (.t 8)),
 q 38 (.bin .neq (.t 37) (.k (.int .i64 0)))] false [0, 4, 5, 6, 8, 38])
 (.cond (.t 38) (.seq (.reg [q 39 (.mv (.t 0)),
 q 40 (.mv (.t 8)),
 q 41 (.call 43 [.t 39, .t 40] [])] false [0, 4, 5])
 (.seq (.reg [q 42 (.load true 8 (.t 5)),
 ⟨.none, .store 8 (.t 4) (.t 42), .none, false⟩] false [0, 4])
 (.ret)))
 (.skip) [0, 4, 5, 6])))
 (.seq (.reg [q 43 (.mv (.t 6)),
 q 44 (.fadr 6 (.t 5)),
 ⟨.none, .store 1 (.t 44) (.t 43), .none, false⟩] false [0, 4, 5])
 (.reg [q 45 (.mv (.t 0)),
 q 46 (.mv (.t 0)),
 q 47 (.nilck (.t 46)),
 q 48 (.fadr 1 (.t 47)),
 q 49 (.load false 1 (.t 48)),
 q 50 (.bin .add (.t 49) (.k (.int .i64 1))),
 q 51 (.nilck (.t 45)),
 q 52 (.fadr 1 (.t 51)),
 ⟨.none, .store 1 (.t 52) (.t 50), .none, false⟩] false [0, 4, 5]))))
 (.seq (.reg [q 54 (.bin .eql (.t 11) (.k (.int .i64 20))),
 q 53 (.asg (.t 54))] false [0, 4, 5, 11, 53])
 (.cond (.t 53) (.seq (.reg [q 55 (.mv (.t 0)),
 q 56 (.load true 8 (.t 5)),
 q 57 (.call 66 [.t 55, .t 56] []),
 ⟨.none, .store 8 (.t 4) (.t 57), .none, false⟩] false [0, 4])
 (.ret))
 (.seq (.reg [q 59 (.bin .eql (.t 11) (.k (.int .i64 21))),
 q 58 (.asg (.t 59))] false [0, 4, 5, 11, 58])
 (.cond (.t 58) (.seq (.reg [q 60 (.mv (.t 0)),
 q 61 (.load true 8 (.t 5)),
 q 62 (.call 67 [.t 60, .t 61] []),
 ⟨.none, .store 8 (.t 4) (.t 62), .none, false⟩] false [0, 4])
 (.ret))
 (.seq (.reg [q 64 (.bin .eql (.t 11) (.k (.int .i64 28))),
 q 63 (.asg (.t 64))] false [0, 4, 5, 63])
 (.cond (.t 63) (.seq (.reg [q 65 (.mv (.t 0)),
 q 66 (.call 68 [.t 65] [])] false [0, 4, 5, 66])
 (.cond (.t 66) (.seq (.reg [q 67 (.mv (.t 0)),
 q 68 (.load true 8 (.t 5)),
 q 69 (.call 69 [.t 67, .t 68, .k (.str [118])] []),
 ⟨.none, .store 8 (.t 4) (.t 69), .none, false⟩] false [0, 4])
 (.ret))
 (.skip) [0, 4, 5]))
 (.seq (.reg [q 12 (.mv (.t 0)),
 q 13 (.load true 8 (.t 5)),
 q 14 (.fadr 0 (.t 5)),
 q 15 (.load false 1 (.t 14)),
 q 16 (.call 70 [.t 15] []),
 ⟨some 17, .call 69 [.t 12, .t 13, .t 16] [], .none, true⟩,
 ⟨.none, .store 8 (.t 4) (.t 17), .none, true⟩] true [0, 4])
 (.ret)) [0, 4, 5])) [0, 4, 5])) [0, 4, 5])) [0, 4, 5])) [0, 4, 5])) [0, 4, 5])) [0, 4, 5]))
 (.seq (.reg [q 70 (.load true 8 (.t 5)),
 ⟨.none, .store 8 (.t 4) (.t 70), .none, false⟩] false [0, 4])
 (.ret)))), [0], false, true, .none⟩
def x69 : XF := ⟨3, 52, [.cell 6 true 8],
  .seq (.reg [q 4 (.box (.t 1)),
 q 6 (.alloc [.int .i64 0, .int .i64 0, .int .i64 0, .int .i64 0, .nils, .nils, .str [], .int .i64 0])] false [0, 2, 4, 6])
 (.seq (.reg [q 11 (.load true 8 (.t 4)),
 q 7 (.alloc [.int .i64 0, .int .i64 0, .int .i64 0, .int .i64 0, .nils, .nils, .str [], .int .i64 0]),
 ⟨.none, .store 8 (.t 7) (.t 11), .none, false⟩] false [0, 2, 6, 7])
 (.seq (.seq (.reg [q 8 (.asg (.k (.int .i64 0)))] false [0, 2, 6, 7, 8])
 (.block 0 (.loop (.seq (.seq (.reg [q 12 (.mv (.t 8)),
 q 13 (.mv (.t 2)),
 q 14 (.len true (.t 13)),
 q 15 (.bin .lss (.t 12) (.t 14))] false [0, 2, 6, 7, 8, 15])
 (.cond (.t 15) (.skip)
 (.exit 0 [0, 6, 7]) [0, 2, 6, 7, 8]))
 (.seq (.block 1 (.seq (.reg [q 18 (.mv (.t 2)),
 q 19 (.mv (.t 8)),
 q 20 (.idxs (.t 18) (.t 19))] false [0, 2, 6, 7, 8, 20])
 (.block 2 (.seq (.reg [q 22 (.bin .eql (.t 20) (.k (.int .u8 118))),
 q 21 (.asg (.t 22))] false [0, 2, 6, 7, 8, 20, 21])
 (.cond (.t 21) (.seq (.reg [q 23 (.mv (.t 0)),
 q 24 (.call 56 [.t 23] []),
 q 9 (.asg (.t 24))] false [0, 2, 6, 7, 8, 9])
 (.reg [q 25 (.fadr 4 (.t 7)),
 q 26 (.load false 1 (.t 25)),
 q 27 (.mv (.t 9)),
 q 28 (.bsl 1 1 [.int .i64 0] [(0, 1, .t 27)]),
 q 29 (.app 1 8 (.t 26) (.t 28)),
 q 30 (.fadr 4 (.t 7)),
 ⟨.none, .store 1 (.t 30) (.t 29), .none, false⟩] false [0, 2, 6, 7, 8]))
 (.seq (.reg [q 32 (.bin .eql (.t 20) (.k (.int .u8 115))),
 q 31 (.asg (.t 32))] false [0, 2, 6, 7, 8, 20, 31])
 (.cond (.t 31) (.reg [q 33 (.mv (.t 0)),
 q 34 (.call 64 [.t 33, .k (.int .i64 0), .k (.int .i64 15)] []),
 q 35 (.fadr 2 (.t 7)),
 ⟨.none, .store 1 (.t 35) (.t 34), .none, false⟩] false [0, 2, 6, 7, 8])
 (.seq (.reg [q 37 (.bin .eql (.t 20) (.k (.int .u8 110))),
 q 36 (.asg (.t 37))] false [0, 2, 6, 7, 8, 20, 36])
 (.cond (.t 36) (.reg [q 38 (.mv (.t 0)),
 q 39 (.call 64 [.t 38, .k (.int .i64 0), .k (.int .i64 1048576)] []),
 q 40 (.fadr 2 (.t 7)),
 ⟨.none, .store 1 (.t 40) (.t 39), .none, false⟩] false [0, 2, 6, 7, 8])
 (.seq (.reg [q 42 (.bin .eql (.t 20) (.k (.int .u8 108))),
 q 41 (.asg (.t 42))] false [0, 2, 6, 7, 8, 41])
 (.cond (.t 41) (.seq (.reg [q 43 (.mv (.t 0)),
 q 44 (.call 77 [.t 43] []),
 q 10 (.asg (.t 44))] false [0, 2, 6, 7, 8, 10])
 (.reg [q 45 (.fadr 5 (.t 7)),
 q 46 (.load false 1 (.t 45)),
 q 47 (.mv (.t 10)),
 q 48 (.bsl 1 1 [.int .i64 0] [(0, 1, .t 47)]),
 q 49 (.app 1 8 (.t 46) (.t 48)),
 q 50 (.fadr 5 (.t 7)),
 ⟨.none, .store 1 (.t 50) (.t 49), .none, false⟩] false [0, 2, 6, 7, 8]))
 (.skip) [0, 2, 6, 7, 8])) [0, 2, 6, 7, 8])) [0, 2, 6, 7, 8])) [0, 2, 6, 7, 8])) [0, 2, 6, 7, 8])) [0, 2, 6, 7, 8])
 (.reg [q 16 (.mv (.t 8)),
 q 17 (.bin .add (.t 16) (.k (.int .i64 1))),
 q 8 (.asg (.t 17))] false [0, 2, 6, 7, 8]))) [0, 2, 6, 7, 8]) [0, 6, 7]))
 (.seq (.reg [q 51 (.load true 8 (.t 7)),
 ⟨.none, .store 8 (.t 6) (.t 51), .none, false⟩] false [0, 6])
 (.ret)))), [0], false, true, .none⟩
def x77 : XF := ⟨1, 5, [.tmp 2],
  .seq (.reg [q 2 (.asg (.k (.int .i64 0)))] false [0])
 (.seq (.reg [q 3 (.mv (.t 0)),
 q 4 (.call 60 [.t 3, .k (.int .u8 98), .k (.int .i64 255), .k (.int .i64 7)] []),
 q 2 (.asg (.t 4))] false [0, 2])
 (.ret)), [0], false, true, .none⟩
def x60 : XF := ⟨4, 47, [.tmp 8],
  .seq (.reg [q 8 (.asg (.k (.int .i64 0)))] false [0, 1, 2, 3])
 (.seq (.reg [q 12 (.mv (.t 0)),
 q 13 (.call 50 [.t 12, .k (.int .i64 0)] []),
 q 9 (.asg (.t 13))] false [0, 1, 2, 3, 9])
 (.seq (.seq (.reg [q 14 (.mv (.t 9)),
 q 15 (.len true (.t 14)),
 q 16 (.bin .lss (.t 15) (.k (.int .i64 2))),
 q 17 (.mv (.t 16)),
 ⟨some 18, .mv (.t 9), some (17, false), false⟩,
 ⟨some 19, .idxs (.t 18) (.k (.int .i64 0)), some (17, false), false⟩,
 ⟨some 20, .mv (.t 1), some (17, false), false⟩,
 ⟨some 21, .bin .neq (.t 19) (.t 20), some (17, false), false⟩,
 q 22 (.pick (.t 17) (.k (.bool true)) (.t 21))] false [0, 2, 3, 9, 22])
 (.cond (.t 22) (.seq (.reg [q 23 (.mv (.t 0)),
 q 24 (.mv (.t 3)),
 q 25 (.call 43 [.t 23, .t 24] [])] false [0])
 (.seq (.reg [q 8 (.asg (.k (.int .i64 0)))] false [0, 8])
 (.ret)))
 (.skip) [0, 2, 3, 9]))
 (.seq (.reg [q 27 (.mv (.t 9)),
 q 28 (.slc 0 (.t 27) (some (.k (.int .i64 1))) .none),
 q 29 (.mv (.t 2)),
 q 30 (.call 71 [.t 28, .t 29] []),
 q 26 (.mv (.t 30)),
 q 31 (.ext (.t 26) 0),
 q 32 (.ext (.t 26) 1),
 q 10 (.asg (.t 31)),
 q 11 (.asg (.t 32))] false [0, 3, 10, 11])
 (.seq (.seq (.reg [q 33 (.mv (.t 11)),
 q 34 (.bin .neq (.t 33) (.k (.int .i64 0)))] false [0, 3, 10, 34])
 (.cond (.t 34) (.seq (.reg [q 35 (.mv (.t 0)),
 q 36 (.mv (.t 3)),
 q 37 (.call 43 [.t 35, .t 36] [])] false [0])
 (.seq (.reg [q 8 (.asg (.k (.int .i64 0)))] false [0, 8])
 (.ret)))
 (.skip) [0, 10]))
 (.seq (.reg [q 38 (.mv (.t 0)),
 q 39 (.mv (.t 0)),
 q 40 (.nilck (.t 39)),
 q 41 (.fadr 1 (.t 40)),
 q 42 (.load false 1 (.t 41)),
 q 43 (.bin .add (.t 42) (.k (.int .i64 1))),
 q 44 (.nilck (.t 38)),
 q 45 (.fadr 1 (.t 44)),
 ⟨.none, .store 1 (.t 45) (.t 43), .none, false⟩] false [0, 10])
 (.seq (.reg [q 46 (.mv (.t 10)),
 q 8 (.asg (.t 46))] false [0, 8])
 (.ret))))))), [0], false, true, .none⟩
def x71 : XF := ⟨2, 24, [.tmp 4, .tmp 5],
  .seq (.reg [q 4 (.asg (.k (.int .i64 0))),
 q 5 (.asg (.k (.int .i64 0)))] false [0, 1])
 (.seq (.reg [q 9 (.mv (.t 0)),
 q 10 (.call 74 [.t 9] []),
 q 8 (.mv (.t 10)),
 q 11 (.ext (.t 8) 0),
 q 12 (.ext (.t 8) 1),
 q 6 (.asg (.t 11)),
 q 7 (.asg (.t 12))] false [1, 6, 7])
 (.seq (.seq (.reg [q 13 (.mv (.t 7)),
 q 14 (.bin .neq (.t 13) (.k (.int .i64 0)))] false [1, 6, 7, 14])
 (.cond (.t 14) (.seq (.reg [q 15 (.mv (.t 7)),
 q 4 (.asg (.k (.int .i64 0))),
 q 5 (.asg (.t 15))] false [4, 5])
 (.ret))
 (.skip) [1, 6]))
 (.seq (.seq (.reg [q 16 (.mv (.t 6)),
 q 17 (.bin .lss (.t 16) (.k (.int .i64 0))),
 q 18 (.mv (.t 17)),
 ⟨some 19, .mv (.t 6), some (18, false), false⟩,
 ⟨some 20, .mv (.t 1), some (18, false), false⟩,
 ⟨some 21, .bin .gtr (.t 19) (.t 20), some (18, false), false⟩,
 q 22 (.pick (.t 18) (.k (.bool true)) (.t 21))] false [6, 22])
 (.cond (.t 22) (.seq (.reg [q 4 (.asg (.k (.int .i64 0))),
 q 5 (.asg (.k (.int .i64 18)))] false [4, 5])
 (.ret))
 (.skip) [6]))
 (.seq (.reg [q 23 (.mv (.t 6)),
 q 4 (.asg (.t 23)),
 q 5 (.asg (.k (.int .i64 0)))] false [4, 5])
 (.ret))))), [], false, true, .none⟩
def x74 : XF := ⟨1, 65, [.tmp 2, .tmp 3],
  .seq (.reg [q 2 (.asg (.k (.int .i64 0))),
 q 3 (.asg (.k (.int .i64 0)))] false [0])
 (.seq (.reg [q 9 (.mv (.t 0)),
 q 4 (.asg (.t 9))] false [0, 4])
 (.seq (.reg [q 5 (.asg (.k (.bool false)))] false [0, 4, 5])
 (.seq (.seq (.reg [q 10 (.mv (.t 0)),
 q 11 (.bin .neq (.t 10) (.k (.str []))),
 q 12 (.mv (.t 11)),
 ⟨some 13, .mv (.t 0), some (12, true), false⟩,
 ⟨some 14, .idxs (.t 13) (.k (.int .i64 0)), some (12, true), false⟩,
 ⟨some 15, .bin .eql (.t 14) (.k (.int .u8 45)), some (12, true), false⟩,
 q 16 (.pick (.t 12) (.t 15) (.k (.bool false)))] false [0, 4, 5, 16])
 (.cond (.t 16) (.seq (.reg [q 17 (.mv (.t 0)),
 q 18 (.slc 0 (.t 17) (some (.k (.int .i64 1))) .none),
 q 4 (.asg (.t 18))] false [4])
 (.reg [q 5 (.asg (.k (.bool true)))] false [4, 5]))
 (.skip) [4, 5]))
 (.seq (.seq (.reg [q 19 (.mv (.t 4)),
 q 20 (.call 79 [.t 19] []),
 q 21 (.un .not (.t 20)),
 q 22 (.mv (.t 21)),
 ⟨some 23, .mv (.t 5), some (22, false), false⟩,
 ⟨some 24, .mv (.t 23), some (22, false), false⟩,
 ⟨some 25, .mv (.t 4), some (24, true), false⟩,
 ⟨some 26, .bin .eql (.t 25) (.k (.str [48])), some (24, true), false⟩,
 ⟨some 27, .pick (.t 24) (.t 26) (.k (.bool false)), some (22, false), false⟩,
 q 28 (.pick (.t 22) (.k (.bool true)) (.t 27))] false [4, 5, 28])
 (.cond (.t 28) (.seq (.reg [q 2 (.asg (.k (.int .i64 0))),
 q 3 (.asg (.k (.int .i64 3)))] false [2, 3])
 (.ret))
 (.skip) [4, 5]))
 (.seq (.seq (.reg [q 29 (.mv (.t 5)),
 q 30 (.mv (.t 29)),
 ⟨some 31, .mv (.t 4), some (30, true), false⟩,
 ⟨some 32, .call 80 [.t 31, .k (.str [57, 50, 50, 51, 51, 55, 50, 48, 51, 54, 56, 53, 52, 55, 55, 53, 56, 48, 56])] [], some (30, true), false⟩,
 ⟨some 33, .un .not (.t 32), some (30, true), false⟩,
 q 34 (.pick (.t 30) (.t 33) (.k (.bool false))),
 q 35 (.mv (.t 34)),
 ⟨some 36, .mv (.t 5), some (35, false), false⟩,
 ⟨some 37, .un .not (.t 36), some (35, false), false⟩,
 ⟨some 38, .mv (.t 37), some (35, false), false⟩,
 ⟨some 39, .mv (.t 4), some (38, true), false⟩,
 ⟨some 40, .call 80 [.t 39, .k (.str [57, 50, 50, 51, 51, 55, 50, 48, 51, 54, 56, 53, 52, 55, 55, 53, 56, 48, 55])] [], some (38, true), false⟩,
 ⟨some 41, .un .not (.t 40), some (38, true), false⟩,
 ⟨some 42, .pick (.t 38) (.t 41) (.k (.bool false)), some (35, false), false⟩,
 q 43 (.pick (.t 35) (.k (.bool true)) (.t 42))] false [4, 5, 43])
 (.cond (.t 43) (.seq (.reg [q 2 (.asg (.k (.int .i64 0))),
 q 3 (.asg (.k (.int .i64 18)))] false [2, 3])
 (.ret))
 (.skip) [4, 5]))
 (.seq (.reg [q 6 (.asg (.k (.int .i64 0)))] false [4, 5, 6])
 (.seq (.seq (.reg [q 7 (.asg (.k (.int .i64 0)))] false [4, 5, 6, 7])
 (.block 0 (.loop (.seq (.seq (.reg [q 44 (.mv (.t 7)),
 q 45 (.mv (.t 4)),
 q 46 (.len true (.t 45)),
 q 47 (.bin .lss (.t 44) (.t 46))] false [4, 5, 6, 7, 47])
 (.cond (.t 47) (.skip)
 (.exit 0 [6]) [4, 5, 6, 7]))
 (.seq (.block 1 (.seq (.reg [q 50 (.mv (.t 4)),
 q 51 (.mv (.t 7)),
 q 52 (.idxs (.t 50) (.t 51)),
 q 53 (.conv .i64 (.t 52)),
 q 54 (.bin .sub (.t 53) (.k (.int .i64 48))),
 q 8 (.asg (.t 54))] false [4, 5, 6, 7, 8])
 (.seq (.reg [q 55 (.mv (.t 5))] false [4, 5, 6, 7, 8, 55])
 (.cond (.t 55) (.reg [q 56 (.mv (.t 6)),
 q 57 (.bin .mul (.t 56) (.k (.int .i64 10))),
 q 58 (.mv (.t 8)),
 q 59 (.bin .sub (.t 57) (.t 58)),
 q 6 (.asg (.t 59))] false [4, 5, 6, 7])
 (.reg [q 60 (.mv (.t 6)),
 q 61 (.bin .mul (.t 60) (.k (.int .i64 10))),
 q 62 (.mv (.t 8)),
 q 63 (.bin .add (.t 61) (.t 62)),
 q 6 (.asg (.t 63))] false [4, 5, 6, 7]) [4, 5, 6, 7]))) [4, 5, 6, 7])
 (.reg [q 48 (.mv (.t 7)),
 q 49 (.bin .add (.t 48) (.k (.int .i64 1))),
 q 7 (.asg (.t 49))] false [4, 5, 6, 7]))) [4, 5, 6, 7]) [6]))
 (.seq (.reg [q 64 (.mv (.t 6)),
 q 2 (.asg (.t 64)),
 q 3 (.asg (.k (.int .i64 0)))] false [2, 3])
 (.ret))))))))), [], false, true, .none⟩
def x80 : XF := ⟨2, 19, [.tmp 4],
  .seq (.reg [q 4 (.asg (.k (.bool false)))] false [0, 1])
 (.seq (.seq (.reg [q 5 (.mv (.t 0)),
 q 6 (.len true (.t 5)),
 q 7 (.mv (.t 1)),
 q 8 (.len true (.t 7)),
 q 9 (.bin .neq (.t 6) (.t 8))] false [0, 1, 9])
 (.cond (.t 9) (.seq (.reg [q 10 (.mv (.t 0)),
 q 11 (.len true (.t 10)),
 q 12 (.mv (.t 1)),
 q 13 (.len true (.t 12)),
 q 14 (.bin .lss (.t 11) (.t 13)),
 q 4 (.asg (.t 14))] false [4])
 (.ret))
 (.skip) [0, 1]))
 (.seq (.reg [q 15 (.mv (.t 0)),
 q 16 (.mv (.t 1)),
 q 17 (.call 81 [.t 15, .t 16] []),
 q 18 (.un .not (.t 17)),
 q 4 (.asg (.t 18))] false [4])
 (.ret))), [], false, true, .none⟩
def x81 : XF := ⟨2, 26, [.tmp 4],
  .seq (.reg [q 4 (.asg (.k (.bool false)))] false [0, 1])
 (.seq (.seq (.reg [q 5 (.asg (.k (.int .i64 0)))] false [0, 1, 5])
 (.block 0 (.loop (.seq (.seq (.reg [q 6 (.mv (.t 5)),
 q 7 (.mv (.t 0)),
 q 8 (.len true (.t 7)),
 q 9 (.bin .lss (.t 6) (.t 8))] false [0, 1, 5, 9])
 (.cond (.t 9) (.skip)
 (.exit 0 []) [0, 1, 5]))
 (.seq (.block 1 (.seq (.reg [q 12 (.mv (.t 0)),
 q 13 (.mv (.t 5)),
 q 14 (.idxs (.t 12) (.t 13)),
 q 15 (.mv (.t 1)),
 q 16 (.mv (.t 5)),
 q 17 (.idxs (.t 15) (.t 16)),
 ⟨some 18, .bin .neq (.t 14) (.t 17), .none, true⟩] true [0, 1, 5, 18])
 (.cond (.t 18) (.seq (.reg [q 19 (.mv (.t 0)),
 q 20 (.mv (.t 5)),
 q 21 (.idxs (.t 19) (.t 20)),
 q 22 (.mv (.t 1)),
 q 23 (.mv (.t 5)),
 q 24 (.idxs (.t 22) (.t 23)),
 ⟨some 25, .bin .gtr (.t 21) (.t 24), .none, true⟩,
 ⟨some 4, .asg (.t 25), .none, true⟩] true [4])
 (.ret))
 (.skip) [0, 1, 5])) [0, 1, 5])
 (.reg [q 10 (.mv (.t 5)),
 q 11 (.bin .add (.t 10) (.k (.int .i64 1))),
 q 5 (.asg (.t 11))] false [0, 1, 5]))) [0, 1, 5]) []))
 (.seq (.reg [q 4 (.asg (.k (.bool false)))] false [4])
 (.ret))), [], false, true, .none⟩
def x79 : XF := ⟨1, 32, [.tmp 2],
  .seq (.reg [q 2 (.asg (.k (.bool false)))] false [0])
 (.seq (.seq (.reg [q 4 (.mv (.t 0)),
 q 5 (.bin .eql (.t 4) (.k (.str []))),
 q 6 (.mv (.t 5)),
 ⟨some 7, .mv (.t 0), some (6, false), false⟩,
 ⟨some 8, .len true (.t 7), some (6, false), false⟩,
 ⟨some 9, .bin .gtr (.t 8) (.k (.int .i64 1)), some (6, false), false⟩,
 ⟨some 10, .mv (.t 9), some (6, false), false⟩,
 ⟨some 11, .mv (.t 0), some (10, true), false⟩,
 ⟨some 12, .idxs (.t 11) (.k (.int .i64 0)), some (10, true), false⟩,
 ⟨some 13, .bin .eql (.t 12) (.k (.int .u8 48)), some (10, true), false⟩,
 ⟨some 14, .pick (.t 10) (.t 13) (.k (.bool false)), some (6, false), false⟩,
 q 15 (.pick (.t 6) (.k (.bool true)) (.t 14))] false [0, 15])
 (.cond (.t 15) (.seq (.reg [q 2 (.asg (.k (.bool false)))] false [2])
 (.ret))
 (.skip) [0]))
 (.seq (.seq (.reg [q 3 (.asg (.k (.int .i64 0)))] false [0, 3])
 (.block 0 (.loop (.seq (.seq (.reg [q 16 (.mv (.t 3)),
 q 17 (.mv (.t 0)),
 q 18 (.len true (.t 17)),
 q 19 (.bin .lss (.t 16) (.t 18))] false [0, 3, 19])
 (.cond (.t 19) (.skip)
 (.exit 0 []) [0, 3]))
 (.seq (.block 1 (.seq (.reg [q 22 (.mv (.t 0)),
 q 23 (.mv (.t 3)),
 q 24 (.idxs (.t 22) (.t 23)),
 q 25 (.bin .lss (.t 24) (.k (.int .u8 48))),
 q 26 (.mv (.t 25)),
 ⟨some 27, .mv (.t 0), some (26, false), false⟩,
 ⟨some 28, .mv (.t 3), some (26, false), false⟩,
 ⟨some 29, .idxs (.t 27) (.t 28), some (26, false), false⟩,
 ⟨some 30, .bin .gtr (.t 29) (.k (.int .u8 57)), some (26, false), false⟩,
 q 31 (.pick (.t 26) (.k (.bool true)) (.t 30))] false [0, 3, 31])
 (.cond (.t 31) (.seq (.reg [q 2 (.asg (.k (.bool false)))] false [2])
 (.ret))
 (.skip) [0, 3])) [0, 3])
 (.reg [q 20 (.mv (.t 3)),
 q 21 (.bin .add (.t 20) (.k (.int .i64 1))),
 q 3 (.asg (.t 21))] false [0, 3]))) [0, 3]) []))
 (.seq (.reg [q 2 (.asg (.k (.bool true)))] false [2])
 (.ret)))), [], false, true, .none⟩
def x64 : XF := ⟨3, 41, [.tmp 6],
  .seq (.reg [q 6 (.asg (.k (.int .i64 0)))] false [0, 1, 2])
 (.seq (.reg [q 10 (.mv (.t 0)),
 q 11 (.call 50 [.t 10, .k (.int .i64 0)] []),
 q 12 (.call 74 [.t 11] []),
 q 9 (.mv (.t 12)),
 q 13 (.ext (.t 9) 0),
 q 14 (.ext (.t 9) 1),
 q 7 (.asg (.t 13)),
 q 8 (.asg (.t 14))] false [0, 1, 2, 7, 8])
 (.seq (.seq (.reg [q 15 (.mv (.t 8)),
 q 16 (.bin .eql (.t 15) (.k (.int .i64 0))),
 q 17 (.mv (.t 16)),
 ⟨some 18, .mv (.t 7), some (17, true), false⟩,
 ⟨some 19, .mv (.t 1), some (17, true), false⟩,
 ⟨some 20, .bin .lss (.t 18) (.t 19), some (17, true), false⟩,
 ⟨some 21, .mv (.t 20), some (17, true), false⟩,
 ⟨some 22, .mv (.t 7), some (21, false), false⟩,
 ⟨some 23, .mv (.t 2), some (21, false), false⟩,
 ⟨some 24, .bin .gtr (.t 22) (.t 23), some (21, false), false⟩,
 ⟨some 25, .pick (.t 21) (.k (.bool true)) (.t 24), some (17, true), false⟩,
 q 26 (.pick (.t 17) (.t 25) (.k (.bool false)))] false [0, 7, 8, 26])
 (.cond (.t 26) (.reg [q 8 (.asg (.k (.int .i64 18)))] false [0, 7, 8])
 (.skip) [0, 7, 8]))
 (.seq (.seq (.reg [q 27 (.mv (.t 8)),
 q 28 (.bin .neq (.t 27) (.k (.int .i64 0)))] false [0, 7, 8, 28])
 (.cond (.t 28) (.seq (.reg [q 29 (.mv (.t 0)),
 q 30 (.mv (.t 8)),
 q 31 (.call 43 [.t 29, .t 30] [])] false [0])
 (.seq (.reg [q 6 (.asg (.k (.int .i64 0)))] false [0, 6])
 (.ret)))
 (.skip) [0, 7]))
 (.seq (.reg [q 32 (.mv (.t 0)),
 q 33 (.mv (.t 0)),
 q 34 (.nilck (.t 33)),
 q 35 (.fadr 1 (.t 34)),
 q 36 (.load false 1 (.t 35)),
 q 37 (.bin .add (.t 36) (.k (.int .i64 1))),
 q 38 (.nilck (.t 32)),
 q 39 (.fadr 1 (.t 38)),
 ⟨.none, .store 1 (.t 39) (.t 37), .none, false⟩] false [0, 7])
 (.seq (.reg [q 40 (.mv (.t 7)),
 q 6 (.asg (.t 40))] false [0, 6])
 (.ret)))))), [0], false, true, .none⟩
def x56 : XF := ⟨1, 5, [.tmp 2],
  .seq (.reg [q 2 (.asg (.k (.int .i64 0)))] false [0])
 (.seq (.reg [q 3 (.mv (.t 0)),
 q 4 (.call 60 [.t 3, .k (.int .u8 37), .k (.int .i64 1048576), .k (.int .i64 8)] []),
 q 2 (.asg (.t 4))] false [0, 2])
 (.ret)), [0], false, true, .none⟩
def x70 : XF := ⟨1, 31, [.tmp 2],
  .seq (.reg [q 2 (.asg (.k (.str [])))] false [0])
 (.seq (.seq (.reg [q 5 (.mv (.t 0))] false [0, 5])
 (.block 0 (.seq (.seq (.reg [q 7 (.bin .eql (.t 5) (.k (.int .i64 11))),
 q 6 (.asg (.t 7))] false [0, 5, 6])
 (.cond (.t 6) (.skip)
 (.seq (.reg [q 8 (.bin .eql (.t 5) (.k (.int .i64 12))),
 q 6 (.asg (.t 8))] false [0, 5, 6])
 (.cond (.t 6) (.skip)
 (.reg [q 9 (.bin .eql (.t 5) (.k (.int .i64 15))),
 q 6 (.asg (.t 9))] false [0, 5, 6]) [0, 5, 6])) [0, 5, 6]))
 (.cond (.t 6) (.seq (.reg [q 2 (.asg (.k (.str [118, 115])))] false [2])
 (.ret))
 (.seq (.seq (.reg [q 11 (.bin .eql (.t 5) (.k (.int .i64 13))),
 q 10 (.asg (.t 11))] false [0, 5, 10])
 (.cond (.t 10) (.skip)
 (.reg [q 12 (.bin .eql (.t 5) (.k (.int .i64 14))),
 q 10 (.asg (.t 12))] false [0, 5, 10]) [0, 5, 10]))
 (.cond (.t 10) (.seq (.reg [q 2 (.asg (.k (.str [118, 115, 118])))] false [2])
 (.ret))
 (.seq (.reg [q 14 (.bin .eql (.t 5) (.k (.int .i64 23))),
 q 13 (.asg (.t 14))] false [0, 5, 13])
 (.cond (.t 13) (.seq (.reg [q 2 (.asg (.k (.str [110])))] false [2])
 (.ret))
 (.seq (.reg [q 16 (.bin .eql (.t 5) (.k (.int .i64 24))),
 q 15 (.asg (.t 16))] false [0, 5, 15])
 (.cond (.t 15) (.seq (.reg [q 2 (.asg (.k (.str [118, 110])))] false [2])
 (.ret))
 (.seq (.reg [q 18 (.bin .eql (.t 5) (.k (.int .i64 26))),
 q 17 (.asg (.t 18))] false [0, 5, 17])
 (.cond (.t 17) (.seq (.reg [q 2 (.asg (.k (.str [108])))] false [2])
 (.ret))
 (.seq (.reg [q 20 (.bin .eql (.t 5) (.k (.int .i64 27))),
 q 19 (.asg (.t 20))] false [0, 19])
 (.cond (.t 19) (.seq (.reg [q 2 (.asg (.k (.str [118, 108, 108])))] false [2])
 (.ret))
 (.skip) [0])) [0])) [0])) [0])) [0])) [0])) [0]))
 (.seq (.reg [q 3 (.asg (.k (.str [])))] false [0, 3])
 (.seq (.seq (.reg [q 4 (.asg (.k (.int .i64 0)))] false [0, 3, 4])
 (.block 1 (.loop (.seq (.seq (.reg [q 21 (.mv (.t 4)),
 q 22 (.mv (.t 0)),
 q 23 (.call 78 [.t 22] []),
 q 24 (.len false (.t 23)),
 q 25 (.bin .lss (.t 21) (.t 24))] false [0, 3, 4, 25])
 (.cond (.t 25) (.skip)
 (.exit 1 [3]) [0, 3, 4]))
 (.seq (.block 2 (.reg [q 28 (.mv (.t 3)),
 q 29 (.bin .add (.t 28) (.k (.str [118]))),
 q 3 (.asg (.t 29))] false [0, 3, 4]) [0, 3, 4])
 (.reg [q 26 (.mv (.t 4)),
 q 27 (.bin .add (.t 26) (.k (.int .i64 1))),
 q 4 (.asg (.t 27))] false [0, 3, 4]))) [0, 3, 4]) [3]))
 (.seq (.reg [q 30 (.mv (.t 3)),
 q 2 (.asg (.t 30))] false [2])
 (.ret))))), [], false, true, .none⟩
def x78 : XF := ⟨1, 38, [.tmp 2],
  .seq (.reg [q 2 (.asg (.k (.nils)))] false [0])
 (.seq (.seq (.reg [q 3 (.mv (.t 0)),
 q 4 (.bin .geq (.t 3) (.k (.int .i64 2))),
 q 5 (.mv (.t 4)),
 ⟨some 6, .mv (.t 0), some (5, true), false⟩,
 ⟨some 7, .bin .leq (.t 6) (.k (.int .i64 7)), some (5, true), false⟩,
 q 8 (.pick (.t 5) (.t 7) (.k (.bool false)))] false [0, 8])
 (.cond (.t 8) (.seq (.reg [q 9 (.bsl 1 2 [.int .i64 0] [(0, 1, .k (.int .i64 1)), (1, 1, .k (.int .i64 1))]),
 q 2 (.asg (.t 9))] false [2])
 (.ret))
 (.skip) [0]))
 (.seq (.seq (.reg [q 10 (.mv (.t 0))] false [10])
 (.block 0 (.seq (.seq (.reg [q 12 (.bin .eql (.t 10) (.k (.int .i64 9))),
 q 11 (.asg (.t 12))] false [10, 11])
 (.cond (.t 11) (.skip)
 (.reg [q 13 (.bin .eql (.t 10) (.k (.int .i64 14))),
 q 11 (.asg (.t 13))] false [10, 11]) [10, 11]))
 (.cond (.t 11) (.seq (.reg [q 14 (.bsl 1 2 [.int .i64 0] [(0, 1, .k (.int .i64 2)), (1, 1, .k (.int .i64 2))]),
 q 2 (.asg (.t 14))] false [2])
 (.ret))
 (.seq (.seq (.reg [q 16 (.bin .eql (.t 10) (.k (.int .i64 11))),
 q 15 (.asg (.t 16))] false [10, 15])
 (.cond (.t 15) (.skip)
 (.seq (.reg [q 17 (.bin .eql (.t 10) (.k (.int .i64 12))),
 q 15 (.asg (.t 17))] false [10, 15])
 (.cond (.t 15) (.skip)
 (.seq (.reg [q 18 (.bin .eql (.t 10) (.k (.int .i64 15))),
 q 15 (.asg (.t 18))] false [10, 15])
 (.cond (.t 15) (.skip)
 (.reg [q 19 (.bin .eql (.t 10) (.k (.int .i64 25))),
 q 15 (.asg (.t 19))] false [10, 15]) [10, 15])) [10, 15])) [10, 15]))
 (.cond (.t 15) (.seq (.reg [q 20 (.bsl 1 1 [.int .i64 0] [(0, 1, .k (.int .i64 2))]),
 q 2 (.asg (.t 20))] false [2])
 (.ret))
 (.seq (.reg [q 22 (.bin .eql (.t 10) (.k (.int .i64 13))),
 q 21 (.asg (.t 22))] false [10, 21])
 (.cond (.t 21) (.seq (.reg [q 23 (.bsl 1 2 [.int .i64 0] [(0, 1, .k (.int .i64 2)), (1, 1, .k (.int .i64 1))]),
 q 2 (.asg (.t 23))] false [2])
 (.ret))
 (.seq (.seq (.reg [q 25 (.bin .eql (.t 10) (.k (.int .i64 16))),
 q 24 (.asg (.t 25))] false [10, 24])
 (.cond (.t 24) (.skip)
 (.reg [q 26 (.bin .eql (.t 10) (.k (.int .i64 17))),
 q 24 (.asg (.t 26))] false [10, 24]) [10, 24]))
 (.cond (.t 24) (.seq (.reg [q 27 (.bsl 1 1 [.int .i64 0] [(0, 1, .k (.int .i64 3))]),
 q 2 (.asg (.t 27))] false [2])
 (.ret))
 (.seq (.reg [q 29 (.bin .eql (.t 10) (.k (.int .i64 18))),
 q 28 (.asg (.t 29))] false [10, 28])
 (.cond (.t 28) (.seq (.reg [q 30 (.bsl 1 2 [.int .i64 0] [(0, 1, .k (.int .i64 3)), (1, 1, .k (.int .i64 1))]),
 q 2 (.asg (.t 30))] false [2])
 (.ret))
 (.seq (.reg [q 32 (.bin .eql (.t 10) (.k (.int .i64 19))),
 q 31 (.asg (.t 32))] false [10, 31])
 (.cond (.t 31) (.seq (.reg [q 33 (.bsl 1 2 [.int .i64 0] [(0, 1, .k (.int .i64 3)), (1, 1, .k (.int .i64 2))]),
 q 2 (.asg (.t 33))] false [2])
 (.ret))
 (.seq (.seq (.reg [q 35 (.bin .eql (.t 10) (.k (.int .i64 22))),
 q 34 (.asg (.t 35))] false [10, 34])
 (.cond (.t 34) (.skip)
 (.reg [q 36 (.bin .eql (.t 10) (.k (.int .i64 27))),
 q 34 (.asg (.t 36))] false [34]) [34]))
 (.cond (.t 34) (.seq (.reg [q 37 (.bsl 1 1 [.int .i64 0] [(0, 1, .k (.int .i64 1))]),
 q 2 (.asg (.t 37))] false [2])
 (.ret))
 (.skip) [])) [])) [])) [])) [])) [])) [])) []))
 (.seq (.reg [q 2 (.asg (.k (.nils)))] false [2])
 (.ret)))), [], false, true, .none⟩
def x68 : XF := ⟨1, 18, [.tmp 2],
  .seq (.reg [q 2 (.asg (.k (.bool false)))] false [0])
 (.seq (.reg [q 4 (.mv (.t 0)),
 q 5 (.call 50 [.t 4, .k (.int .i64 0)] []),
 q 3 (.asg (.t 5))] false [0, 3])
 (.seq (.reg [q 6 (.mv (.t 3)),
 q 7 (.bin .neq (.t 6) (.k (.str []))),
 q 8 (.mv (.t 7)),
 ⟨some 9, .mv (.t 3), some (8, true), false⟩,
 ⟨some 10, .idxs (.t 9) (.k (.int .i64 0)), some (8, true), false⟩,
 ⟨some 11, .bin .eql (.t 10) (.k (.int .u8 37)), some (8, true), false⟩,
 q 12 (.pick (.t 8) (.t 11) (.k (.bool false))),
 q 13 (.mv (.t 12)),
 ⟨some 14, .mv (.t 0), some (13, true), false⟩,
 ⟨some 15, .call 50 [.t 14, .k (.int .i64 1)] [], some (13, true), false⟩,
 ⟨some 16, .bin .neq (.t 15) (.k (.str [61])), some (13, true), false⟩,
 q 17 (.pick (.t 13) (.t 16) (.k (.bool false))),
 q 2 (.asg (.t 17))] false [0, 2])
 (.ret))), [0], false, true, .none⟩
def x67 : XF := ⟨2, 35, [.cell 4 true 8],
  .seq (.reg [q 3 (.box (.t 1)),
 q 4 (.alloc [.int .i64 0, .int .i64 0, .int .i64 0, .int .i64 0, .nils, .nils, .str [], .int .i64 0])] false [0, 3, 4])
 (.seq (.reg [q 8 (.load true 8 (.t 3)),
 q 5 (.alloc [.int .i64 0, .int .i64 0, .int .i64 0, .int .i64 0, .nils, .nils, .str [], .int .i64 0]),
 ⟨.none, .store 8 (.t 5) (.t 8), .none, false⟩] false [0, 4, 5])
 (.seq (.reg [q 9 (.mv (.t 0)),
 q 10 (.call 50 [.t 9, .k (.int .i64 0)] []),
 q 6 (.asg (.t 10))] false [0, 4, 5, 6])
 (.seq (.seq (.reg [q 11 (.mv (.t 6)),
 q 12 (.bin .neq (.t 11) (.k (.str []))),
 q 13 (.mv (.t 12)),
 ⟨some 14, .mv (.t 6), some (13, true), false⟩,
 ⟨some 15, .idxs (.t 14) (.k (.int .i64 0)), some (13, true), false⟩,
 ⟨some 16, .bin .eql (.t 15) (.k (.int .u8 64)), some (13, true), false⟩,
 q 17 (.pick (.t 13) (.t 16) (.k (.bool false)))] false [0, 4, 5, 17])
 (.cond (.t 17) (.reg [q 18 (.mv (.t 0)),
 q 19 (.call 60 [.t 18, .k (.int .u8 64), .k (.int .i64 1048576), .k (.int .i64 3)] []),
 q 20 (.fadr 2 (.t 5)),
 ⟨.none, .store 1 (.t 20) (.t 19), .none, false⟩] false [0, 4, 5])
 (.skip) [0, 4, 5]))
 (.seq (.reg [q 21 (.mv (.t 0)),
 q 22 (.call 49 [.t 21] []),
 q 23 (.fadr 6 (.t 5)),
 ⟨.none, .store 1 (.t 23) (.t 22), .none, false⟩] false [0, 4, 5])
 (.seq (.block 0 (.loop (.seq (.seq (.reg [q 24 (.mv (.t 0)),
 q 25 (.call 68 [.t 24] [])] false [0, 4, 5, 25])
 (.cond (.t 25) (.skip)
 (.exit 0 [0, 4, 5]) [0, 4, 5]))
 (.block 1 (.seq (.reg [q 26 (.mv (.t 0)),
 q 27 (.call 56 [.t 26] []),
 q 7 (.asg (.t 27))] false [0, 4, 5, 7])
 (.reg [q 28 (.fadr 4 (.t 5)),
 q 29 (.load false 1 (.t 28)),
 q 30 (.mv (.t 7)),
 q 31 (.bsl 1 1 [.int .i64 0] [(0, 1, .t 30)]),
 q 32 (.app 1 8 (.t 29) (.t 31)),
 q 33 (.fadr 4 (.t 5)),
 ⟨.none, .store 1 (.t 33) (.t 32), .none, false⟩] false [0, 4, 5])) [0, 4, 5])) [0, 4, 5]) [0, 4, 5])
 (.seq (.reg [q 34 (.load true 8 (.t 5)),
 ⟨.none, .store 8 (.t 4) (.t 34), .none, false⟩] false [0, 4])
 (.ret))))))), [0], false, true, .none⟩
def x49 : XF := ⟨1, 20, [.tmp 2],
  .seq (.reg [q 2 (.asg (.k (.str [])))] false [0])
 (.seq (.reg [q 4 (.mv (.t 0)),
 q 5 (.call 50 [.t 4, .k (.int .i64 0)] []),
 q 3 (.asg (.t 5))] false [0, 3])
 (.seq (.seq (.reg [q 6 (.mv (.t 3)),
 q 7 (.call 53 [.t 6] []),
 q 8 (.un .not (.t 7))] false [0, 3, 8])
 (.cond (.t 8) (.seq (.reg [q 9 (.mv (.t 0)),
 q 10 (.call 43 [.t 9, .k (.int .i64 4)] [])] false [0])
 (.seq (.reg [q 2 (.asg (.k (.str [])))] false [0, 2])
 (.ret)))
 (.skip) [0, 3]))
 (.seq (.reg [q 11 (.mv (.t 0)),
 q 12 (.mv (.t 0)),
 q 13 (.nilck (.t 12)),
 q 14 (.fadr 1 (.t 13)),
 q 15 (.load false 1 (.t 14)),
 q 16 (.bin .add (.t 15) (.k (.int .i64 1))),
 q 17 (.nilck (.t 11)),
 q 18 (.fadr 1 (.t 17)),
 ⟨.none, .store 1 (.t 18) (.t 16), .none, false⟩] false [0, 3])
 (.seq (.reg [q 19 (.mv (.t 3)),
 q 2 (.asg (.t 19))] false [0, 2])
 (.ret))))), [0], false, true, .none⟩
def x53 : XF := ⟨1, 60, [.tmp 2],
  .seq (.reg [q 2 (.asg (.k (.bool false)))] false [0])
 (.seq (.seq (.reg [q 6 (.mv (.t 0)),
 q 7 (.len true (.t 6)),
 q 8 (.bin .lss (.t 7) (.k (.int .i64 1))),
 q 9 (.mv (.t 8)),
 ⟨some 10, .mv (.t 0), some (9, false), false⟩,
 ⟨some 11, .len true (.t 10), some (9, false), false⟩,
 ⟨some 12, .bin .gtr (.t 11) (.k (.int .i64 24)), some (9, false), false⟩,
 q 13 (.pick (.t 9) (.k (.bool true)) (.t 12))] false [0, 13])
 (.cond (.t 13) (.seq (.reg [q 2 (.asg (.k (.bool false)))] false [2])
 (.ret))
 (.skip) [0]))
 (.seq (.seq (.reg [q 3 (.asg (.k (.int .i64 0)))] false [0, 3])
 (.block 0 (.loop (.seq (.seq (.reg [q 14 (.mv (.t 3)),
 q 15 (.mv (.t 0)),
 q 16 (.len true (.t 15)),
 q 17 (.bin .lss (.t 14) (.t 16))] false [0, 3, 17])
 (.cond (.t 17) (.skip)
 (.exit 0 []) [0, 3]))
 (.seq (.block 1 (.seq (.reg [q 20 (.mv (.t 0)),
 q 21 (.mv (.t 3)),
 q 22 (.idxs (.t 20) (.t 21)),
 q 23 (.bin .geq (.t 22) (.k (.int .u8 97))),
 q 24 (.mv (.t 23)),
 ⟨some 25, .mv (.t 0), some (24, true), false⟩,
 ⟨some 26, .mv (.t 3), some (24, true), false⟩,
 ⟨some 27, .idxs (.t 25) (.t 26), some (24, true), false⟩,
 ⟨some 28, .bin .leq (.t 27) (.k (.int .u8 122)), some (24, true), false⟩,
 q 29 (.pick (.t 24) (.t 28) (.k (.bool false))),
 q 4 (.asg (.t 29))] false [0, 3, 4])
 (.seq (.reg [q 30 (.mv (.t 0)),
 q 31 (.mv (.t 3)),
 q 32 (.idxs (.t 30) (.t 31)),
 q 33 (.bin .geq (.t 32) (.k (.int .u8 48))),
 q 34 (.mv (.t 33)),
 ⟨some 35, .mv (.t 0), some (34, true), false⟩,
 ⟨some 36, .mv (.t 3), some (34, true), false⟩,
 ⟨some 37, .idxs (.t 35) (.t 36), some (34, true), false⟩,
 ⟨some 38, .bin .leq (.t 37) (.k (.int .u8 57)), some (34, true), false⟩,
 q 39 (.pick (.t 34) (.t 38) (.k (.bool false))),
 q 5 (.asg (.t 39))] false [0, 3, 4, 5])
 (.seq (.reg [q 40 (.mv (.t 4)),
 q 41 (.un .not (.t 40)),
 q 42 (.mv (.t 41)),
 ⟨some 43, .mv (.t 3), some (42, true), false⟩,
 ⟨some 44, .bin .eql (.t 43) (.k (.int .i64 0)), some (42, true), false⟩,
 q 45 (.pick (.t 42) (.t 44) (.k (.bool false))),
 q 46 (.mv (.t 45)),
 ⟨some 47, .mv (.t 4), some (46, false), false⟩,
 ⟨some 48, .un .not (.t 47), some (46, false), false⟩,
 ⟨some 49, .mv (.t 48), some (46, false), false⟩,
 ⟨some 50, .mv (.t 5), some (49, true), false⟩,
 ⟨some 51, .un .not (.t 50), some (49, true), false⟩,
 ⟨some 52, .pick (.t 49) (.t 51) (.k (.bool false)), some (46, false), false⟩,
 ⟨some 53, .mv (.t 52), some (46, false), false⟩,
 ⟨some 54, .mv (.t 0), some (53, true), false⟩,
 ⟨some 55, .mv (.t 3), some (53, true), false⟩,
 ⟨some 56, .idxs (.t 54) (.t 55), some (53, true), false⟩,
 ⟨some 57, .bin .neq (.t 56) (.k (.int .u8 95)), some (53, true), false⟩,
 ⟨some 58, .pick (.t 53) (.t 57) (.k (.bool false)), some (46, false), false⟩,
 q 59 (.pick (.t 46) (.k (.bool true)) (.t 58))] false [0, 3, 59])
 (.cond (.t 59) (.seq (.reg [q 2 (.asg (.k (.bool false)))] false [2])
 (.ret))
 (.skip) [0, 3])))) [0, 3])
 (.reg [q 18 (.mv (.t 3)),
 q 19 (.bin .add (.t 18) (.k (.int .i64 1))),
 q 3 (.asg (.t 19))] false [0, 3]))) [0, 3]) []))
 (.seq (.reg [q 2 (.asg (.k (.bool true)))] false [2])
 (.ret)))), [], false, true, .none⟩
def x66 : XF := ⟨2, 42, [.cell 4 true 8],
  .seq (.reg [q 3 (.box (.t 1)),
 q 4 (.alloc [.int .i64 0, .int .i64 0, .int .i64 0, .int .i64 0, .nils, .nils, .str [], .int .i64 0])] false [0, 3, 4])
 (.seq (.reg [q 8 (.load true 8 (.t 3)),
 q 5 (.alloc [.int .i64 0, .int .i64 0, .int .i64 0, .int .i64 0, .nils, .nils, .str [], .int .i64 0]),
 ⟨.none, .store 8 (.t 5) (.t 8), .none, false⟩] false [0, 4, 5])
 (.seq (.block 0 (.loop (.seq (.seq (.reg [q 9 (.mv (.t 0)),
 q 10 (.nilck (.t 9)),
 q 11 (.fadr 4 (.t 10)),
 q 12 (.fadr 0 (.t 11)),
 q 13 (.load false 1 (.t 12)),
 q 14 (.bin .eql (.t 13) (.k (.int .i64 0))),
 q 15 (.mv (.t 14)),
 ⟨some 16, .fadr 5 (.t 5), some (15, true), false⟩,
 ⟨some 17, .load false 1 (.t 16), some (15, true), false⟩,
 ⟨some 18, .len false (.t 17), some (15, true), false⟩,
 ⟨some 19, .bin .eql (.t 18) (.k (.int .i64 0)), some (15, true), false⟩,
 ⟨some 20, .mv (.t 19), some (15, true), false⟩,
 ⟨some 21, .mv (.t 0), some (20, false), false⟩,
 ⟨some 22, .call 76 [.t 21] [], some (20, false), false⟩,
 ⟨some 23, .pick (.t 20) (.k (.bool true)) (.t 22), some (15, true), false⟩,
 q 24 (.pick (.t 15) (.t 23) (.k (.bool false)))] false [0, 4, 5, 24])
 (.cond (.t 24) (.skip)
 (.exit 0 [0, 4, 5]) [0, 4, 5]))
 (.block 1 (.seq (.reg [q 25 (.mv (.t 0)),
 q 26 (.call 77 [.t 25] []),
 q 6 (.asg (.t 26))] false [0, 4, 5, 6])
 (.seq (.reg [q 27 (.mv (.t 0)),
 q 28 (.call 56 [.t 27] []),
 q 7 (.asg (.t 28))] false [0, 4, 5, 6, 7])
 (.seq (.reg [q 29 (.fadr 5 (.t 5)),
 q 30 (.load false 1 (.t 29)),
 q 31 (.mv (.t 6)),
 q 32 (.bsl 1 1 [.int .i64 0] [(0, 1, .t 31)]),
 q 33 (.app 1 8 (.t 30) (.t 32)),
 q 34 (.fadr 5 (.t 5)),
 ⟨.none, .store 1 (.t 34) (.t 33), .none, false⟩] false [0, 4, 5, 7])
 (.reg [q 35 (.fadr 4 (.t 5)),
 q 36 (.load false 1 (.t 35)),
 q 37 (.mv (.t 7)),
 q 38 (.bsl 1 1 [.int .i64 0] [(0, 1, .t 37)]),
 q 39 (.app 1 8 (.t 36) (.t 38)),
 q 40 (.fadr 4 (.t 5)),
 ⟨.none, .store 1 (.t 40) (.t 39), .none, false⟩] false [0, 4, 5])))) [0, 4, 5])) [0, 4, 5]) [0, 4, 5])
 (.seq (.reg [q 41 (.load true 8 (.t 5)),
 ⟨.none, .store 8 (.t 4) (.t 41), .none, false⟩] false [0, 4])
 (.ret)))), [0], false, true, .none⟩
def x76 : XF := ⟨1, 22, [.tmp 2],
  .seq (.reg [q 2 (.asg (.k (.bool false)))] false [0])
 (.seq (.reg [q 4 (.mv (.t 0)),
 q 5 (.call 50 [.t 4, .k (.int .i64 0)] []),
 q 3 (.asg (.t 5))] false [0, 3])
 (.seq (.reg [q 6 (.mv (.t 3)),
 q 7 (.bin .neq (.t 6) (.k (.str []))),
 q 8 (.mv (.t 7)),
 ⟨some 9, .mv (.t 3), some (8, true), false⟩,
 ⟨some 10, .idxs (.t 9) (.k (.int .i64 0)), some (8, true), false⟩,
 ⟨some 11, .bin .eql (.t 10) (.k (.int .u8 98)), some (8, true), false⟩,
 q 12 (.pick (.t 8) (.t 11) (.k (.bool false))),
 q 13 (.mv (.t 12)),
 ⟨some 14, .mv (.t 3), some (13, true), false⟩,
 ⟨some 15, .bin .neq (.t 14) (.k (.str [98, 114])), some (13, true), false⟩,
 q 16 (.pick (.t 13) (.t 15) (.k (.bool false))),
 q 17 (.mv (.t 16)),
 ⟨some 18, .mv (.t 0), some (17, true), false⟩,
 ⟨some 19, .call 50 [.t 18, .k (.int .i64 1)] [], some (17, true), false⟩,
 ⟨some 20, .bin .neq (.t 19) (.k (.str [58])), some (17, true), false⟩,
 q 21 (.pick (.t 17) (.t 20) (.k (.bool false))),
 q 2 (.asg (.t 21))] false [0, 2])
 (.ret))), [0], false, true, .none⟩
def x65 : XF := ⟨1, 46, [.cell 2 true 2, .tmp 3],
  .seq (.reg [q 2 (.alloc [.int .i64 0, .int .i64 0]),
 q 3 (.asg (.k (.int .i64 0)))] false [0, 2])
 (.seq (.seq (.reg [q 6 (.mv (.t 0)),
 q 7 (.bin .eql (.t 6) (.k (.str [46])))] false [0, 2, 7])
 (.cond (.t 7) (.seq (.reg [q 8 (.build [.int .i64 0, .int .i64 0] []),
 ⟨.none, .store 2 (.t 2) (.t 8), .none, false⟩,
 q 3 (.asg (.k (.int .i64 0)))] false [2, 3])
 (.ret))
 (.skip) [0, 2]))
 (.seq (.seq (.reg [q 9 (.mv (.t 0)),
 q 10 (.bin .eql (.t 9) (.k (.str []))),
 q 11 (.mv (.t 10)),
 ⟨some 12, .mv (.t 0), some (11, false), false⟩,
 ⟨some 13, .len true (.t 12), some (11, false), false⟩,
 ⟨some 14, .bin .gtr (.t 13) (.k (.int .i64 16)), some (11, false), false⟩,
 q 15 (.pick (.t 11) (.k (.bool true)) (.t 14))] false [0, 2, 15])
 (.cond (.t 15) (.seq (.reg [q 16 (.build [.int .i64 0, .int .i64 0] []),
 ⟨.none, .store 2 (.t 2) (.t 16), .none, false⟩,
 q 3 (.asg (.k (.int .i64 16)))] false [2, 3])
 (.ret))
 (.skip) [0, 2]))
 (.seq (.reg [q 4 (.asg (.k (.int .i64 0)))] false [0, 2, 4])
 (.seq (.seq (.reg [q 5 (.asg (.k (.int .i64 0)))] false [0, 2, 4, 5])
 (.block 0 (.loop (.seq (.seq (.reg [q 17 (.mv (.t 5)),
 q 18 (.mv (.t 0)),
 q 19 (.len true (.t 18)),
 q 20 (.bin .lss (.t 17) (.t 19))] false [0, 2, 4, 5, 20])
 (.cond (.t 20) (.skip)
 (.exit 0 [0, 2, 4]) [0, 2, 4, 5]))
 (.seq (.block 1 (.seq (.seq (.reg [q 23 (.mv (.t 0)),
 q 24 (.mv (.t 5)),
 q 25 (.idxs (.t 23) (.t 24)),
 q 26 (.bin .neq (.t 25) (.k (.int .u8 105))),
 q 27 (.mv (.t 26)),
 ⟨some 28, .mv (.t 0), some (27, true), false⟩,
 ⟨some 29, .mv (.t 5), some (27, true), false⟩,
 ⟨some 30, .idxs (.t 28) (.t 29), some (27, true), false⟩,
 ⟨some 31, .bin .neq (.t 30) (.k (.int .u8 112)), some (27, true), false⟩,
 q 32 (.pick (.t 27) (.t 31) (.k (.bool false)))] false [0, 2, 4, 5, 32])
 (.cond (.t 32) (.seq (.reg [q 33 (.build [.int .i64 0, .int .i64 0] []),
 ⟨.none, .store 2 (.t 2) (.t 33), .none, false⟩,
 q 3 (.asg (.k (.int .i64 16)))] false [2, 3])
 (.ret))
 (.skip) [0, 2, 4, 5]))
 (.seq (.reg [q 34 (.mv (.t 0)),
 q 35 (.mv (.t 5)),
 q 36 (.idxs (.t 34) (.t 35)),
 q 37 (.bin .eql (.t 36) (.k (.int .u8 112)))] false [0, 2, 4, 5, 37])
 (.cond (.t 37) (.reg [q 38 (.mv (.t 4)),
 q 39 (.mv (.t 5)),
 q 40 (.call 75 [.t 39] []),
 q 41 (.bin .add (.t 38) (.t 40)),
 q 4 (.asg (.t 41))] false [0, 2, 4, 5])
 (.skip) [0, 2, 4, 5]))) [0, 2, 4, 5])
 (.reg [q 21 (.mv (.t 5)),
 q 22 (.bin .add (.t 21) (.k (.int .i64 1))),
 q 5 (.asg (.t 22))] false [0, 2, 4, 5]))) [0, 2, 4, 5]) [0, 2, 4]))
 (.seq (.reg [q 42 (.mv (.t 0)),
 q 43 (.len true (.t 42)),
 q 44 (.mv (.t 4)),
 q 45 (.build [.int .i64 0, .int .i64 0] [(0, 1, .t 43), (1, 1, .t 44)]),
 ⟨.none, .store 2 (.t 2) (.t 45), .none, false⟩,
 q 3 (.asg (.k (.int .i64 0)))] false [2, 3])
 (.ret)))))), [], false, true, .none⟩
def x75 : XF := ⟨1, 13, [.tmp 2],
  .seq (.reg [q 2 (.asg (.k (.int .i64 0)))] false [0])
 (.seq (.reg [q 3 (.asg (.k (.int .i64 1)))] false [0, 3])
 (.seq (.seq (.reg [q 4 (.asg (.k (.int .i64 0)))] false [0, 3, 4])
 (.block 0 (.loop (.seq (.seq (.reg [q 5 (.mv (.t 4)),
 q 6 (.mv (.t 0)),
 q 7 (.bin .lss (.t 5) (.t 6))] false [0, 3, 4, 7])
 (.cond (.t 7) (.skip)
 (.exit 0 [3]) [0, 3, 4]))
 (.seq (.block 1 (.reg [q 10 (.mv (.t 3)),
 q 11 (.bin .mul (.t 10) (.k (.int .i64 2))),
 q 3 (.asg (.t 11))] false [0, 3, 4]) [0, 3, 4])
 (.reg [q 8 (.mv (.t 4)),
 q 9 (.bin .add (.t 8) (.k (.int .i64 1))),
 q 4 (.asg (.t 9))] false [0, 3, 4]))) [0, 3, 4]) [3]))
 (.seq (.reg [q 12 (.mv (.t 3)),
 q 2 (.asg (.t 12))] false [2])
 (.ret)))), [], false, true, .none⟩
def x58 : XF := ⟨1, 28, [.tmp 2],
  .seq (.reg [q 1 (.box (.t 0)),
 q 2 (.asg (.k (.int .i64 0)))] false [1])
 (.seq (.seq (.reg [q 3 (.fadr 0 (.t 1)),
 q 4 (.load false 1 (.t 3)),
 q 5 (.call 63 [.t 4] [])] false [1, 5])
 (.cond (.t 5) (.seq (.reg [q 6 (.fadr 3 (.t 1)),
 q 7 (.load false 1 (.t 6)),
 q 2 (.asg (.t 7))] false [2])
 (.ret))
 (.skip) [1]))
 (.seq (.seq (.reg [q 8 (.fadr 0 (.t 1)),
 q 9 (.load false 1 (.t 8))] false [9])
 (.block 0 (.seq (.seq (.reg [q 11 (.bin .eql (.t 9) (.k (.int .i64 1))),
 q 10 (.asg (.t 11))] false [9, 10])
 (.cond (.t 10) (.skip)
 (.seq (.reg [q 12 (.bin .eql (.t 9) (.k (.int .i64 2))),
 q 10 (.asg (.t 12))] false [9, 10])
 (.cond (.t 10) (.skip)
 (.seq (.reg [q 13 (.bin .eql (.t 9) (.k (.int .i64 3))),
 q 10 (.asg (.t 13))] false [9, 10])
 (.cond (.t 10) (.skip)
 (.seq (.reg [q 14 (.bin .eql (.t 9) (.k (.int .i64 4))),
 q 10 (.asg (.t 14))] false [9, 10])
 (.cond (.t 10) (.skip)
 (.seq (.reg [q 15 (.bin .eql (.t 9) (.k (.int .i64 5))),
 q 10 (.asg (.t 15))] false [9, 10])
 (.cond (.t 10) (.skip)
 (.seq (.reg [q 16 (.bin .eql (.t 9) (.k (.int .i64 6))),
 q 10 (.asg (.t 16))] false [9, 10])
 (.cond (.t 10) (.skip)
 (.seq (.reg [q 17 (.bin .eql (.t 9) (.k (.int .i64 7))),
 q 10 (.asg (.t 17))] false [9, 10])
 (.cond (.t 10) (.skip)
 (.seq (.reg [q 18 (.bin .eql (.t 9) (.k (.int .i64 9))),
 q 10 (.asg (.t 18))] false [9, 10])
 (.cond (.t 10) (.skip)
 (.seq (.reg [q 19 (.bin .eql (.t 9) (.k (.int .i64 11))),
 q 10 (.asg (.t 19))] false [9, 10])
 (.cond (.t 10) (.skip)
 (.reg [q 20 (.bin .eql (.t 9) (.k (.int .i64 16))),
 q 10 (.asg (.t 20))] false [9, 10]) [9, 10])) [9, 10])) [9, 10])) [9, 10])) [9, 10])) [9, 10])) [9, 10])) [9, 10])) [9, 10]))
 (.cond (.t 10) (.seq (.reg [q 2 (.asg (.k (.int .i64 1)))] false [2])
 (.ret))
 (.seq (.seq (.reg [q 22 (.bin .eql (.t 9) (.k (.int .i64 8))),
 q 21 (.asg (.t 22))] false [9, 21])
 (.cond (.t 21) (.skip)
 (.seq (.reg [q 23 (.bin .eql (.t 9) (.k (.int .i64 10))),
 q 21 (.asg (.t 23))] false [9, 21])
 (.cond (.t 21) (.skip)
 (.seq (.reg [q 24 (.bin .eql (.t 9) (.k (.int .i64 12))),
 q 21 (.asg (.t 24))] false [9, 21])
 (.cond (.t 21) (.skip)
 (.reg [q 25 (.bin .eql (.t 9) (.k (.int .i64 17))),
 q 21 (.asg (.t 25))] false [9, 21]) [9, 21])) [9, 21])) [9, 21]))
 (.cond (.t 21) (.seq (.reg [q 2 (.asg (.k (.int .i64 2)))] false [2])
 (.ret))
 (.seq (.reg [q 27 (.bin .eql (.t 9) (.k (.int .i64 15))),
 q 26 (.asg (.t 27))] false [26])
 (.cond (.t 26) (.seq (.reg [q 2 (.asg (.k (.int .i64 3)))] false [2])
 (.ret))
 (.skip) [])) [])) [])) []))
 (.seq (.reg [q 2 (.asg (.k (.int .i64 0)))] false [2])
 (.ret)))), [], false, true, .none⟩
def x63 : XF := ⟨1, 13, [.tmp 2],
  .seq (.reg [q 2 (.asg (.k (.bool false)))] false [0])
 (.seq (.reg [q 3 (.mv (.t 0)),
 q 4 (.bin .eql (.t 3) (.k (.int .i64 20))),
 q 5 (.mv (.t 4)),
 ⟨some 6, .mv (.t 0), some (5, false), false⟩,
 ⟨some 7, .bin .eql (.t 6) (.k (.int .i64 21)), some (5, false), false⟩,
 q 8 (.pick (.t 5) (.k (.bool true)) (.t 7)),
 q 9 (.mv (.t 8)),
 ⟨some 10, .mv (.t 0), some (9, false), false⟩,
 ⟨some 11, .bin .eql (.t 10) (.k (.int .i64 24)), some (9, false), false⟩,
 q 12 (.pick (.t 9) (.k (.bool true)) (.t 11)),
 q 2 (.asg (.t 12))] false [2])
 (.ret)), [], false, true, .none⟩
def x57 : XF := ⟨1, 29, [.tmp 2, .tmp 3],
  .seq (.reg [q 2 (.asg (.k (.int .i64 0))),
 q 3 (.asg (.k (.int .i64 0)))] false [0])
 (.seq (.seq (.reg [q 6 (.mv (.t 0)),
 q 7 (.bin .eql (.t 6) (.k (.str [])))] false [0, 7])
 (.cond (.t 7) (.seq (.reg [q 2 (.asg (.k (.int .i64 0))),
 q 3 (.asg (.k (.int .i64 0)))] false [2, 3])
 (.ret))
 (.skip) [0]))
 (.seq (.seq (.reg [q 4 (.asg (.k (.int .i64 1)))] false [0, 4])
 (.block 0 (.loop (.seq (.seq (.reg [q 8 (.mv (.t 4)),
 q 9 (.bin .leq (.t 8) (.k (.int .i64 29)))] false [0, 4, 9])
 (.cond (.t 9) (.skip)
 (.exit 0 []) [0, 4]))
 (.seq (.block 1 (.seq (.reg [q 5 (.asg (.k (.int .i64 0)))] false [0, 4, 5])
 (.block 2 (.loop (.seq (.seq (.reg [q 12 (.mv (.t 5)),
 q 13 (.bin .leq (.t 12) (.k (.int .i64 3)))] false [0, 4, 5, 13])
 (.cond (.t 13) (.skip)
 (.exit 2 [0, 4]) [0, 4, 5]))
 (.seq (.block 3 (.seq (.reg [q 16 (.mv (.t 4)),
 q 17 (.mv (.t 5)),
 q 18 (.call 61 [.t 16, .t 17] []),
 q 19 (.mv (.t 18)),
 ⟨some 20, .mv (.t 4), some (19, true), false⟩,
 ⟨some 21, .mv (.t 5), some (19, true), false⟩,
 ⟨some 22, .build [.int .i64 0, .int .i64 0, .int .i64 0, .int .i64 0, .nils, .nils, .str [], .int .i64 0] [(0, 1, .t 20), (3, 1, .t 21)], some (19, true), false⟩,
 ⟨some 23, .call 62 [.t 22] [], some (19, true), false⟩,
 ⟨some 24, .mv (.t 0), some (19, true), false⟩,
 ⟨some 25, .bin .eql (.t 23) (.t 24), some (19, true), false⟩,
 q 26 (.pick (.t 19) (.t 25) (.k (.bool false)))] false [0, 4, 5, 26])
 (.cond (.t 26) (.seq (.reg [q 27 (.mv (.t 4)),
 q 28 (.mv (.t 5)),
 q 2 (.asg (.t 27)),
 q 3 (.asg (.t 28))] false [2, 3])
 (.ret))
 (.skip) [0, 4, 5])) [0, 4, 5])
 (.reg [q 14 (.mv (.t 5)),
 q 15 (.bin .add (.t 14) (.k (.int .i64 1))),
 q 5 (.asg (.t 15))] false [0, 4, 5]))) [0, 4, 5]) [0, 4])) [0, 4])
 (.reg [q 10 (.mv (.t 4)),
 q 11 (.bin .add (.t 10) (.k (.int .i64 1))),
 q 4 (.asg (.t 11))] false [0, 4]))) [0, 4]) []))
 (.seq (.reg [q 2 (.asg (.k (.int .i64 0))),
 q 3 (.asg (.k (.int .i64 0)))] false [2, 3])
 (.ret)))), [], false, true, .none⟩
def x62 : XF := ⟨1, 17, [.tmp 2],
  .seq (.reg [q 1 (.box (.t 0)),
 q 2 (.asg (.k (.str [])))] false [1])
 (.seq (.seq (.reg [q 3 (.fadr 0 (.t 1)),
 q 4 (.load false 1 (.t 3)),
 q 5 (.call 63 [.t 4] [])] false [1, 5])
 (.cond (.t 5) (.seq (.reg [q 6 (.fadr 0 (.t 1)),
 q 7 (.load false 1 (.t 6)),
 q 8 (.call 72 [.t 7] []),
 q 9 (.bin .add (.t 8) (.k (.str [46]))),
 q 10 (.fadr 3 (.t 1)),
 q 11 (.load false 1 (.t 10)),
 q 12 (.call 73 [.t 11] []),
 ⟨some 13, .bin .add (.t 9) (.t 12), .none, true⟩,
 ⟨some 2, .asg (.t 13), .none, true⟩] true [2])
 (.ret))
 (.skip) [1]))
 (.seq (.reg [q 14 (.fadr 0 (.t 1)),
 q 15 (.load false 1 (.t 14)),
 q 16 (.call 72 [.t 15] []),
 q 2 (.asg (.t 16))] false [2])
 (.ret))), [], false, true, .none⟩
def x72 : XF := ⟨1, 15, [.tmp 2],
  .seq (.reg [q 2 (.asg (.k (.str [])))] false [0])
 (.seq (.reg [q 4 (.bsl 1 30 [.str []] [(0, 1, .k (.str [])), (1, 1, .k (.str [99, 111, 110, 115, 116])), (2, 1, .k (.str [97, 100, 100])), (3, 1, .k (.str [115, 117, 98])), (4, 1, .k (.str [109, 117, 108])), (5, 1, .k (.str [100, 105, 118])), (6, 1, .k (.str [108, 116])), (7, 1, .k (.str [101, 113])), (8, 1, .k (.str [110, 105, 108])), (9, 1, .k (.str [115, 97, 109, 101])), (10, 1, .k (.str [110, 101, 119])), (11, 1, .k (.str [108, 111, 97, 100, 46, 105])), (12, 1, .k (.str [108, 111, 97, 100, 46, 112])), (13, 1, .k (.str [115, 116, 111, 114, 101, 46, 105])), (14, 1, .k (.str [115, 116, 111, 114, 101, 46, 112])), (15, 1, .k (.str [115, 108, 111, 116])), (16, 1, .k (.str [103, 101, 116, 46, 105])), (17, 1, .k (.str [103, 101, 116, 46, 112])), (18, 1, .k (.str [112, 117, 116, 46, 105])), (19, 1, .k (.str [112, 117, 116, 46, 112])), (20, 1, .k (.str [112, 104, 105])), (21, 1, .k (.str [99, 97, 108, 108])), (22, 1, .k (.str [111, 117, 116])), (23, 1, .k (.str [112, 111, 108, 108])), (24, 1, .k (.str [114, 101, 108, 111, 99])), (25, 1, .k (.str [109, 97, 114, 107])), (26, 1, .k (.str [98, 114])), (27, 1, .k (.str [105, 102])), (28, 1, .k (.str [114, 101, 116])), (29, 1, .k (.str [102, 97, 105, 108]))]),
 q 3 (.asg (.t 4))] false [0, 3])
 (.seq (.seq (.reg [q 5 (.mv (.t 0)),
 q 6 (.bin .lss (.t 5) (.k (.int .i64 1))),
 q 7 (.mv (.t 6)),
 ⟨some 8, .mv (.t 0), some (7, false), false⟩,
 ⟨some 9, .bin .gtr (.t 8) (.k (.int .i64 29)), some (7, false), false⟩,
 q 10 (.pick (.t 7) (.k (.bool true)) (.t 9))] false [0, 3, 10])
 (.cond (.t 10) (.seq (.reg [q 2 (.asg (.k (.str [])))] false [2])
 (.ret))
 (.skip) [0, 3]))
 (.seq (.reg [q 11 (.mv (.t 3)),
 q 12 (.mv (.t 0)),
 q 13 (.iadr 1 .none (.t 11) (.t 12)),
 q 14 (.load false 1 (.t 13)),
 q 2 (.asg (.t 14))] false [2])
 (.ret)))), [], false, true, .none⟩
def x73 : XF := ⟨1, 9, [.tmp 2],
  .seq (.reg [q 2 (.asg (.k (.str [])))] false [0])
 (.seq (.seq (.reg [q 3 (.mv (.t 0)),
 q 4 (.bin .eql (.t 3) (.k (.int .i64 1)))] false [0, 4])
 (.cond (.t 4) (.seq (.reg [q 2 (.asg (.k (.str [105])))] false [2])
 (.ret))
 (.skip) [0]))
 (.seq (.seq (.reg [q 5 (.mv (.t 0)),
 q 6 (.bin .eql (.t 5) (.k (.int .i64 2)))] false [0, 6])
 (.cond (.t 6) (.seq (.reg [q 2 (.asg (.k (.str [112])))] false [2])
 (.ret))
 (.skip) [0]))
 (.seq (.seq (.reg [q 7 (.mv (.t 0)),
 q 8 (.bin .eql (.t 7) (.k (.int .i64 3)))] false [8])
 (.cond (.t 8) (.seq (.reg [q 2 (.asg (.k (.str [100])))] false [2])
 (.ret))
 (.skip) []))
 (.seq (.reg [q 2 (.asg (.k (.str [110])))] false [2])
 (.ret))))), [], false, true, .none⟩
def x61 : XF := ⟨2, 31, [.tmp 4],
  .seq (.reg [q 4 (.asg (.k (.bool false)))] false [0, 1])
 (.seq (.seq (.reg [q 5 (.mv (.t 0)),
 q 6 (.bin .eql (.t 5) (.k (.int .i64 20)))] false [0, 1, 6])
 (.cond (.t 6) (.seq (.reg [q 7 (.mv (.t 1)),
 q 8 (.bin .geq (.t 7) (.k (.int .i64 1))),
 q 9 (.mv (.t 8)),
 ⟨some 10, .mv (.t 1), some (9, true), false⟩,
 ⟨some 11, .bin .leq (.t 10) (.k (.int .i64 3)), some (9, true), false⟩,
 q 12 (.pick (.t 9) (.t 11) (.k (.bool false))),
 q 4 (.asg (.t 12))] false [4])
 (.ret))
 (.skip) [0, 1]))
 (.seq (.seq (.reg [q 13 (.mv (.t 0)),
 q 14 (.bin .eql (.t 13) (.k (.int .i64 21)))] false [0, 1, 14])
 (.cond (.t 14) (.seq (.reg [q 15 (.mv (.t 1)),
 q 16 (.bin .geq (.t 15) (.k (.int .i64 0))),
 q 17 (.mv (.t 16)),
 ⟨some 18, .mv (.t 1), some (17, true), false⟩,
 ⟨some 19, .bin .leq (.t 18) (.k (.int .i64 2)), some (17, true), false⟩,
 q 20 (.pick (.t 17) (.t 19) (.k (.bool false))),
 q 4 (.asg (.t 20))] false [4])
 (.ret))
 (.skip) [0, 1]))
 (.seq (.seq (.reg [q 21 (.mv (.t 0)),
 q 22 (.bin .eql (.t 21) (.k (.int .i64 24)))] false [1, 22])
 (.cond (.t 22) (.seq (.reg [q 23 (.mv (.t 1)),
 q 24 (.bin .eql (.t 23) (.k (.int .i64 2))),
 q 25 (.mv (.t 24)),
 ⟨some 26, .mv (.t 1), some (25, false), false⟩,
 ⟨some 27, .bin .eql (.t 26) (.k (.int .i64 3)), some (25, false), false⟩,
 q 28 (.pick (.t 25) (.k (.bool true)) (.t 27)),
 q 4 (.asg (.t 28))] false [4])
 (.ret))
 (.skip) [1]))
 (.seq (.reg [q 29 (.mv (.t 1)),
 q 30 (.bin .eql (.t 29) (.k (.int .i64 0))),
 q 4 (.asg (.t 30))] false [4])
 (.ret))))), [], false, true, .none⟩
def x54 : XF := ⟨1, 31, [.tmp 2],
  .seq (.reg [q 2 (.asg (.k (.str [])))] false [0])
 (.seq (.seq (.reg [q 6 (.mv (.t 0)),
 q 7 (.bin .eql (.t 6) (.k (.int .i64 0)))] false [0, 7])
 (.cond (.t 7) (.seq (.reg [q 2 (.asg (.k (.str [48])))] false [2])
 (.ret))
 (.skip) [0]))
 (.seq (.reg [q 3 (.asg (.k (.str [])))] false [0, 3])
 (.seq (.reg [q 8 (.mv (.t 0)),
 q 4 (.asg (.t 8))] false [0, 3, 4])
 (.seq (.block 0 (.loop (.seq (.seq (.reg [q 9 (.mv (.t 4)),
 q 10 (.bin .neq (.t 9) (.k (.int .i64 0)))] false [0, 3, 4, 10])
 (.cond (.t 10) (.skip)
 (.exit 0 [0, 3]) [0, 3, 4]))
 (.block 1 (.seq (.reg [q 11 (.mv (.t 4)),
 q 12 (.bin .rem (.t 11) (.k (.int .i64 10))),
 q 5 (.asg (.t 12))] false [0, 3, 4, 5])
 (.seq (.seq (.reg [q 13 (.mv (.t 5)),
 q 14 (.bin .lss (.t 13) (.k (.int .i64 0)))] false [0, 3, 4, 5, 14])
 (.cond (.t 14) (.reg [q 15 (.mv (.t 5)),
 q 16 (.bin .sub (.k (.int .i64 0)) (.t 15)),
 q 5 (.asg (.t 16))] false [0, 3, 4, 5])
 (.skip) [0, 3, 4, 5]))
 (.seq (.reg [q 17 (.mv (.t 5)),
 q 18 (.bin .add (.k (.int .i64 48)) (.t 17)),
 q 19 (.conv .u8 (.t 18)),
 q 20 (.bsl 1 1 [.int .u8 0] [(0, 1, .t 19)]),
 q 21 (.b2s (.t 20)),
 q 22 (.mv (.t 3)),
 q 23 (.bin .add (.t 21) (.t 22)),
 q 3 (.asg (.t 23))] false [0, 3, 4])
 (.reg [q 24 (.mv (.t 4)),
 q 25 (.bin .quo (.t 24) (.k (.int .i64 10))),
 q 4 (.asg (.t 25))] false [0, 3, 4])))) [0, 3, 4])) [0, 3, 4]) [0, 3])
 (.seq (.seq (.reg [q 26 (.mv (.t 0)),
 q 27 (.bin .lss (.t 26) (.k (.int .i64 0)))] false [3, 27])
 (.cond (.t 27) (.seq (.reg [q 28 (.mv (.t 3)),
 q 29 (.bin .add (.k (.str [45])) (.t 28)),
 q 2 (.asg (.t 29))] false [2])
 (.ret))
 (.skip) [3]))
 (.seq (.reg [q 30 (.mv (.t 3)),
 q 2 (.asg (.t 30))] false [2])
 (.ret))))))), [], false, true, .none⟩
def x51 : XF := ⟨1, 9, [.tmp 2],
  .seq (.reg [q 2 (.asg (.k (.int .i64 0)))] false [0])
 (.seq (.seq (.reg [q 3 (.mv (.t 0)),
 q 4 (.bin .eql (.t 3) (.k (.str [110])))] false [0, 4])
 (.cond (.t 4) (.seq (.reg [q 2 (.asg (.k (.int .i64 0)))] false [2])
 (.ret))
 (.skip) [0]))
 (.seq (.seq (.reg [q 5 (.mv (.t 0)),
 q 6 (.bin .eql (.t 5) (.k (.str [105])))] false [0, 6])
 (.cond (.t 6) (.seq (.reg [q 2 (.asg (.k (.int .i64 1)))] false [2])
 (.ret))
 (.skip) [0]))
 (.seq (.seq (.reg [q 7 (.mv (.t 0)),
 q 8 (.bin .eql (.t 7) (.k (.str [112])))] false [8])
 (.cond (.t 8) (.seq (.reg [q 2 (.asg (.k (.int .i64 2)))] false [2])
 (.ret))
 (.skip) []))
 (.seq (.reg [q 2 (.asg (.k (.int .i64 (-1))))] false [2])
 (.ret))))), [], false, true, .none⟩
def x42 : XF := ⟨1, 80, [.tmp 2, .cell 3 true 2],
  .seq (.reg [q 2 (.asg (.k (.nils))),
 q 3 (.alloc [.int .i64 0, .int .i64 0])] false [0, 3])
 (.seq (.seq (.reg [q 8 (.mv (.t 0)),
 q 9 (.len true (.t 8)),
 q 10 (.bin .gtr (.t 9) (.k (.int .i64 65536)))] false [0, 3, 10])
 (.cond (.t 10) (.seq (.reg [q 11 (.build [.int .i64 0, .int .i64 0] [(0, 1, .k (.int .i64 6)), (1, 1, .k (.int .i64 65536))]),
 q 2 (.asg (.k (.nils))),
 ⟨.none, .store 2 (.t 3) (.t 11), .none, false⟩] false [2, 3])
 (.ret))
 (.skip) [0, 3]))
 (.seq (.reg [q 4 (.asg (.k (.nils)))] false [0, 3, 4])
 (.seq (.reg [q 5 (.asg (.k (.int .i64 0)))] false [0, 3, 4, 5])
 (.seq (.block 0 (.loop (.seq (.seq (.reg [q 12 (.mv (.t 5)),
 q 13 (.mv (.t 0)),
 q 14 (.len true (.t 13)),
 q 15 (.bin .lss (.t 12) (.t 14))] false [0, 3, 4, 5, 15])
 (.cond (.t 15) (.skip)
 (.exit 0 [3, 4]) [0, 3, 4, 5]))
 (.block 1 (.seq (.reg [q 16 (.mv (.t 0)),
 q 17 (.mv (.t 5)),
 q 18 (.idxs (.t 16) (.t 17)),
 q 6 (.asg (.t 18))] false [0, 3, 4, 5, 6])
 (.seq (.reg [q 19 (.mv (.t 6)),
 q 20 (.call 46 [.t 19, .k (.str [32, 9, 10, 13])] [])] false [0, 3, 4, 5, 6, 20])
 (.cond (.t 20) (.reg [q 21 (.mv (.t 5)),
 q 22 (.bin .add (.t 21) (.k (.int .i64 1))),
 q 5 (.asg (.t 22))] false [0, 3, 4, 5])
 (.seq (.reg [q 23 (.mv (.t 6)),
 q 24 (.bin .eql (.t 23) (.k (.int .u8 35)))] false [0, 3, 4, 5, 6, 24])
 (.cond (.t 24) (.block 2 (.loop (.seq (.seq (.reg [q 25 (.mv (.t 5)),
 q 26 (.mv (.t 0)),
 q 27 (.len true (.t 26)),
 q 28 (.bin .lss (.t 25) (.t 27)),
 q 29 (.mv (.t 28)),
 ⟨some 30, .mv (.t 0), some (29, true), false⟩,
 ⟨some 31, .mv (.t 5), some (29, true), false⟩,
 ⟨some 32, .idxs (.t 30) (.t 31), some (29, true), false⟩,
 ⟨some 33, .bin .neq (.t 32) (.k (.int .u8 10)), some (29, true), false⟩,
 q 34 (.pick (.t 29) (.t 33) (.k (.bool false)))] false [0, 3, 4, 5, 34])
 (.cond (.t 34) (.skip)
 (.exit 2 [0, 3, 4, 5]) [0, 3, 4, 5]))
 (.block 3 (.reg [q 35 (.mv (.t 5)),
 q 36 (.bin .add (.t 35) (.k (.int .i64 1))),
 q 5 (.asg (.t 36))] false [0, 3, 4, 5]) [0, 3, 4, 5])) [0, 3, 4, 5]) [0, 3, 4, 5])
 (.seq (.reg [q 37 (.mv (.t 6)),
 q 38 (.call 46 [.t 37, .k (.str [40, 41, 123, 125, 61, 58])] [])] false [0, 3, 4, 5, 6, 38])
 (.cond (.t 38) (.seq (.reg [q 39 (.mv (.t 4)),
 q 40 (.mv (.t 0)),
 q 41 (.mv (.t 5)),
 q 42 (.mv (.t 5)),
 q 43 (.bin .add (.t 42) (.k (.int .i64 1))),
 q 44 (.slc 0 (.t 40) (some (.t 41)) (some (.t 43))),
 q 45 (.mv (.t 5)),
 q 46 (.build [.str [], .int .i64 0] [(0, 1, .t 44), (1, 1, .t 45)]),
 q 47 (.bsl 2 1 [.str [], .int .i64 0] [(0, 2, .t 46)]),
 q 48 (.app 2 24 (.t 39) (.t 47)),
 q 4 (.asg (.t 48))] false [0, 3, 4, 5])
 (.reg [q 49 (.mv (.t 5)),
 q 50 (.bin .add (.t 49) (.k (.int .i64 1))),
 q 5 (.asg (.t 50))] false [0, 3, 4, 5]))
 (.seq (.reg [q 51 (.mv (.t 6)),
 q 52 (.call 47 [.t 51] [])] false [0, 3, 4, 5, 52])
 (.cond (.t 52) (.seq (.reg [q 53 (.mv (.t 5)),
 q 7 (.asg (.t 53))] false [0, 3, 4, 5, 7])
 (.seq (.block 4 (.loop (.seq (.seq (.reg [q 54 (.mv (.t 7)),
 q 55 (.mv (.t 0)),
 q 56 (.len true (.t 55)),
 q 57 (.bin .lss (.t 54) (.t 56)),
 q 58 (.mv (.t 57)),
 ⟨some 59, .mv (.t 0), some (58, true), false⟩,
 ⟨some 60, .mv (.t 7), some (58, true), false⟩,
 ⟨some 61, .idxs (.t 59) (.t 60), some (58, true), false⟩,
 ⟨some 62, .call 47 [.t 61] [], some (58, true), false⟩,
 q 63 (.pick (.t 58) (.t 62) (.k (.bool false)))] false [0, 3, 4, 5, 7, 63])
 (.cond (.t 63) (.skip)
 (.exit 4 [0, 3, 4, 5, 7]) [0, 3, 4, 5, 7]))
 (.block 5 (.reg [q 64 (.mv (.t 7)),
 q 65 (.bin .add (.t 64) (.k (.int .i64 1))),
 q 7 (.asg (.t 65))] false [0, 3, 4, 5, 7]) [0, 3, 4, 5, 7])) [0, 3, 4, 5, 7]) [0, 3, 4, 5, 7])
 (.seq (.reg [q 66 (.mv (.t 4)),
 q 67 (.mv (.t 0)),
 q 68 (.mv (.t 5)),
 q 69 (.mv (.t 7)),
 q 70 (.slc 0 (.t 67) (some (.t 68)) (some (.t 69))),
 q 71 (.mv (.t 5)),
 q 72 (.build [.str [], .int .i64 0] [(0, 1, .t 70), (1, 1, .t 71)]),
 q 73 (.bsl 2 1 [.str [], .int .i64 0] [(0, 2, .t 72)]),
 q 74 (.app 2 24 (.t 66) (.t 73)),
 q 4 (.asg (.t 74))] false [0, 3, 4, 7])
 (.reg [q 75 (.mv (.t 7)),
 q 5 (.asg (.t 75))] false [0, 3, 4, 5]))))
 (.seq (.reg [q 76 (.mv (.t 5)),
 q 77 (.build [.int .i64 0, .int .i64 0] [(0, 1, .k (.int .i64 1)), (1, 1, .t 76)]),
 q 2 (.asg (.k (.nils))),
 ⟨.none, .store 2 (.t 3) (.t 77), .none, false⟩] false [2, 3])
 (.ret)) [0, 3, 4, 5])) [0, 3, 4, 5])) [0, 3, 4, 5])) [0, 3, 4, 5]))) [0, 3, 4, 5])) [0, 3, 4, 5]) [3, 4])
 (.seq (.reg [q 78 (.mv (.t 4)),
 q 79 (.build [.int .i64 0, .int .i64 0] []),
 q 2 (.asg (.t 78)),
 ⟨.none, .store 2 (.t 3) (.t 79), .none, false⟩] false [2, 3])
 (.ret)))))), [], false, true, .none⟩
def x47 : XF := ⟨1, 29, [.tmp 2],
  .seq (.reg [q 2 (.asg (.k (.bool false)))] false [0])
 (.seq (.reg [q 3 (.mv (.t 0)),
 q 4 (.bin .geq (.t 3) (.k (.int .u8 97))),
 q 5 (.mv (.t 4)),
 ⟨some 6, .mv (.t 0), some (5, true), false⟩,
 ⟨some 7, .bin .leq (.t 6) (.k (.int .u8 122)), some (5, true), false⟩,
 q 8 (.pick (.t 5) (.t 7) (.k (.bool false))),
 q 9 (.mv (.t 8)),
 ⟨some 10, .mv (.t 0), some (9, false), false⟩,
 ⟨some 11, .bin .geq (.t 10) (.k (.int .u8 65)), some (9, false), false⟩,
 ⟨some 12, .mv (.t 11), some (9, false), false⟩,
 ⟨some 13, .mv (.t 0), some (12, true), false⟩,
 ⟨some 14, .bin .leq (.t 13) (.k (.int .u8 90)), some (12, true), false⟩,
 ⟨some 15, .pick (.t 12) (.t 14) (.k (.bool false)), some (9, false), false⟩,
 q 16 (.pick (.t 9) (.k (.bool true)) (.t 15)),
 q 17 (.mv (.t 16)),
 ⟨some 18, .mv (.t 0), some (17, false), false⟩,
 ⟨some 19, .bin .geq (.t 18) (.k (.int .u8 48)), some (17, false), false⟩,
 ⟨some 20, .mv (.t 19), some (17, false), false⟩,
 ⟨some 21, .mv (.t 0), some (20, true), false⟩,
 ⟨some 22, .bin .leq (.t 21) (.k (.int .u8 57)), some (20, true), false⟩,
 ⟨some 23, .pick (.t 20) (.t 22) (.k (.bool false)), some (17, false), false⟩,
 q 24 (.pick (.t 17) (.k (.bool true)) (.t 23)),
 q 25 (.mv (.t 24)),
 ⟨some 26, .mv (.t 0), some (25, false), false⟩,
 ⟨some 27, .call 46 [.t 26, .k (.str [46, 37, 64, 45, 95])] [], some (25, false), false⟩,
 q 28 (.pick (.t 25) (.k (.bool true)) (.t 27)),
 q 2 (.asg (.t 28))] false [2])
 (.ret)), [], false, true, .none⟩
def x46 : XF := ⟨2, 17, [.tmp 4],
  .seq (.reg [q 4 (.asg (.k (.bool false)))] false [0, 1])
 (.seq (.seq (.reg [q 5 (.asg (.k (.int .i64 0)))] false [0, 1, 5])
 (.block 0 (.loop (.seq (.seq (.reg [q 6 (.mv (.t 5)),
 q 7 (.mv (.t 1)),
 q 8 (.len true (.t 7)),
 q 9 (.bin .lss (.t 6) (.t 8))] false [0, 1, 5, 9])
 (.cond (.t 9) (.skip)
 (.exit 0 []) [0, 1, 5]))
 (.seq (.block 1 (.seq (.reg [q 12 (.mv (.t 1)),
 q 13 (.mv (.t 5)),
 q 14 (.idxs (.t 12) (.t 13)),
 q 15 (.mv (.t 0)),
 q 16 (.bin .eql (.t 14) (.t 15))] false [0, 1, 5, 16])
 (.cond (.t 16) (.seq (.reg [q 4 (.asg (.k (.bool true)))] false [4])
 (.ret))
 (.skip) [0, 1, 5])) [0, 1, 5])
 (.reg [q 10 (.mv (.t 5)),
 q 11 (.bin .add (.t 10) (.k (.int .i64 1))),
 q 5 (.asg (.t 11))] false [0, 1, 5]))) [0, 1, 5]) []))
 (.seq (.reg [q 4 (.asg (.k (.bool false)))] false [4])
 (.ret))), [], false, true, .none⟩
def tt : TT := (.node 42 x42 (.node 22 x22 (.node 12 x12 (.node 7 x7 (.node 5 x5 (.node 4 x4 (.node 3 x3 .leaf .leaf) .leaf) (.node 6 x6 .leaf .leaf)) (.node 10 x10 (.node 9 x9 (.node 8 x8 .leaf .leaf) .leaf) (.node 11 x11 .leaf .leaf))) (.node 17 x17 (.node 15 x15 (.node 14 x14 (.node 13 x13 .leaf .leaf) .leaf) (.node 16 x16 .leaf .leaf)) (.node 20 x20 (.node 19 x19 (.node 18 x18 .leaf .leaf) .leaf) (.node 21 x21 .leaf .leaf)))) (.node 32 x32 (.node 27 x27 (.node 25 x25 (.node 24 x24 (.node 23 x23 .leaf .leaf) .leaf) (.node 26 x26 .leaf .leaf)) (.node 30 x30 (.node 29 x29 (.node 28 x28 .leaf .leaf) .leaf) (.node 31 x31 .leaf .leaf))) (.node 37 x37 (.node 35 x35 (.node 34 x34 (.node 33 x33 .leaf .leaf) .leaf) (.node 36 x36 .leaf .leaf)) (.node 40 x40 (.node 39 x39 (.node 38 x38 .leaf .leaf) .leaf) (.node 41 x41 .leaf .leaf))))) (.node 62 x62 (.node 52 x52 (.node 47 x47 (.node 45 x45 (.node 44 x44 (.node 43 x43 .leaf .leaf) .leaf) (.node 46 x46 .leaf .leaf)) (.node 50 x50 (.node 49 x49 (.node 48 x48 .leaf .leaf) .leaf) (.node 51 x51 .leaf .leaf))) (.node 57 x57 (.node 55 x55 (.node 54 x54 (.node 53 x53 .leaf .leaf) .leaf) (.node 56 x56 .leaf .leaf)) (.node 60 x60 (.node 59 x59 (.node 58 x58 .leaf .leaf) .leaf) (.node 61 x61 .leaf .leaf)))) (.node 72 x72 (.node 67 x67 (.node 65 x65 (.node 64 x64 (.node 63 x63 .leaf .leaf) .leaf) (.node 66 x66 .leaf .leaf)) (.node 70 x70 (.node 69 x69 (.node 68 x68 .leaf .leaf) .leaf) (.node 71 x71 .leaf .leaf))) (.node 77 x77 (.node 75 x75 (.node 74 x74 (.node 73 x73 .leaf .leaf) .leaf) (.node 76 x76 .leaf .leaf)) (.node 80 x80 (.node 79 x79 (.node 78 x78 .leaf .leaf) .leaf) (.node 81 x81 .leaf .leaf))))))
def T : Nat → Option XF := tt.get
def hintsOf : Nat → List Hint
  | 7 => [⟨[1, 2], 2, false⟩, ⟨[1, 2, 5], 4, false⟩, ⟨[1, 2, 5, 6], 1, false⟩, ⟨[1, 2, 5, 6, 23], 10, false⟩, ⟨[5], 0, false⟩, ⟨[1, 2, 5, 6], 0, false⟩, ⟨[1, 2, 5, 6, 7], 7, false⟩, ⟨[1, 2, 5, 6, 7], 15, false⟩, ⟨[1, 2, 5, 6, 7, 8], 1, false⟩, ⟨[1, 2, 5, 6, 7, 8, 54], 10, false⟩, ⟨[1, 2, 5, 6], 0, false⟩, ⟨[1, 2, 5, 6, 7, 8], 0, false⟩, ⟨[1, 2, 5, 6, 7, 8, 9], 1, false⟩, ⟨[1, 2, 5, 6, 7, 8, 9, 69], 13, false⟩, ⟨[1, 2, 5, 6, 7, 8], 0, false⟩, ⟨[1, 2, 5, 6, 7, 8, 9], 0, false⟩, ⟨[1, 2, 5, 6, 7, 8, 9, 10], 10, false⟩, ⟨[1, 2, 5, 6, 7, 8, 9], 18, false⟩, ⟨[1, 2, 5, 6, 7, 8, 9], 0, false⟩, ⟨[1, 2, 5, 6, 7, 8, 9], 3, false⟩, ⟨[1, 2, 5, 6, 7, 8, 9], 0, false⟩, ⟨[1, 2, 5, 6, 7, 8], 0, false⟩, ⟨[1, 2, 5, 6, 7, 8], 0, false⟩, ⟨[1, 2, 5, 6, 7, 8], 3, false⟩, ⟨[1, 2, 5, 6, 7, 8], 0, false⟩, ⟨[1, 2, 5, 6], 0, false⟩, ⟨[1, 2, 5, 6], 0, false⟩, ⟨[1, 2, 5, 6], 3, false⟩, ⟨[1, 2, 5, 6], 0, false⟩, ⟨[5], 0, false⟩, ⟨[4], 2, false⟩]
  | 45 => [⟨[0], 1, false⟩, ⟨[0], 50, false⟩]
  | 39 => [⟨[0, 2], 1, false⟩, ⟨[0, 2, 8], 6, false⟩, ⟨[2], 2, false⟩, ⟨[0, 2], 0, false⟩, ⟨[2], 4, false⟩]
  | 28 => [⟨[0], 1, false⟩, ⟨[2], 4, false⟩]
  | 30 => [⟨[0, 1], 1, false⟩, ⟨[1, 3], 10, false⟩]
  | 40 => [⟨[0, 1], 1, false⟩, ⟨[0, 1, 7, 8], 3, false⟩, ⟨[0, 1, 7, 8, 9], 1, false⟩, ⟨[], 0, false⟩, ⟨[0, 1, 7, 8], 0, false⟩, ⟨[0, 1, 5, 7, 8], 2, false⟩, ⟨[0, 1, 5, 7, 8, 16], 6, false⟩, ⟨[4], 2, false⟩, ⟨[0, 1, 7, 8], 0, false⟩, ⟨[0, 1, 7, 8], 0, false⟩, ⟨[0, 1, 7, 8], 2, false⟩, ⟨[0, 1, 7, 8], 0, false⟩, ⟨[], 0, false⟩, ⟨[4], 1, false⟩]
  | 29 => [⟨[0, 1], 1, false⟩, ⟨[4], 5, false⟩]
  | 9 => [⟨[1, 2], 2, false⟩, ⟨[1, 2, 10], 4, false⟩, ⟨[2], 2, false⟩, ⟨[1, 2], 0, false⟩, ⟨[1, 2, 13, 14, 15], 4, false⟩, ⟨[1, 2, 13, 14, 15, 16], 1, false⟩, ⟨[2], 0, false⟩, ⟨[1, 2, 13, 14, 15], 0, false⟩, ⟨[1, 2, 3, 4, 13, 14, 15], 5, false⟩, ⟨[1, 2, 3, 4, 13, 14, 15, 20, 21, 22], 3, false⟩, ⟨[1, 2, 3, 4, 13, 14, 15, 20, 21, 22, 23], 1, false⟩, ⟨[1, 2, 3, 4, 13, 14, 15], 0, false⟩, ⟨[1, 2, 3, 4, 13, 14, 15, 20, 21, 22], 0, false⟩, ⟨[1, 2, 3, 4, 5, 6, 13, 14, 15, 20, 21, 22], 6, false⟩, ⟨[1, 2, 3, 4, 6, 13, 14, 15, 20, 21, 22, 35], 9, false⟩, ⟨[2], 3, false⟩, ⟨[1, 2, 3, 4, 6, 13, 14, 15, 20, 21, 22], 0, false⟩, ⟨[1, 2, 3, 4, 13, 14, 15, 20, 21, 22, 46], 9, false⟩, ⟨[2], 3, false⟩, ⟨[1, 2, 3, 4, 13, 14, 15, 20, 21, 22], 0, false⟩, ⟨[1, 2, 3, 4, 13, 14, 15, 20, 21, 22], 0, false⟩, ⟨[1, 2, 3, 4, 13, 14, 15, 20, 21, 22], 2, false⟩, ⟨[1, 2, 3, 4, 13, 14, 15, 20, 21, 22], 0, false⟩, ⟨[1, 2, 3, 4, 13, 14, 15], 0, false⟩, ⟨[1, 2, 3, 13, 14, 15, 52], 3, false⟩, ⟨[2], 3, false⟩, ⟨[1, 2, 13, 14, 15], 0, false⟩, ⟨[1, 2, 13, 14, 15], 0, false⟩, ⟨[1, 2, 13, 14, 15], 2, false⟩, ⟨[1, 2, 13, 14, 15], 0, false⟩, ⟨[2], 0, false⟩, ⟨[2], 2, false⟩]
  | 31 => [⟨[0], 1, false⟩, ⟨[2], 7, false⟩]
  | 10 => [⟨[1, 2], 2, false⟩, ⟨[1, 2, 11], 4, false⟩, ⟨[2], 2, false⟩, ⟨[1, 2], 0, false⟩, ⟨[1, 2, 3], 1, false⟩, ⟨[1, 2, 3, 17], 5, false⟩, ⟨[2], 0, false⟩, ⟨[1, 2, 3], 0, false⟩, ⟨[1, 2, 3, 4], 7, false⟩, ⟨[1, 2, 3, 4, 5], 1, false⟩, ⟨[1, 2, 3, 4, 5, 28], 3, false⟩, ⟨[1, 2, 3, 4], 0, false⟩, ⟨[1, 2, 3, 4, 5], 0, false⟩, ⟨[1, 2, 3, 4, 5, 6], 10, false⟩, ⟨[1, 2, 3, 4, 5, 6, 46], 8, false⟩, ⟨[2], 3, false⟩, ⟨[1, 2, 3, 4, 5, 6], 0, false⟩, ⟨[1, 2, 3, 4, 5, 6, 7], 1, false⟩, ⟨[1, 2, 3, 4, 5, 6, 7, 58], 10, false⟩, ⟨[1, 2, 3, 4, 5], 0, false⟩, ⟨[1, 2, 3, 4, 5, 6, 7], 0, false⟩, ⟨[1, 2, 3, 4, 5, 6, 7, 77], 15, false⟩, ⟨[2], 3, false⟩, ⟨[1, 2, 3, 4, 5, 6, 7], 0, false⟩, ⟨[1, 2, 3, 4, 5, 6, 7], 0, false⟩, ⟨[1, 2, 3, 4, 5, 6, 7], 3, false⟩, ⟨[1, 2, 3, 4, 5, 6, 7], 0, false⟩, ⟨[1, 2, 3, 4, 5], 0, false⟩, ⟨[1, 2, 3, 4, 5], 0, false⟩, ⟨[1, 2, 3, 4, 5], 3, false⟩, ⟨[1, 2, 3, 4, 5], 0, false⟩, ⟨[1, 2, 3, 4], 0, false⟩, ⟨[1, 2, 3, 81], 2, false⟩, ⟨[2], 3, false⟩, ⟨[1, 2, 3], 0, false⟩, ⟨[1, 2, 3], 0, false⟩, ⟨[1, 2, 3], 3, false⟩, ⟨[1, 2, 3], 0, false⟩, ⟨[2], 0, false⟩, ⟨[2], 2, false⟩]
  | 3 => [⟨[1], 2, false⟩, ⟨[1, 7], 5, false⟩, ⟨[2], 2, false⟩, ⟨[1], 0, false⟩, ⟨[2], 3, false⟩]
  | 11 => [⟨[1], 2, false⟩, ⟨[1, 10], 4, false⟩, ⟨[2], 1, false⟩, ⟨[1], 0, false⟩, ⟨[1, 3], 1, false⟩, ⟨[1, 3, 4], 1, false⟩, ⟨[1, 3, 4, 15], 5, false⟩, ⟨[1], 0, false⟩, ⟨[1, 3, 4], 0, false⟩, ⟨[1, 3, 4], 9, false⟩, ⟨[1, 3, 4, 27], 2, false⟩, ⟨[2], 1, false⟩, ⟨[1, 3, 4], 0, false⟩, ⟨[1, 3, 4, 5], 1, false⟩, ⟨[1, 3, 4, 5, 35], 8, false⟩, ⟨[1, 3, 4], 0, false⟩, ⟨[1, 3, 4, 5], 0, false⟩, ⟨[1, 3, 4, 5, 6], 10, false⟩, ⟨[1, 3, 4, 5, 61], 16, false⟩, ⟨[2], 1, false⟩, ⟨[1, 3, 4, 5], 0, false⟩, ⟨[1, 3, 4, 5], 0, false⟩, ⟨[1, 3, 4, 5], 3, false⟩, ⟨[1, 3, 4, 5], 0, false⟩, ⟨[1, 3, 4], 0, false⟩, ⟨[1, 3, 4], 0, false⟩, ⟨[1, 3, 4], 3, false⟩, ⟨[1, 3, 4], 0, false⟩, ⟨[1], 0, false⟩, ⟨[65], 4, false⟩, ⟨[2], 1, false⟩, ⟨[], 0, false⟩, ⟨[2], 1, false⟩]
  | 41 => [⟨[0, 1], 1, false⟩, ⟨[0, 1, 7, 8], 3, false⟩, ⟨[0, 1, 7, 8, 9], 1, false⟩, ⟨[], 0, false⟩, ⟨[0, 1, 7, 8], 0, false⟩, ⟨[0, 1, 5, 7, 8], 2, false⟩, ⟨[0, 1, 5, 7, 8, 16], 6, false⟩, ⟨[4], 2, false⟩, ⟨[0, 1, 7, 8], 0, false⟩, ⟨[0, 1, 7, 8], 0, false⟩, ⟨[0, 1, 7, 8], 2, false⟩, ⟨[0, 1, 7, 8], 0, false⟩, ⟨[], 0, false⟩, ⟨[4], 1, false⟩]
  | 32 => [⟨[0, 1], 1, false⟩, ⟨[4], 5, false⟩]
  | 13 => [⟨[1], 2, false⟩, ⟨[1, 3], 5, false⟩, ⟨[1, 3, 13, 14, 15], 4, false⟩, ⟨[1, 3, 13, 14, 15, 16], 1, false⟩, ⟨[3], 0, false⟩, ⟨[1, 3, 13, 14, 15], 0, false⟩, ⟨[1, 3, 4, 5, 13, 14, 15], 5, false⟩, ⟨[1, 3, 4, 5, 13, 14, 15, 26, 27, 28], 9, false⟩, ⟨[1, 3, 4, 5, 13, 14, 15, 26, 27, 28, 29], 1, false⟩, ⟨[1, 3, 13, 14, 15], 0, false⟩, ⟨[1, 3, 4, 5, 13, 14, 15, 26, 27, 28], 0, false⟩, ⟨[1, 3, 4, 5, 7, 13, 14, 15, 26, 27, 28], 3, false⟩, ⟨[1, 3, 4, 5, 7, 13, 14, 15, 26, 27, 28, 38], 7, false⟩, ⟨[1, 3, 4, 5, 13, 14, 15, 26, 27, 28], 11, false⟩, ⟨[1, 3, 4, 5, 13, 14, 15, 26, 27, 28], 0, false⟩, ⟨[1, 3, 4, 5, 13, 14, 15, 26, 27, 28], 0, false⟩, ⟨[1, 3, 4, 5, 13, 14, 15, 26, 27, 28], 2, false⟩, ⟨[1, 3, 4, 5, 13, 14, 15, 26, 27, 28], 0, false⟩, ⟨[1, 3, 13, 14, 15], 0, false⟩, ⟨[1, 3, 13, 14, 15], 0, false⟩, ⟨[1, 3, 13, 14, 15], 2, false⟩, ⟨[1, 3, 13, 14, 15], 0, false⟩, ⟨[3], 0, false⟩, ⟨[2], 2, false⟩]
  | 33 => [⟨[0, 1], 1, false⟩, ⟨[0, 1, 5], 1, false⟩, ⟨[0, 1, 5, 9], 4, false⟩, ⟨[], 0, false⟩, ⟨[0, 1, 5], 0, false⟩, ⟨[0, 1, 5, 17], 6, false⟩, ⟨[4], 1, false⟩, ⟨[0, 1, 5], 0, false⟩, ⟨[0, 1, 5], 0, false⟩, ⟨[0, 1, 5], 3, false⟩, ⟨[0, 1, 5], 0, false⟩, ⟨[], 0, false⟩, ⟨[4], 1, false⟩]
  | 26 => [⟨[1, 2], 2, false⟩, ⟨[1, 2, 5], 1, false⟩, ⟨[5, 6], 12, false⟩, ⟨[5, 6, 7], 1, false⟩, ⟨[5, 6, 7, 26], 4, false⟩, ⟨[5], 0, false⟩, ⟨[5, 6, 7], 0, false⟩, ⟨[5, 6, 7, 35], 7, false⟩, ⟨[5, 6, 7], 8, false⟩, ⟨[5, 6, 7], 0, false⟩, ⟨[5, 6, 7], 0, false⟩, ⟨[5, 6, 7], 3, false⟩, ⟨[5, 6, 7], 0, false⟩, ⟨[5], 0, false⟩, ⟨[4], 2, false⟩]
  | 14 => [⟨[1], 2, false⟩, ⟨[1, 3], 1, false⟩, ⟨[1, 3, 4], 1, false⟩, ⟨[1, 3, 4, 9], 5, false⟩, ⟨[3], 0, false⟩, ⟨[1, 3, 4], 0, false⟩, ⟨[1, 3, 4], 7, false⟩, ⟨[1, 3, 4], 0, false⟩, ⟨[1, 3, 4], 3, false⟩, ⟨[1, 3, 4], 0, false⟩, ⟨[3], 0, false⟩, ⟨[2], 2, false⟩]
  | 17 => [⟨[0, 1], 1, false⟩, ⟨[0, 1, 10], 5, false⟩, ⟨[4], 1, false⟩, ⟨[0, 1], 0, false⟩, ⟨[0, 1, 5], 1, false⟩, ⟨[0, 1, 5, 14], 4, false⟩, ⟨[], 0, false⟩, ⟨[0, 1, 5], 0, false⟩, ⟨[0, 1, 5, 25], 8, false⟩, ⟨[4], 1, false⟩, ⟨[0, 1, 5], 0, false⟩, ⟨[0, 1, 5], 0, false⟩, ⟨[0, 1, 5], 3, false⟩, ⟨[0, 1, 5], 0, false⟩, ⟨[], 0, false⟩, ⟨[4], 1, false⟩]
  | 12 => [⟨[0, 1], 1, false⟩, ⟨[0, 1, 10], 5, false⟩, ⟨[4], 1, false⟩, ⟨[0, 1], 0, false⟩, ⟨[0, 1, 5], 1, false⟩, ⟨[0, 1, 5, 14], 4, false⟩, ⟨[], 0, false⟩, ⟨[0, 1, 5], 0, false⟩, ⟨[0, 1, 5, 26], 8, false⟩, ⟨[4], 1, false⟩, ⟨[0, 1, 5], 0, false⟩, ⟨[0, 1, 5], 0, false⟩, ⟨[0, 1, 5], 3, false⟩, ⟨[0, 1, 5], 0, false⟩, ⟨[], 0, false⟩, ⟨[4], 1, false⟩]
  | 15 => [⟨[1], 2, false⟩, ⟨[1, 3], 5, false⟩, ⟨[3, 13, 14, 15], 4, false⟩, ⟨[3, 13, 14, 15, 16], 1, false⟩, ⟨[3], 0, false⟩, ⟨[3, 13, 14, 15], 0, false⟩, ⟨[3, 4, 5, 13, 14, 15], 5, false⟩, ⟨[3, 4, 5, 13, 14, 15, 20, 21, 22], 3, false⟩, ⟨[3, 4, 5, 13, 14, 15, 20, 21, 22, 23], 1, false⟩, ⟨[3, 13, 14, 15], 0, false⟩, ⟨[3, 4, 5, 13, 14, 15, 20, 21, 22], 0, false⟩, ⟨[3, 4, 5, 7, 13, 14, 15, 20, 21, 22], 3, false⟩, ⟨[3, 4, 5, 13, 14, 15, 20, 21, 22], 11, false⟩, ⟨[3, 4, 5, 13, 14, 15, 20, 21, 22], 0, false⟩, ⟨[3, 4, 5, 13, 14, 15, 20, 21, 22], 2, false⟩, ⟨[3, 4, 5, 13, 14, 15, 20, 21, 22], 0, false⟩, ⟨[3, 13, 14, 15], 0, false⟩, ⟨[3, 13, 14, 15], 0, false⟩, ⟨[3, 13, 14, 15], 2, false⟩, ⟨[3, 13, 14, 15], 0, false⟩, ⟨[3], 0, false⟩, ⟨[2], 2, false⟩]
  | 16 => [⟨[1], 2, false⟩, ⟨[1, 3], 1, false⟩, ⟨[1, 3, 4], 1, false⟩, ⟨[1, 3, 4, 11], 5, false⟩, ⟨[3], 0, false⟩, ⟨[1, 3, 4], 0, false⟩, ⟨[1, 3, 4, 5], 1, false⟩, ⟨[1, 3, 4, 5, 6], 1, false⟩, ⟨[1, 3, 4, 5, 6, 18], 5, false⟩, ⟨[1, 3, 4, 5], 0, false⟩, ⟨[1, 3, 4, 5, 6], 0, false⟩, ⟨[1, 3, 4, 5, 6, 25], 5, false⟩, ⟨[1, 3, 4, 5, 6], 5, false⟩, ⟨[1, 3, 4, 5, 6], 0, false⟩, ⟨[1, 3, 4, 5, 6], 0, false⟩, ⟨[1, 3, 4, 5, 6], 3, false⟩, ⟨[1, 3, 4, 5, 6], 0, false⟩, ⟨[1, 3, 4, 5], 0, false⟩, ⟨[1, 3, 4], 5, false⟩, ⟨[1, 3, 4], 0, false⟩, ⟨[1, 3, 4], 3, false⟩, ⟨[1, 3, 4], 0, false⟩, ⟨[3], 0, false⟩, ⟨[2], 2, false⟩]
  | 34 => [⟨[0, 1], 7, false⟩, ⟨[0, 1, 18, 19, 20], 9, false⟩, ⟨[0, 1, 18, 19, 20, 21], 1, false⟩, ⟨[0, 1], 0, false⟩, ⟨[0, 1, 18, 19, 20], 0, false⟩, ⟨[0, 1, 5, 18, 19, 20], 3, false⟩, ⟨[0, 1, 5, 18, 19, 20, 31], 8, false⟩, ⟨[0, 1, 18, 19, 20], 3, false⟩, ⟨[0, 1, 18, 19, 20], 0, false⟩, ⟨[0, 1, 18, 19, 20], 0, false⟩, ⟨[0, 1, 18, 19, 20], 2, false⟩, ⟨[0, 1, 18, 19, 20], 0, false⟩, ⟨[0, 1], 0, false⟩, ⟨[0], 11, false⟩]
  | 18 => [⟨[1], 2, false⟩, ⟨[3, 11], 6, false⟩, ⟨[3, 11], 2, false⟩, ⟨[3, 11], 5, false⟩, ⟨[2], 5, false⟩]
  | 36 => [⟨[1, 2, 3, 4], 2, false⟩, ⟨[1, 2, 3, 4, 9], 1, false⟩, ⟨[1, 2, 4, 9], 4, false⟩, ⟨[1, 2, 4, 9], 5, false⟩, ⟨[1, 4, 9, 10], 2, false⟩, ⟨[1, 4, 9, 10, 11], 4, false⟩, ⟨[1, 4, 9, 10, 11, 12], 1, false⟩, ⟨[1, 4, 9, 10, 11, 12, 28], 4, false⟩, ⟨[1, 10], 0, false⟩, ⟨[1, 4, 9, 10, 11, 12], 0, false⟩, ⟨[1, 4, 9, 10, 11, 12, 46], 16, false⟩, ⟨[1, 4, 9, 10, 11, 12], 7, false⟩, ⟨[1, 4, 9, 10, 11, 12], 0, false⟩, ⟨[1, 4, 9, 10, 11, 12], 0, false⟩, ⟨[1, 4, 9, 10, 11, 12], 3, false⟩, ⟨[1, 4, 9, 10, 11, 12], 0, false⟩, ⟨[1, 10], 0, false⟩, ⟨[1, 10, 13], 1, false⟩, ⟨[1, 13], 4, false⟩, ⟨[8], 5, false⟩]
  | 19 => [⟨[1], 2, false⟩, ⟨[3], 3, false⟩, ⟨[3, 4], 1, false⟩, ⟨[3, 4, 5], 4, false⟩, ⟨[3, 4, 5, 12], 2, false⟩, ⟨[4], 0, false⟩, ⟨[3, 4, 5], 0, false⟩, ⟨[3, 4, 5], 8, false⟩, ⟨[3, 4, 5], 0, false⟩, ⟨[3, 4, 5], 3, false⟩, ⟨[3, 4, 5], 0, false⟩, ⟨[4], 0, false⟩, ⟨[2], 2, false⟩]
  | 20 => [⟨[1], 2, false⟩, ⟨[1, 3], 5, false⟩, ⟨[1, 3, 12, 13], 3, false⟩, ⟨[1, 3, 12, 13, 14], 1, false⟩, ⟨[1, 3], 0, false⟩, ⟨[1, 3, 12, 13], 0, false⟩, ⟨[1, 3, 4, 12, 13], 2, false⟩, ⟨[1, 3, 12, 13], 4, false⟩, ⟨[1, 3, 12, 13], 0, false⟩, ⟨[1, 3, 12, 13], 2, false⟩, ⟨[1, 3, 12, 13], 0, false⟩, ⟨[1, 3], 0, false⟩, ⟨[3, 21, 22, 23], 4, false⟩, ⟨[3, 21, 22, 23, 24], 1, false⟩, ⟨[3], 0, false⟩, ⟨[3, 21, 22, 23], 0, false⟩, ⟨[3, 5, 6, 21, 22, 23], 5, false⟩, ⟨[3, 21, 22, 23], 5, false⟩, ⟨[3, 21, 22, 23], 0, false⟩, ⟨[3, 21, 22, 23], 2, false⟩, ⟨[3, 21, 22, 23], 0, false⟩, ⟨[3], 0, false⟩, ⟨[2], 2, false⟩]
  | 37 => [⟨[0, 1], 1, false⟩, ⟨[0, 1, 5], 1, false⟩, ⟨[0, 1, 5, 9], 4, false⟩, ⟨[], 0, false⟩, ⟨[0, 1, 5], 0, false⟩, ⟨[0, 1, 5, 17], 6, false⟩, ⟨[4], 2, false⟩, ⟨[0, 1, 5], 0, false⟩, ⟨[0, 1, 5], 0, false⟩, ⟨[0, 1, 5], 3, false⟩, ⟨[0, 1, 5], 0, false⟩, ⟨[], 0, false⟩, ⟨[4], 1, false⟩]
  | 21 => [⟨[1], 2, false⟩, ⟨[1, 3], 3, false⟩, ⟨[1, 3, 4], 1, false⟩, ⟨[1, 3, 4, 5], 1, false⟩, ⟨[1, 3, 4, 5, 12], 5, false⟩, ⟨[4], 0, false⟩, ⟨[1, 3, 4, 5], 0, false⟩, ⟨[1, 3, 4, 5], 7, false⟩, ⟨[1, 3, 4, 5], 0, false⟩, ⟨[1, 3, 4, 5], 3, false⟩, ⟨[1, 3, 4, 5], 0, false⟩, ⟨[4], 0, false⟩, ⟨[2], 2, false⟩]
  | 22 => [⟨[1], 2, false⟩, ⟨[1, 3], 1, false⟩, ⟨[1, 3, 4], 3, false⟩, ⟨[3, 4, 12, 13, 14], 4, false⟩, ⟨[3, 4, 12, 13, 14, 15], 1, false⟩, ⟨[3], 0, false⟩, ⟨[3, 4, 12, 13, 14], 0, false⟩, ⟨[3, 4, 5, 6, 12, 13, 14], 5, false⟩, ⟨[3, 4, 5, 6, 12, 13, 14, 19, 20, 21], 3, false⟩, ⟨[3, 4, 5, 6, 12, 13, 14, 19, 20, 21, 22], 1, false⟩, ⟨[3, 4, 12, 13, 14], 0, false⟩, ⟨[3, 4, 5, 6, 12, 13, 14, 19, 20, 21], 0, false⟩, ⟨[3, 4, 5, 6, 8, 12, 13, 14, 19, 20, 21], 3, false⟩, ⟨[3, 4, 5, 6, 8, 12, 13, 14, 19, 20, 21, 40], 14, false⟩, ⟨[3, 4, 5, 6, 12, 13, 14, 19, 20, 21], 7, false⟩, ⟨[3, 4, 5, 6, 12, 13, 14, 19, 20, 21], 0, false⟩, ⟨[3, 4, 5, 6, 12, 13, 14, 19, 20, 21], 0, false⟩, ⟨[3, 4, 5, 6, 12, 13, 14, 19, 20, 21], 2, false⟩, ⟨[3, 4, 5, 6, 12, 13, 14, 19, 20, 21], 0, false⟩, ⟨[3, 4, 12, 13, 14], 0, false⟩, ⟨[3, 4, 12, 13, 14], 0, false⟩, ⟨[3, 4, 12, 13, 14], 2, false⟩, ⟨[3, 4, 12, 13, 14], 0, false⟩, ⟨[3], 0, false⟩, ⟨[2], 2, false⟩]
  | 23 => [⟨[1], 2, false⟩, ⟨[1, 3], 3, false⟩, ⟨[1, 3, 4], 1, false⟩, ⟨[1, 3, 4, 5], 1, false⟩, ⟨[1, 3, 4, 5, 14], 5, false⟩, ⟨[4], 0, false⟩, ⟨[1, 3, 4, 5], 0, false⟩, ⟨[1, 3, 4, 5, 6], 4, false⟩, ⟨[1, 3, 4, 5, 6, 7], 1, false⟩, ⟨[1, 3, 4, 5, 6, 7, 30], 11, false⟩, ⟨[1, 3, 4, 5], 0, false⟩, ⟨[1, 3, 4, 5, 6, 7], 0, false⟩, ⟨[1, 3, 4, 5, 6, 7, 44], 11, false⟩, ⟨[1, 3, 4, 5, 6, 7], 10, false⟩, ⟨[1, 3, 4, 5, 6, 7], 0, false⟩, ⟨[1, 3, 4, 5, 6, 7], 0, false⟩, ⟨[1, 3, 4, 5, 6, 7], 3, false⟩, ⟨[1, 3, 4, 5, 6, 7], 0, false⟩, ⟨[1, 3, 4, 5], 0, false⟩, ⟨[1, 3, 4, 5], 0, false⟩, ⟨[1, 3, 4, 5], 3, false⟩, ⟨[1, 3, 4, 5], 0, false⟩, ⟨[4], 0, false⟩, ⟨[2], 2, false⟩]
  | 4 => [⟨[1], 2, false⟩, ⟨[1, 8], 3, false⟩, ⟨[2], 2, false⟩, ⟨[1], 0, false⟩, ⟨[1, 39], 26, false⟩, ⟨[2], 1, false⟩, ⟨[1], 0, false⟩, ⟨[3, 4], 3, false⟩, ⟨[3, 4, 48], 5, false⟩, ⟨[2], 1, false⟩, ⟨[3, 4], 0, false⟩, ⟨[3, 4, 5], 1, false⟩, ⟨[3, 4, 5, 52], 4, false⟩, ⟨[], 0, false⟩, ⟨[3, 4, 5], 0, false⟩, ⟨[3, 4, 5, 63], 8, false⟩, ⟨[2], 1, false⟩, ⟨[3, 4, 5], 0, false⟩, ⟨[3, 4, 5], 0, false⟩, ⟨[3, 4, 5], 3, false⟩, ⟨[3, 4, 5], 0, false⟩, ⟨[], 0, false⟩, ⟨[2], 2, false⟩]
  | 24 => [⟨[0, 1, 2], 1, false⟩, ⟨[0, 1, 2, 7], 4, false⟩, ⟨[0, 1, 2, 7, 8], 1, false⟩, ⟨[0, 1, 2, 7, 8, 19, 20, 21], 3, false⟩, ⟨[0, 1, 2, 7, 8, 19, 20, 21, 22], 1, false⟩, ⟨[0, 2, 7, 8], 0, false⟩, ⟨[0, 1, 2, 7, 8, 19, 20, 21], 0, false⟩, ⟨[0, 1, 2, 7, 8, 10, 19, 20, 21], 3, false⟩, ⟨[0, 1, 2, 7, 8, 10, 19, 20, 21, 34], 10, false⟩, ⟨[0, 1, 2, 7, 8, 10, 19, 20, 21], 4, false⟩, ⟨[0, 1, 2, 7, 8, 19, 20, 21], 5, false⟩, ⟨[0, 1, 2, 7, 8, 19, 20, 21], 0, false⟩, ⟨[0, 1, 2, 7, 8, 19, 20, 21], 0, false⟩, ⟨[0, 1, 2, 7, 8, 19, 20, 21], 2, false⟩, ⟨[0, 1, 2, 7, 8, 19, 20, 21], 0, false⟩, ⟨[0, 2, 7, 8], 0, false⟩, ⟨[0, 2, 7, 8, 44, 45], 3, false⟩, ⟨[0, 2, 7, 8, 44, 45, 46], 1, false⟩, ⟨[7], 0, false⟩, ⟨[0, 2, 7, 8, 44, 45], 0, false⟩, ⟨[0, 2, 7, 8, 44, 45, 49], 3, false⟩, ⟨[7], 0, false⟩, ⟨[0, 2, 7, 8, 44, 45], 0, false⟩, ⟨[0, 2, 7, 8, 11, 44, 45], 1, false⟩, ⟨[0, 2, 7, 8, 11, 44, 45, 50, 51, 52], 3, false⟩, ⟨[0, 2, 7, 8, 11, 44, 45, 50, 51, 52, 53], 1, false⟩, ⟨[0, 2, 7, 11, 44, 45], 0, false⟩, ⟨[0, 2, 7, 8, 11, 44, 45, 50, 51, 52], 0, false⟩, ⟨[0, 2, 7, 8, 11, 13, 44, 45, 50, 51, 52], 3, false⟩, ⟨[0, 2, 7, 8, 11, 44, 45, 50, 51, 52, 59, 60, 61], 6, false⟩, ⟨[0, 2, 7, 8, 11, 44, 45, 50, 51, 52, 59, 60, 61, 62], 1, false⟩, ⟨[0, 2, 7, 8, 11, 44, 45, 50, 51, 52], 0, false⟩, ⟨[0, 2, 7, 8, 11, 44, 45, 50, 51, 52, 59, 60, 61], 0, false⟩, ⟨[0, 2, 7, 8, 11, 15, 44, 45, 50, 51, 52, 59, 60, 61], 3, false⟩, ⟨[0, 2, 7, 8, 11, 15, 44, 45, 50, 51, 52, 59, 60, 61, 74], 10, false⟩, ⟨[0, 2, 7, 8, 11, 15, 44, 45, 50, 51, 52, 59, 60, 61], 4, false⟩, ⟨[0, 2, 7, 8, 11, 44, 45, 50, 51, 52, 59, 60, 61], 5, false⟩, ⟨[0, 2, 7, 8, 11, 44, 45, 50, 51, 52, 59, 60, 61], 0, false⟩, ⟨[0, 2, 7, 8, 11, 44, 45, 50, 51, 52, 59, 60, 61], 0, false⟩, ⟨[0, 2, 7, 8, 11, 44, 45, 50, 51, 52, 59, 60, 61], 2, false⟩, ⟨[0, 2, 7, 8, 11, 44, 45, 50, 51, 52, 59, 60, 61], 0, false⟩, ⟨[0, 2, 7, 8, 11, 44, 45, 50, 51, 52], 0, false⟩, ⟨[0, 2, 7, 8, 11, 44, 45, 50, 51, 52], 0, false⟩, ⟨[0, 2, 7, 8, 11, 44, 45, 50, 51, 52], 2, false⟩, ⟨[0, 2, 7, 8, 11, 44, 45, 50, 51, 52], 0, false⟩, ⟨[0, 2, 7, 11, 44, 45], 0, false⟩, ⟨[0, 2, 7, 8, 44, 45], 2, false⟩, ⟨[0, 2, 7, 8, 44, 45], 0, false⟩, ⟨[0, 2, 7, 8, 44, 45], 2, false⟩, ⟨[0, 2, 7, 8, 44, 45], 0, false⟩, ⟨[7], 0, false⟩, ⟨[6], 2, false⟩]
  | 25 => [⟨[0, 1, 2, 3], 1, false⟩, ⟨[0, 1, 2, 3, 9], 1, false⟩, ⟨[0, 1, 2, 3, 9, 10], 1, false⟩, ⟨[0, 1, 2, 3, 9, 10, 17], 4, false⟩, ⟨[0, 2, 3, 9], 0, false⟩, ⟨[0, 1, 2, 3, 9, 10], 0, false⟩, ⟨[0, 1, 2, 3, 9, 10, 34], 15, false⟩, ⟨[0, 1, 2, 3, 9, 10], 8, false⟩, ⟨[0, 1, 2, 3, 9, 10], 0, false⟩, ⟨[0, 1, 2, 3, 9, 10], 0, false⟩, ⟨[0, 1, 2, 3, 9, 10], 3, false⟩, ⟨[0, 1, 2, 3, 9, 10], 0, false⟩, ⟨[0, 2, 3, 9], 0, false⟩, ⟨[0, 2, 3, 9, 11], 1, false⟩, ⟨[0, 2, 3, 9, 11, 45], 4, false⟩, ⟨[2, 9], 0, false⟩, ⟨[0, 2, 3, 9, 11], 0, false⟩, ⟨[0, 2, 3, 9, 11, 12], 8, false⟩, ⟨[0, 2, 3, 9, 11, 12, 13], 1, false⟩, ⟨[0, 2, 3, 9, 11, 12, 13, 58], 4, false⟩, ⟨[0, 2, 3, 9, 11], 0, false⟩, ⟨[0, 2, 3, 9, 11, 12, 13], 0, false⟩, ⟨[0, 2, 3, 9, 11, 12, 13, 75], 15, false⟩, ⟨[0, 2, 3, 9, 11, 12, 13], 8, false⟩, ⟨[0, 2, 3, 9, 11, 12, 13], 0, false⟩, ⟨[0, 2, 3, 9, 11, 12, 13], 0, false⟩, ⟨[0, 2, 3, 9, 11, 12, 13], 3, false⟩, ⟨[0, 2, 3, 9, 11, 12, 13], 0, false⟩, ⟨[0, 2, 3, 9, 11], 0, false⟩, ⟨[0, 2, 3, 9, 11], 0, false⟩, ⟨[0, 2, 3, 9, 11], 3, false⟩, ⟨[0, 2, 3, 9, 11], 0, false⟩, ⟨[2, 9], 0, false⟩, ⟨[8], 4, false⟩]
  | 5 => [⟨[1, 2, 3], 2, false⟩, ⟨[1, 2, 3, 18], 8, false⟩, ⟨[6], 2, false⟩, ⟨[1, 2, 3], 0, false⟩, ⟨[1, 2, 3, 7], 1, false⟩, ⟨[1, 2, 3, 7, 8], 1, false⟩, ⟨[1, 2, 3, 7, 8, 23], 4, false⟩, ⟨[2, 3, 7], 0, false⟩, ⟨[1, 2, 3, 7, 8], 0, false⟩, ⟨[1, 2, 3, 7, 8], 11, false⟩, ⟨[1, 2, 3, 7, 8], 0, false⟩, ⟨[1, 2, 3, 7, 8], 3, false⟩, ⟨[1, 2, 3, 7, 8], 0, false⟩, ⟨[2, 3, 7], 0, false⟩, ⟨[2, 3, 7, 9], 6, false⟩, ⟨[2, 3, 7, 9, 48], 6, false⟩, ⟨[6], 1, false⟩, ⟨[2, 3, 7, 9], 0, false⟩, ⟨[2, 3, 7, 9, 10], 1, false⟩, ⟨[2, 3, 7, 9, 10, 52], 4, false⟩, ⟨[], 0, false⟩, ⟨[2, 3, 7, 9, 10], 0, false⟩, ⟨[2, 3, 7, 9, 10, 65], 10, false⟩, ⟨[6], 1, false⟩, ⟨[2, 3, 7, 9, 10], 0, false⟩, ⟨[2, 3, 7, 9, 10], 0, false⟩, ⟨[2, 3, 7, 9, 10], 3, false⟩, ⟨[2, 3, 7, 9, 10], 0, false⟩, ⟨[], 0, false⟩, ⟨[6], 2, false⟩]
  | 6 => [⟨[1], 2, false⟩, ⟨[1, 12], 3, false⟩, ⟨[2], 2, false⟩, ⟨[1], 0, false⟩, ⟨[1, 3, 4], 3, false⟩, ⟨[1, 3, 4, 23], 6, false⟩, ⟨[2], 1, false⟩, ⟨[1, 3, 4], 0, false⟩, ⟨[1, 3, 4, 5], 1, false⟩, ⟨[1, 3, 4, 5, 28], 5, false⟩, ⟨[3], 0, false⟩, ⟨[1, 3, 4, 5], 0, false⟩, ⟨[1, 3, 4, 5, 6], 4, false⟩, ⟨[1, 3, 4, 5, 6, 7], 1, false⟩, ⟨[1, 3, 4, 5, 6, 7, 37], 4, false⟩, ⟨[1, 3, 4, 5], 0, false⟩, ⟨[1, 3, 4, 5, 6, 7], 0, false⟩, ⟨[1, 3, 4, 5, 6, 7, 8], 1, false⟩, ⟨[1, 3, 4, 5, 6, 7, 8, 9], 1, false⟩, ⟨[1, 3, 4, 5, 6, 7, 8, 9, 43], 4, false⟩, ⟨[1, 3, 4, 5, 6, 7, 8], 0, false⟩, ⟨[1, 3, 4, 5, 6, 7, 8, 9], 0, false⟩, ⟨[1, 3, 4, 5, 6, 7, 8, 9], 12, false⟩, ⟨[1, 3, 4, 5, 6, 7, 8, 9], 0, false⟩, ⟨[1, 3, 4, 5, 6, 7, 8, 9], 3, false⟩, ⟨[1, 3, 4, 5, 6, 7, 8, 9], 0, false⟩, ⟨[1, 3, 4, 5, 6, 7, 8], 0, false⟩, ⟨[1, 3, 4, 5, 6, 7, 82], 21, false⟩, ⟨[2], 1, false⟩, ⟨[1, 3, 4, 5, 6, 7], 0, false⟩, ⟨[1, 3, 4, 5, 6, 7], 0, false⟩, ⟨[1, 3, 4, 5, 6, 7], 3, false⟩, ⟨[1, 3, 4, 5, 6, 7], 0, false⟩, ⟨[1, 3, 4, 5], 0, false⟩, ⟨[1, 3, 4, 5], 0, false⟩, ⟨[1, 3, 4, 5], 3, false⟩, ⟨[1, 3, 4, 5], 0, false⟩, ⟨[3], 0, false⟩, ⟨[2], 8, false⟩]
  | 35 => [⟨[0, 2, 3], 5, false⟩, ⟨[0, 2, 3, 9], 3, false⟩, ⟨[0], 0, false⟩, ⟨[0, 2, 3], 0, false⟩, ⟨[0, 2, 3], 0, true⟩, ⟨[0, 2, 3], 0, false⟩, ⟨[0, 2, 3], 6, false⟩, ⟨[0, 2, 3], 0, false⟩, ⟨[0], 0, false⟩]
  | 8 => [⟨[], 1, false⟩, ⟨[1], 3, false⟩, ⟨[1, 22], 16, false⟩, ⟨[0], 1, false⟩, ⟨[1], 0, false⟩, ⟨[1, 2, 3, 4], 5, false⟩, ⟨[1, 2, 3, 4, 41], 13, false⟩, ⟨[0], 1, false⟩, ⟨[1, 2, 3, 4], 0, false⟩, ⟨[1, 2, 3, 4, 5], 5, false⟩, ⟨[0], 40, false⟩]
  | 27 => [⟨[0], 1, false⟩, ⟨[0, 1], 8, false⟩, ⟨[0, 1, 10], 4, false⟩, ⟨[0], 2, false⟩, ⟨[0, 1], 0, false⟩, ⟨[0], 5, false⟩]
  | 38 => [⟨[0, 2, 3], 2, false⟩, ⟨[0, 2, 3, 4, 5], 8, false⟩, ⟨[0, 2, 3, 4, 5, 16], 3, false⟩, ⟨[2, 3], 0, true⟩, ⟨[0, 2, 3, 4], 0, false⟩, ⟨[2, 3, 4, 6, 23], 6, false⟩, ⟨[2, 3, 4, 6, 7, 23], 3, false⟩, ⟨[2, 3, 4, 6, 7, 23, 39], 15, false⟩, ⟨[2, 3, 6, 7, 23], 0, false⟩, ⟨[2, 3, 4, 6, 7, 23], 0, false⟩, ⟨[2, 3, 4, 6, 7, 23, 43], 4, false⟩, ⟨[2, 3, 6, 7, 23], 2, false⟩, ⟨[2, 3, 6, 7, 23], 0, false⟩, ⟨[2, 3, 4, 6, 7, 23], 0, false⟩, ⟨[2, 3, 4, 6, 7, 8, 23], 4, false⟩, ⟨[2, 3, 4, 6, 7, 23], 7, false⟩, ⟨[2, 3, 4, 6, 7, 23], 0, false⟩, ⟨[2, 3, 4, 6, 7, 23], 0, false⟩, ⟨[2, 3, 6, 7, 23], 0, false⟩, ⟨[2, 3, 6, 7, 23, 59], 6, false⟩, ⟨[2, 3], 0, true⟩, ⟨[2, 3, 7], 0, false⟩, ⟨[2, 3], 4, false⟩]
  | 44 => [⟨[0, 2], 1, false⟩, ⟨[0, 2, 3], 13, false⟩, ⟨[0, 2, 3], 2, false⟩, ⟨[0, 2, 3], 4, false⟩, ⟨[0, 2, 3], 2, false⟩, ⟨[0, 2, 3, 35], 11, false⟩, ⟨[0, 2, 3], 0, false⟩, ⟨[0, 2, 3], 0, false⟩, ⟨[0, 2, 3, 4], 4, false⟩, ⟨[0, 2, 3, 4, 40], 2, false⟩, ⟨[0, 2, 3, 4], 2, false⟩, ⟨[0, 2, 3, 4], 0, false⟩, ⟨[0, 2, 3, 4, 46], 4, false⟩, ⟨[0, 2, 3, 4], 2, false⟩, ⟨[0, 2, 3, 4], 0, false⟩, ⟨[0, 2, 3], 7, false⟩, ⟨[0, 2, 3], 9, false⟩, ⟨[0, 2, 3], 0, false⟩, ⟨[0, 2, 3], 0, false⟩, ⟨[0, 2, 3], 0, false⟩, ⟨[0, 2, 3], 2, false⟩, ⟨[0, 2, 3], 5, false⟩, ⟨[0, 2, 3, 71], 3, false⟩, ⟨[0, 2, 3], 2, false⟩, ⟨[0, 2, 3], 0, false⟩, ⟨[0, 2, 3], 9, false⟩, ⟨[0, 2, 3], 2, false⟩, ⟨[0, 2, 3, 94], 11, false⟩, ⟨[0, 2, 3], 0, false⟩, ⟨[0, 2, 3], 0, false⟩, ⟨[0, 2, 3, 5], 6, false⟩, ⟨[0, 2, 3], 7, false⟩, ⟨[0, 2, 3], 0, false⟩, ⟨[0, 2, 3], 0, false⟩, ⟨[0, 2, 3], 0, false⟩, ⟨[0, 2, 3], 2, false⟩, ⟨[0, 2], 2, false⟩]
  | 48 => [⟨[0, 15], 12, false⟩, ⟨[0], 9, false⟩, ⟨[0], 2, false⟩, ⟨[0], 0, false⟩]
  | 43 => [⟨[0, 1, 10], 6, false⟩, ⟨[0, 1], 0, false⟩, ⟨[0, 1, 4], 5, false⟩, ⟨[0, 1, 4, 24], 9, false⟩, ⟨[0, 1, 4], 8, false⟩, ⟨[0, 1, 4], 0, false⟩, ⟨[0], 7, false⟩]
  | 50 => [⟨[0, 1], 1, false⟩, ⟨[0, 1, 24], 18, false⟩, ⟨[0, 4], 1, false⟩, ⟨[0, 1], 0, false⟩, ⟨[0, 4], 10, false⟩]
  | 52 => [⟨[0, 1], 1, false⟩, ⟨[0, 1, 8], 2, false⟩, ⟨[0, 1], 2, false⟩, ⟨[0, 1], 0, false⟩, ⟨[0, 16], 6, false⟩, ⟨[0], 2, false⟩, ⟨[0], 0, false⟩, ⟨[0], 9, false⟩, ⟨[0], 2, false⟩, ⟨[0, 5], 1, false⟩, ⟨[0, 5, 44], 16, false⟩, ⟨[0, 5], 0, false⟩, ⟨[0, 5], 0, false⟩, ⟨[0, 5, 49], 5, false⟩, ⟨[0, 5], 2, false⟩, ⟨[0, 5], 0, false⟩, ⟨[0, 5], 9, false⟩, ⟨[0, 5, 6], 4, false⟩, ⟨[0, 5], 5, false⟩, ⟨[0, 5], 0, false⟩, ⟨[0, 5], 0, false⟩, ⟨[0, 5], 0, false⟩, ⟨[0, 4], 2, false⟩]
  | 55 => [⟨[0, 2], 1, false⟩, ⟨[0, 2, 3], 7, false⟩, ⟨[0, 2, 3, 20], 9, false⟩, ⟨[0, 2, 3], 8, false⟩, ⟨[0, 2, 3], 0, false⟩, ⟨[0, 2, 3, 35], 3, false⟩, ⟨[0, 2, 3], 4, false⟩, ⟨[0, 2, 3], 2, false⟩, ⟨[0, 2, 3], 0, false⟩, ⟨[0, 2, 3, 4, 5], 8, false⟩, ⟨[0, 2, 3, 4, 5], 3, false⟩, ⟨[0, 2, 3, 4], 3, false⟩, ⟨[0, 2, 3, 52], 2, false⟩, ⟨[0, 2, 3], 2, false⟩, ⟨[0, 2], 2, false⟩, ⟨[0, 2, 3], 0, false⟩, ⟨[0, 2, 3, 62], 6, false⟩, ⟨[0, 2, 3], 2, false⟩, ⟨[0, 2], 2, false⟩, ⟨[0, 2, 3], 0, false⟩, ⟨[0, 2, 3], 9, false⟩, ⟨[0, 2], 4, false⟩]
  | 59 => [⟨[0, 3, 4], 2, false⟩, ⟨[0, 4, 5], 3, false⟩, ⟨[0, 4, 5, 11], 2, false⟩, ⟨[0, 4, 5, 11, 18], 2, false⟩, ⟨[0, 4, 5], 4, false⟩, ⟨[0, 4, 5, 11, 23], 2, false⟩, ⟨[0, 4, 5], 4, false⟩, ⟨[0, 4, 5, 11, 28], 2, false⟩, ⟨[0, 4, 5, 6], 3, false⟩, ⟨[0, 4, 5, 6, 8], 8, false⟩, ⟨[0, 4, 5, 6, 8, 38], 2, false⟩, ⟨[0, 4, 5], 3, false⟩, ⟨[0, 4], 2, false⟩, ⟨[0, 4, 5, 6], 0, false⟩, ⟨[0, 4, 5], 3, false⟩, ⟨[0, 4, 5], 9, false⟩, ⟨[0, 4, 5, 11, 53], 2, false⟩, ⟨[0, 4], 4, false⟩, ⟨[0, 4, 5, 11, 58], 2, false⟩, ⟨[0, 4], 4, false⟩, ⟨[0, 4, 5, 63], 2, false⟩, ⟨[0, 4, 5, 66], 2, false⟩, ⟨[0, 4], 4, false⟩, ⟨[0, 4, 5], 0, false⟩, ⟨[0, 4], 5, false⟩, ⟨[0, 4, 5], 0, false⟩, ⟨[0, 4, 5], 0, false⟩, ⟨[0, 4, 5], 0, false⟩, ⟨[0, 4, 5], 0, false⟩, ⟨[0, 4, 5], 0, false⟩, ⟨[0, 4, 5], 0, false⟩, ⟨[0, 4, 5], 0, false⟩, ⟨[0, 4], 2, false⟩]
  | 69 => [⟨[0, 2, 4, 6], 2, false⟩, ⟨[0, 2, 6, 7], 3, false⟩, ⟨[0, 2, 6, 7, 8], 1, false⟩, ⟨[0, 2, 6, 7, 8, 15], 4, false⟩, ⟨[0, 6, 7], 0, false⟩, ⟨[0, 2, 6, 7, 8], 0, false⟩, ⟨[0, 2, 6, 7, 8, 20], 3, false⟩, ⟨[0, 2, 6, 7, 8, 20, 21], 2, false⟩, ⟨[0, 2, 6, 7, 8, 9], 3, false⟩, ⟨[0, 2, 6, 7, 8], 7, false⟩, ⟨[0, 2, 6, 7, 8, 20, 31], 2, false⟩, ⟨[0, 2, 6, 7, 8], 4, false⟩, ⟨[0, 2, 6, 7, 8, 20, 36], 2, false⟩, ⟨[0, 2, 6, 7, 8], 4, false⟩, ⟨[0, 2, 6, 7, 8, 41], 2, false⟩, ⟨[0, 2, 6, 7, 8, 10], 3, false⟩, ⟨[0, 2, 6, 7, 8], 7, false⟩, ⟨[0, 2, 6, 7, 8], 0, false⟩, ⟨[0, 2, 6, 7, 8], 0, false⟩, ⟨[0, 2, 6, 7, 8], 0, false⟩, ⟨[0, 2, 6, 7, 8], 0, false⟩, ⟨[0, 2, 6, 7, 8], 0, false⟩, ⟨[0, 2, 6, 7, 8], 0, false⟩, ⟨[0, 2, 6, 7, 8], 3, false⟩, ⟨[0, 2, 6, 7, 8], 0, false⟩, ⟨[0, 6, 7], 0, false⟩, ⟨[0, 6], 2, false⟩]
  | 77 => [⟨[0], 1, false⟩, ⟨[0, 2], 3, false⟩]
  | 60 => [⟨[0, 1, 2, 3], 1, false⟩, ⟨[0, 1, 2, 3, 9], 3, false⟩, ⟨[0, 2, 3, 9, 22], 9, false⟩, ⟨[0], 3, false⟩, ⟨[0, 8], 1, false⟩, ⟨[0, 2, 3, 9], 0, false⟩, ⟨[0, 3, 10, 11], 9, false⟩, ⟨[0, 3, 10, 34], 2, false⟩, ⟨[0], 3, false⟩, ⟨[0, 8], 1, false⟩, ⟨[0, 10], 0, false⟩, ⟨[0, 10], 9, false⟩, ⟨[0, 8], 2, false⟩]
  | 71 => [⟨[0, 1], 2, false⟩, ⟨[1, 6, 7], 7, false⟩, ⟨[1, 6, 7, 14], 2, false⟩, ⟨[4, 5], 3, false⟩, ⟨[1, 6], 0, false⟩, ⟨[6, 22], 7, false⟩, ⟨[4, 5], 2, false⟩, ⟨[6], 0, false⟩, ⟨[4, 5], 3, false⟩]
  | 74 => [⟨[0], 2, false⟩, ⟨[0, 4], 2, false⟩, ⟨[0, 4, 5], 1, false⟩, ⟨[0, 4, 5, 16], 7, false⟩, ⟨[4], 3, false⟩, ⟨[4, 5], 1, false⟩, ⟨[4, 5], 0, false⟩, ⟨[4, 5, 28], 10, false⟩, ⟨[2, 3], 2, false⟩, ⟨[4, 5], 0, false⟩, ⟨[4, 5, 43], 15, false⟩, ⟨[2, 3], 2, false⟩, ⟨[4, 5], 0, false⟩, ⟨[4, 5, 6], 1, false⟩, ⟨[4, 5, 6, 7], 1, false⟩, ⟨[4, 5, 6, 7, 47], 4, false⟩, ⟨[6], 0, false⟩, ⟨[4, 5, 6, 7], 0, false⟩, ⟨[4, 5, 6, 7, 8], 6, false⟩, ⟨[4, 5, 6, 7, 8, 55], 1, false⟩, ⟨[4, 5, 6, 7], 5, false⟩, ⟨[4, 5, 6, 7], 5, false⟩, ⟨[4, 5, 6, 7], 0, false⟩, ⟨[4, 5, 6, 7], 0, false⟩, ⟨[4, 5, 6, 7], 3, false⟩, ⟨[4, 5, 6, 7], 0, false⟩, ⟨[6], 0, false⟩, ⟨[2, 3], 3, false⟩]
  | 80 => [⟨[0, 1], 1, false⟩, ⟨[0, 1, 9], 5, false⟩, ⟨[4], 6, false⟩, ⟨[0, 1], 0, false⟩, ⟨[4], 5, false⟩]
  | 81 => [⟨[0, 1], 1, false⟩, ⟨[0, 1, 5], 1, false⟩, ⟨[0, 1, 5, 9], 4, false⟩, ⟨[], 0, false⟩, ⟨[0, 1, 5], 0, false⟩, ⟨[0, 1, 5, 18], 6, false⟩, ⟨[4], 6, false⟩, ⟨[0, 1, 5], 0, false⟩, ⟨[0, 1, 5], 0, false⟩, ⟨[0, 1, 5], 3, false⟩, ⟨[0, 1, 5], 0, false⟩, ⟨[], 0, false⟩, ⟨[4], 1, false⟩]
  | 79 => [⟨[0], 1, false⟩, ⟨[0, 15], 12, false⟩, ⟨[2], 1, false⟩, ⟨[0], 0, false⟩, ⟨[0, 3], 1, false⟩, ⟨[0, 3, 19], 4, false⟩, ⟨[], 0, false⟩, ⟨[0, 3], 0, false⟩, ⟨[0, 3, 31], 10, false⟩, ⟨[2], 1, false⟩, ⟨[0, 3], 0, false⟩, ⟨[0, 3], 0, false⟩, ⟨[0, 3], 3, false⟩, ⟨[0, 3], 0, false⟩, ⟨[], 0, false⟩, ⟨[2], 1, false⟩]
  | 64 => [⟨[0, 1, 2], 1, false⟩, ⟨[0, 1, 2, 7, 8], 8, false⟩, ⟨[0, 7, 8, 26], 12, false⟩, ⟨[0, 7, 8], 1, false⟩, ⟨[0, 7, 8], 0, false⟩, ⟨[0, 7, 8, 28], 2, false⟩, ⟨[0], 3, false⟩, ⟨[0, 6], 1, false⟩, ⟨[0, 7], 0, false⟩, ⟨[0, 7], 9, false⟩, ⟨[0, 6], 2, false⟩]
  | 56 => [⟨[0], 1, false⟩, ⟨[0, 2], 3, false⟩]
  | 70 => [⟨[0], 1, false⟩, ⟨[0, 5], 1, false⟩, ⟨[0, 5, 6], 2, false⟩, ⟨[0, 5, 6], 2, false⟩, ⟨[0, 5, 6], 2, false⟩, ⟨[0, 5, 6], 0, false⟩, ⟨[0, 5, 6], 0, false⟩, ⟨[2], 1, false⟩, ⟨[0, 5, 10], 2, false⟩, ⟨[0, 5, 10], 2, false⟩, ⟨[0, 5, 10], 0, false⟩, ⟨[2], 1, false⟩, ⟨[0, 5, 13], 2, false⟩, ⟨[2], 1, false⟩, ⟨[0, 5, 15], 2, false⟩, ⟨[2], 1, false⟩, ⟨[0, 5, 17], 2, false⟩, ⟨[2], 1, false⟩, ⟨[0, 19], 2, false⟩, ⟨[2], 1, false⟩, ⟨[0], 0, false⟩, ⟨[0], 0, false⟩, ⟨[0], 0, false⟩, ⟨[0], 0, false⟩, ⟨[0], 0, false⟩, ⟨[0], 0, false⟩, ⟨[0], 0, false⟩, ⟨[0, 3], 1, false⟩, ⟨[0, 3, 4], 1, false⟩, ⟨[0, 3, 4, 25], 5, false⟩, ⟨[3], 0, false⟩, ⟨[0, 3, 4], 0, false⟩, ⟨[0, 3, 4], 3, false⟩, ⟨[0, 3, 4], 0, false⟩, ⟨[0, 3, 4], 3, false⟩, ⟨[0, 3, 4], 0, false⟩, ⟨[3], 0, false⟩, ⟨[2], 2, false⟩]
  | 78 => [⟨[0], 1, false⟩, ⟨[0, 8], 6, false⟩, ⟨[2], 2, false⟩, ⟨[0], 0, false⟩, ⟨[10], 1, false⟩, ⟨[10, 11], 2, false⟩, ⟨[10, 11], 2, false⟩, ⟨[10, 11], 0, false⟩, ⟨[2], 2, false⟩, ⟨[10, 15], 2, false⟩, ⟨[10, 15], 2, false⟩, ⟨[10, 15], 2, false⟩, ⟨[10, 15], 2, false⟩, ⟨[10, 15], 0, false⟩, ⟨[10, 15], 0, false⟩, ⟨[10, 15], 0, false⟩, ⟨[2], 2, false⟩, ⟨[10, 21], 2, false⟩, ⟨[2], 2, false⟩, ⟨[10, 24], 2, false⟩, ⟨[10, 24], 2, false⟩, ⟨[10, 24], 0, false⟩, ⟨[2], 2, false⟩, ⟨[10, 28], 2, false⟩, ⟨[2], 2, false⟩, ⟨[10, 31], 2, false⟩, ⟨[2], 2, false⟩, ⟨[10, 34], 2, false⟩, ⟨[34], 2, false⟩, ⟨[34], 0, false⟩, ⟨[2], 2, false⟩, ⟨[], 0, false⟩, ⟨[], 0, false⟩, ⟨[], 0, false⟩, ⟨[], 0, false⟩, ⟨[], 0, false⟩, ⟨[], 0, false⟩, ⟨[], 0, false⟩, ⟨[], 0, false⟩, ⟨[2], 1, false⟩]
  | 68 => [⟨[0], 1, false⟩, ⟨[0, 3], 3, false⟩, ⟨[0, 2], 13, false⟩]
  | 67 => [⟨[0, 3, 4], 2, false⟩, ⟨[0, 4, 5], 3, false⟩, ⟨[0, 4, 5, 6], 3, false⟩, ⟨[0, 4, 5, 17], 7, false⟩, ⟨[0, 4, 5], 4, false⟩, ⟨[0, 4, 5], 0, false⟩, ⟨[0, 4, 5], 4, false⟩, ⟨[0, 4, 5, 25], 2, false⟩, ⟨[0, 4, 5], 0, false⟩, ⟨[0, 4, 5], 0, false⟩, ⟨[0, 4, 5, 7], 3, false⟩, ⟨[0, 4, 5], 7, false⟩, ⟨[0, 4, 5], 0, false⟩, ⟨[0, 4, 5], 0, false⟩, ⟨[0, 4, 5], 0, false⟩, ⟨[0, 4], 2, false⟩]
  | 49 => [⟨[0], 1, false⟩, ⟨[0, 3], 3, false⟩, ⟨[0, 3, 8], 3, false⟩, ⟨[0], 2, false⟩, ⟨[0, 2], 1, false⟩, ⟨[0, 3], 0, false⟩, ⟨[0, 3], 9, false⟩, ⟨[0, 2], 2, false⟩]
  | 53 => [⟨[0], 1, false⟩, ⟨[0, 13], 8, false⟩, ⟨[2], 1, false⟩, ⟨[0], 0, false⟩, ⟨[0, 3], 1, false⟩, ⟨[0, 3, 17], 4, false⟩, ⟨[], 0, false⟩, ⟨[0, 3], 0, false⟩, ⟨[0, 3, 4], 11, false⟩, ⟨[0, 3, 4, 5], 11, false⟩, ⟨[0, 3, 59], 20, false⟩, ⟨[2], 1, false⟩, ⟨[0, 3], 0, false⟩, ⟨[0, 3], 0, false⟩, ⟨[0, 3], 3, false⟩, ⟨[0, 3], 0, false⟩, ⟨[], 0, false⟩, ⟨[2], 1, false⟩]
  | 66 => [⟨[0, 3, 4], 2, false⟩, ⟨[0, 4, 5], 3, false⟩, ⟨[0, 4, 5, 24], 16, false⟩, ⟨[0, 4, 5], 0, false⟩, ⟨[0, 4, 5], 0, false⟩, ⟨[0, 4, 5, 6], 3, false⟩, ⟨[0, 4, 5, 6, 7], 3, false⟩, ⟨[0, 4, 5, 7], 7, false⟩, ⟨[0, 4, 5], 7, false⟩, ⟨[0, 4, 5], 0, false⟩, ⟨[0, 4, 5], 0, false⟩, ⟨[0, 4, 5], 0, false⟩, ⟨[0, 4], 2, false⟩]
  | 76 => [⟨[0], 1, false⟩, ⟨[0, 3], 3, false⟩, ⟨[0, 2], 17, false⟩]
  | 65 => [⟨[0, 2], 2, false⟩, ⟨[0, 2, 7], 2, false⟩, ⟨[2, 3], 3, false⟩, ⟨[0, 2], 0, false⟩, ⟨[0, 2, 15], 7, false⟩, ⟨[2, 3], 3, false⟩, ⟨[0, 2], 0, false⟩, ⟨[0, 2, 4], 1, false⟩, ⟨[0, 2, 4, 5], 1, false⟩, ⟨[0, 2, 4, 5, 20], 4, false⟩, ⟨[0, 2, 4], 0, false⟩, ⟨[0, 2, 4, 5], 0, false⟩, ⟨[0, 2, 4, 5, 32], 10, false⟩, ⟨[2, 3], 3, false⟩, ⟨[0, 2, 4, 5], 0, false⟩, ⟨[0, 2, 4, 5, 37], 4, false⟩, ⟨[0, 2, 4, 5], 5, false⟩, ⟨[0, 2, 4, 5], 0, false⟩, ⟨[0, 2, 4, 5], 0, false⟩, ⟨[0, 2, 4, 5], 3, false⟩, ⟨[0, 2, 4, 5], 0, false⟩, ⟨[0, 2, 4], 0, false⟩, ⟨[2, 3], 6, false⟩]
  | 75 => [⟨[0], 1, false⟩, ⟨[0, 3], 1, false⟩, ⟨[0, 3, 4], 1, false⟩, ⟨[0, 3, 4, 7], 3, false⟩, ⟨[3], 0, false⟩, ⟨[0, 3, 4], 0, false⟩, ⟨[0, 3, 4], 3, false⟩, ⟨[0, 3, 4], 0, false⟩, ⟨[0, 3, 4], 3, false⟩, ⟨[0, 3, 4], 0, false⟩, ⟨[3], 0, false⟩, ⟨[2], 2, false⟩]
  | 58 => [⟨[1], 2, false⟩, ⟨[1, 5], 3, false⟩, ⟨[2], 3, false⟩, ⟨[1], 0, false⟩, ⟨[9], 2, false⟩, ⟨[9, 10], 2, false⟩, ⟨[9, 10], 2, false⟩, ⟨[9, 10], 2, false⟩, ⟨[9, 10], 2, false⟩, ⟨[9, 10], 2, false⟩, ⟨[9, 10], 2, false⟩, ⟨[9, 10], 2, false⟩, ⟨[9, 10], 2, false⟩, ⟨[9, 10], 2, false⟩, ⟨[9, 10], 2, false⟩, ⟨[9, 10], 0, false⟩, ⟨[9, 10], 0, false⟩, ⟨[9, 10], 0, false⟩, ⟨[9, 10], 0, false⟩, ⟨[9, 10], 0, false⟩, ⟨[9, 10], 0, false⟩, ⟨[9, 10], 0, false⟩, ⟨[9, 10], 0, false⟩, ⟨[9, 10], 0, false⟩, ⟨[2], 1, false⟩, ⟨[9, 21], 2, false⟩, ⟨[9, 21], 2, false⟩, ⟨[9, 21], 2, false⟩, ⟨[9, 21], 2, false⟩, ⟨[9, 21], 0, false⟩, ⟨[9, 21], 0, false⟩, ⟨[9, 21], 0, false⟩, ⟨[2], 1, false⟩, ⟨[26], 2, false⟩, ⟨[2], 1, false⟩, ⟨[], 0, false⟩, ⟨[], 0, false⟩, ⟨[], 0, false⟩, ⟨[], 0, false⟩, ⟨[2], 1, false⟩]
  | 63 => [⟨[0], 1, false⟩, ⟨[2], 11, false⟩]
  | 57 => [⟨[0], 2, false⟩, ⟨[0, 7], 2, false⟩, ⟨[2, 3], 2, false⟩, ⟨[0], 0, false⟩, ⟨[0, 4], 1, false⟩, ⟨[0, 4, 9], 2, false⟩, ⟨[], 0, false⟩, ⟨[0, 4], 0, false⟩, ⟨[0, 4, 5], 1, false⟩, ⟨[0, 4, 5, 13], 2, false⟩, ⟨[0, 4], 0, false⟩, ⟨[0, 4, 5], 0, false⟩, ⟨[0, 4, 5, 26], 11, false⟩, ⟨[2, 3], 4, false⟩, ⟨[0, 4, 5], 0, false⟩, ⟨[0, 4, 5], 0, false⟩, ⟨[0, 4, 5], 3, false⟩, ⟨[0, 4, 5], 0, false⟩, ⟨[0, 4], 0, false⟩, ⟨[0, 4], 0, false⟩, ⟨[0, 4], 3, false⟩, ⟨[0, 4], 0, false⟩, ⟨[], 0, false⟩, ⟨[2, 3], 2, false⟩]
  | 62 => [⟨[1], 2, false⟩, ⟨[1, 5], 3, false⟩, ⟨[2], 7, false⟩, ⟨[1], 0, false⟩, ⟨[2], 4, false⟩]
  | 72 => [⟨[0], 1, false⟩, ⟨[0, 3], 2, false⟩, ⟨[0, 3, 10], 6, false⟩, ⟨[2], 1, false⟩, ⟨[0, 3], 0, false⟩, ⟨[2], 5, false⟩]
  | 73 => [⟨[0], 1, false⟩, ⟨[0, 4], 2, false⟩, ⟨[2], 1, false⟩, ⟨[0], 0, false⟩, ⟨[0, 6], 2, false⟩, ⟨[2], 1, false⟩, ⟨[0], 0, false⟩, ⟨[8], 2, false⟩, ⟨[2], 1, false⟩, ⟨[], 0, false⟩, ⟨[2], 1, false⟩]
  | 61 => [⟨[0, 1], 1, false⟩, ⟨[0, 1, 6], 2, false⟩, ⟨[4], 7, false⟩, ⟨[0, 1], 0, false⟩, ⟨[0, 1, 14], 2, false⟩, ⟨[4], 7, false⟩, ⟨[0, 1], 0, false⟩, ⟨[1, 22], 2, false⟩, ⟨[4], 7, false⟩, ⟨[1], 0, false⟩, ⟨[4], 3, false⟩]
  | 54 => [⟨[0], 1, false⟩, ⟨[0, 7], 2, false⟩, ⟨[2], 1, false⟩, ⟨[0], 0, false⟩, ⟨[0, 3], 1, false⟩, ⟨[0, 3, 4], 2, false⟩, ⟨[0, 3, 4, 10], 2, false⟩, ⟨[0, 3], 0, false⟩, ⟨[0, 3, 4], 0, false⟩, ⟨[0, 3, 4, 5], 3, false⟩, ⟨[0, 3, 4, 5, 14], 2, false⟩, ⟨[0, 3, 4, 5], 3, false⟩, ⟨[0, 3, 4, 5], 0, false⟩, ⟨[0, 3, 4], 8, false⟩, ⟨[0, 3, 4], 3, false⟩, ⟨[0, 3, 4], 0, false⟩, ⟨[0, 3, 4], 0, false⟩, ⟨[0, 3], 0, false⟩, ⟨[3, 27], 2, false⟩, ⟨[2], 3, false⟩, ⟨[3], 0, false⟩, ⟨[2], 2, false⟩]
  | 51 => [⟨[0], 1, false⟩, ⟨[0, 4], 2, false⟩, ⟨[2], 1, false⟩, ⟨[0], 0, false⟩, ⟨[0, 6], 2, false⟩, ⟨[2], 1, false⟩, ⟨[0], 0, false⟩, ⟨[8], 2, false⟩, ⟨[2], 1, false⟩, ⟨[], 0, false⟩, ⟨[2], 1, false⟩]
  | 42 => [⟨[0, 3], 2, false⟩, ⟨[0, 3, 10], 3, false⟩, ⟨[2, 3], 3, false⟩, ⟨[0, 3], 0, false⟩, ⟨[0, 3, 4], 1, false⟩, ⟨[0, 3, 4, 5], 1, false⟩, ⟨[0, 3, 4, 5, 15], 4, false⟩, ⟨[3, 4], 0, false⟩, ⟨[0, 3, 4, 5], 0, false⟩, ⟨[0, 3, 4, 5, 6], 4, false⟩, ⟨[0, 3, 4, 5, 6, 20], 2, false⟩, ⟨[0, 3, 4, 5], 3, false⟩, ⟨[0, 3, 4, 5, 6, 24], 2, false⟩, ⟨[0, 3, 4, 5, 34], 10, false⟩, ⟨[0, 3, 4, 5], 0, false⟩, ⟨[0, 3, 4, 5], 0, false⟩, ⟨[0, 3, 4, 5], 3, false⟩, ⟨[0, 3, 4, 5], 0, false⟩, ⟨[0, 3, 4, 5], 0, false⟩, ⟨[0, 3, 4, 5], 0, false⟩, ⟨[0, 3, 4, 5, 6, 38], 2, false⟩, ⟨[0, 3, 4, 5], 11, false⟩, ⟨[0, 3, 4, 5], 3, false⟩, ⟨[0, 3, 4, 5, 52], 2, false⟩, ⟨[0, 3, 4, 5, 7], 2, false⟩, ⟨[0, 3, 4, 5, 7, 63], 10, false⟩, ⟨[0, 3, 4, 5, 7], 0, false⟩, ⟨[0, 3, 4, 5, 7], 0, false⟩, ⟨[0, 3, 4, 5, 7], 3, false⟩, ⟨[0, 3, 4, 5, 7], 0, false⟩, ⟨[0, 3, 4, 5, 7], 0, false⟩, ⟨[0, 3, 4, 5, 7], 0, false⟩, ⟨[0, 3, 4, 7], 10, false⟩, ⟨[0, 3, 4, 5], 2, false⟩, ⟨[2, 3], 4, false⟩, ⟨[0, 3, 4, 5], 0, false⟩, ⟨[0, 3, 4, 5], 0, false⟩, ⟨[0, 3, 4, 5], 0, false⟩, ⟨[0, 3, 4, 5], 0, false⟩, ⟨[0, 3, 4, 5], 0, false⟩, ⟨[0, 3, 4, 5], 0, false⟩, ⟨[3, 4], 0, false⟩, ⟨[2, 3], 4, false⟩]
  | 47 => [⟨[0], 1, false⟩, ⟨[2], 27, false⟩]
  | 46 => [⟨[0, 1], 1, false⟩, ⟨[0, 1, 5], 1, false⟩, ⟨[0, 1, 5, 9], 4, false⟩, ⟨[], 0, false⟩, ⟨[0, 1, 5], 0, false⟩, ⟨[0, 1, 5, 16], 5, false⟩, ⟨[4], 1, false⟩, ⟨[0, 1, 5], 0, false⟩, ⟨[0, 1, 5], 0, false⟩, ⟨[0, 1, 5], 3, false⟩, ⟨[0, 1, 5], 0, false⟩, ⟨[], 0, false⟩, ⟨[4], 1, false⟩]
  | _ => []
end Go.Ab
