/-
  Texts of this seat: lemmas on the way to the statement.
-/
import Derived.Test.YtijedejhcgeocaaD
import Derived.Test.YtijedejhcgeocaaRows
import Derived.Test.YtijedejhcgeocaaC
namespace Go.Ab
open Go
set_option linter.unusedVariables false
set_option linter.unusedSimpArgs false
set_option maxRecDepth 100000
set_option maxHeartbeats 4000000
def q (d:Nat) (o:XOp):XI:=⟨some d,o,.none,false⟩
def x75_1:XC :=
  .seq (.seq (.reg [⟨some 5,.mv (.t 4),.none,false⟩,
 ⟨some 6,.mv (.t 0),.none,false⟩,
 ⟨some 7,.bin .lss (.t 5) (.t 6),.none,false⟩] false [0,3,4,7])
 (.cond (.t 7) (.skip)
 (.exit 0 [3]) [0,3,4]))
 (.seq (.block 1 (.reg [⟨some 10,.mv (.t 3),.none,false⟩,
 ⟨some 11,.bin .mul (.t 10) (.k (.int .i64 2)),.none,false⟩,
 ⟨some 3,.asg (.t 11),.none,false⟩] false [0,3,4]) [0,3,4])
 (.reg [⟨some 8,.mv (.t 4),.none,false⟩,
 ⟨some 9,.bin .add (.t 8) (.k (.int .i64 1)),.none,false⟩,
 ⟨some 4,.asg (.t 9),.none,false⟩] false [0,3,4]))
def x75:XF:=⟨1,13,[.tmp 2],
  .seq (.reg [⟨some 2,.asg (.k (.int .i64 0)),.none,false⟩] false [0])
 (.seq (.reg [⟨some 3,.asg (.k (.int .i64 1)),.none,false⟩] false [0,3])
 (.seq (.seq (.reg [⟨some 4,.asg (.k (.int .i64 0)),.none,false⟩] false [0,3,4])
 (.block 0 (.loop x75_1 [0,3,4]) [3]))
 (.seq (.reg [⟨some 12,.mv (.t 3),.none,false⟩,
 ⟨some 2,.asg (.t 12),.none,false⟩] false [2])
 (.ret)))),[],false,false,.none⟩
def x23_1:XC :=
  .reg [⟨some 5,.mv (.t 1),.none,false⟩,
 ⟨some 6,.bin .lss (.t 5) (.k (.int .i64 0)),.none,false⟩,
 ⟨some 7,.mv (.t 6),.none,false⟩,
 ⟨some 8,.mv (.t 1),some (7,false),false⟩,
 ⟨some 9,.fadr 0 (.t 2),some (7,false),false⟩,
 ⟨some 10,.load false 1 (.t 9),some (7,false),false⟩,
 ⟨some 11,.bin .geq (.t 8) (.t 10),some (7,false),false⟩,
 ⟨some 12,.pick (.t 7) (.k (.bool true)) (.t 11),.none,false⟩] false [1,2,12]
def x23:XF:=⟨2,20,[.tmp 4],
  .seq (.reg [⟨some 2,.box (.t 0),.none,false⟩,
 ⟨some 4,.asg (.k (.bool false)),.none,false⟩] false [1,2])
 (.seq (.seq x23_1
 (.cond (.t 12) (.seq (.reg [⟨some 4,.asg (.k (.bool false)),.none,false⟩] false [4])
 (.ret))
 (.skip) [1,2]))
 (.seq (.reg [⟨some 13,.fadr 1 (.t 2),.none,false⟩,
 ⟨some 14,.load false 1 (.t 13),.none,false⟩,
 ⟨some 15,.mv (.t 1),.none,false⟩,
 ⟨some 16,.call 75 [.t 15] [],.none,false⟩,
 ⟨some 17,.bin .quo (.t 14) (.t 16),.none,true⟩,
 ⟨some 18,.bin .rem (.t 17) (.k (.int .i64 2)),.none,true⟩,
 ⟨some 19,.bin .eql (.t 18) (.k (.int .i64 1)),.none,true⟩,
 ⟨some 4,.asg (.t 19),.none,true⟩] true [4])
 (.ret))),[],false,false,.none⟩
def x29_1:XC :=
  .seq (.seq (.reg [⟨some 11,.mv (.t 5),.none,false⟩,
 ⟨some 12,.mv (.t 0),.none,false⟩,
 ⟨some 13,.len false (.t 12),.none,false⟩,
 ⟨some 14,.bin .lss (.t 11) (.t 13),.none,false⟩] false [0,1,5,14])
 (.cond (.t 14) (.skip)
 (.exit 0 []) [0,1,5]))
 (.seq (.block 1 (.seq (.reg [⟨some 17,.mv (.t 0),.none,false⟩,
 ⟨some 18,.mv (.t 5),.none,false⟩,
 ⟨some 19,.iadr 1 .none (.t 17) (.t 18),.none,false⟩,
 ⟨some 20,.load false 1 (.t 19),.none,false⟩,
 ⟨some 21,.mv (.t 1),.none,false⟩,
 ⟨some 22,.mv (.t 5),.none,false⟩,
 ⟨some 23,.iadr 1 .none (.t 21) (.t 22),.none,false⟩,
 ⟨some 24,.load false 1 (.t 23),.none,false⟩,
 ⟨some 25,.bin .neq (.t 20) (.t 24),.none,true⟩] true [0,1,5,25])
 (.cond (.t 25) (.seq (.reg [⟨some 4,.asg (.k (.bool false)),.none,false⟩] false [4])
 (.ret))
 (.skip) [0,1,5])) [0,1,5])
 (.reg [⟨some 15,.mv (.t 5),.none,false⟩,
 ⟨some 16,.bin .add (.t 15) (.k (.int .i64 1)),.none,false⟩,
 ⟨some 5,.asg (.t 16),.none,false⟩] false [0,1,5]))
def x29:XF:=⟨2,26,[.tmp 4],
  .seq (.reg [⟨some 4,.asg (.k (.bool false)),.none,false⟩] false [0,1])
 (.seq (.seq (.reg [⟨some 6,.mv (.t 0),.none,false⟩,
 ⟨some 7,.len false (.t 6),.none,false⟩,
 ⟨some 8,.mv (.t 1),.none,false⟩,
 ⟨some 9,.len false (.t 8),.none,false⟩,
 ⟨some 10,.bin .neq (.t 7) (.t 9),.none,false⟩] false [0,1,10])
 (.cond (.t 10) (.seq (.reg [⟨some 4,.asg (.k (.bool false)),.none,false⟩] false [4])
 (.ret))
 (.skip) [0,1]))
 (.seq (.seq (.reg [⟨some 5,.asg (.k (.int .i64 0)),.none,false⟩] false [0,1,5])
 (.block 0 (.loop x29_1 [0,1,5]) []))
 (.seq (.reg [⟨some 4,.asg (.k (.bool true)),.none,false⟩] false [4])
 (.ret)))),[],false,false,.none⟩
def x35_1:XC :=
  .cond (.t 23) (.reg [⟨some 24,.mv (.t 6),.none,false⟩,
 ⟨some 25,.mv (.t 7),.none,false⟩,
 ⟨some 26,.bin .sub (.t 25) (.k (.int .i64 1)),.none,false⟩,
 ⟨some 27,.bin .shl (.k (.int .i64 1)) (.t 26),.none,false⟩,
 ⟨some 28,.bin .sub (.t 24) (.t 27),.none,false⟩,
 ⟨some 6,.asg (.t 28),.none,false⟩] false [4,5,6,7])
 (.skip) [4,5,6,7]
def x35_2:XC :=
  .seq (.seq (.reg [⟨some 14,.mv (.t 7),.none,false⟩,
 ⟨some 15,.mv (.t 5),.none,false⟩,
 ⟨some 16,.bin .gtr (.t 14) (.t 15),.none,false⟩] false [4,5,6,7,16])
 (.cond (.t 16) (.skip)
 (.exit 0 [4,5,6]) [4,5,6,7]))
 (.seq (.block 1 (.seq (.reg [⟨some 19,.mv (.t 6),.none,false⟩,
 ⟨some 20,.mv (.t 7),.none,false⟩,
 ⟨some 21,.bin .sub (.t 20) (.k (.int .i64 1)),.none,false⟩,
 ⟨some 22,.bin .shl (.k (.int .i64 1)) (.t 21),.none,false⟩,
 ⟨some 23,.bin .geq (.t 19) (.t 22),.none,false⟩] false [4,5,6,7,23])
 x35_1) [4,5,6,7])
 (.reg [⟨some 17,.mv (.t 7),.none,false⟩,
 ⟨some 18,.bin .sub (.t 17) (.k (.int .i64 1)),.none,false⟩,
 ⟨some 7,.asg (.t 18),.none,false⟩] false [4,5,6,7]))
def x35:XF:=⟨2,32,[.cell 4 true 2],
  .seq (.reg [⟨some 4,.alloc [.int .i64 0,.int .i64 0],.none,false⟩] false [0,1,4])
 (.seq (.reg [⟨some 8,.mv (.t 0),.none,false⟩,
 ⟨some 9,.conv .u64 (.t 8),.none,false⟩,
 ⟨some 10,.bin .rem (.t 9) (.k (.int .u64 17)),.none,false⟩,
 ⟨some 11,.conv .i64 (.t 10),.none,false⟩,
 ⟨some 5,.asg (.t 11),.none,false⟩] false [1,4,5])
 (.seq (.reg [⟨some 12,.mv (.t 1),.none,false⟩,
 ⟨some 13,.conv .i64 (.t 12),.none,false⟩,
 ⟨some 6,.asg (.t 13),.none,false⟩] false [4,5,6])
 (.seq (.seq (.reg [⟨some 7,.asg (.k (.int .i64 16)),.none,false⟩] false [4,5,6,7])
 (.block 0 (.loop x35_2 [4,5,6,7]) [4,5,6]))
 (.seq (.reg [⟨some 29,.mv (.t 5),.none,false⟩,
 ⟨some 30,.mv (.t 6),.none,false⟩,
 ⟨some 31,.build [.int .i64 0,.int .i64 0] [(0,1,.t 29),(1,1,.t 30)],.none,false⟩,
 ⟨.none,.store 2 (.t 4) (.t 31),.none,false⟩] false [4])
 (.ret))))),[],false,false,.none⟩
def x97_1:XC :=
  .reg [⟨some 3,.fadr 0 (.t 1),.none,false⟩,
 ⟨some 4,.load false 1 (.t 3),.none,false⟩,
 ⟨some 5,.bin .lss (.t 4) (.k (.int .i64 0)),.none,false⟩,
 ⟨some 6,.mv (.t 5),.none,false⟩,
 ⟨some 7,.fadr 0 (.t 1),some (6,false),false⟩,
 ⟨some 8,.load false 1 (.t 7),some (6,false),false⟩,
 ⟨some 9,.bin .gtr (.t 8) (.k (.int .i64 16)),some (6,false),false⟩,
 ⟨some 10,.pick (.t 6) (.k (.bool true)) (.t 9),.none,false⟩,
 ⟨some 11,.mv (.t 10),.none,false⟩,
 ⟨some 12,.fadr 1 (.t 1),some (11,false),false⟩,
 ⟨some 13,.load false 1 (.t 12),some (11,false),false⟩,
 ⟨some 14,.bin .lss (.t 13) (.k (.int .i64 0)),some (11,false),false⟩,
 ⟨some 15,.pick (.t 11) (.k (.bool true)) (.t 14),.none,false⟩,
 ⟨some 16,.mv (.t 15),.none,false⟩,
 ⟨some 17,.fadr 1 (.t 1),some (16,false),false⟩,
 ⟨some 18,.load false 1 (.t 17),some (16,false),false⟩,
 ⟨some 19,.fadr 0 (.t 1),some (16,false),false⟩,
 ⟨some 20,.load false 1 (.t 19),some (16,false),false⟩,
 ⟨some 21,.bin .shl (.k (.int .i64 1)) (.t 20),some (16,false),false⟩,
 ⟨some 22,.bin .geq (.t 18) (.t 21),some (16,false),true⟩,
 ⟨some 23,.pick (.t 16) (.k (.bool true)) (.t 22),.none,true⟩] true [23]
def x97:XF:=⟨1,24,[.tmp 2],
  .seq (.reg [⟨some 1,.box (.t 0),.none,false⟩,
 ⟨some 2,.asg (.k (.int .i64 0)),.none,false⟩] false [1])
 (.seq (.seq x97_1
 (.cond (.t 23) (.seq (.reg [⟨some 2,.asg (.k (.int .i64 16)),.none,false⟩] false [2])
 (.ret))
 (.skip) []))
 (.seq (.reg [⟨some 2,.asg (.k (.int .i64 0)),.none,false⟩] false [2])
 (.ret))),[],false,false,.none⟩
def x74_1:XC :=
  .reg [⟨some 6,.mv (.t 0),.none,false⟩,
 ⟨some 7,.bin .lss (.t 6) (.k (.int .i64 0)),.none,false⟩,
 ⟨some 8,.mv (.t 7),.none,false⟩,
 ⟨some 9,.mv (.t 0),some (8,false),false⟩,
 ⟨some 10,.bin .geq (.t 9) (.k (.int .i64 2097152)),some (8,false),false⟩,
 ⟨some 11,.pick (.t 8) (.k (.bool true)) (.t 10),.none,false⟩] false [0,2,11]
def x74:XF:=⟨1,25,[.cell 2 true 2,.tmp 3],
  .seq (.reg [⟨some 2,.alloc [.int .i64 0,.int .i64 0],.none,false⟩,
 ⟨some 3,.asg (.k (.int .i64 0)),.none,false⟩] false [0,2])
 (.seq (.seq x74_1
 (.cond (.t 11) (.seq (.reg [⟨some 12,.build [.int .i64 0,.int .i64 0] [],.none,false⟩,
 ⟨.none,.store 2 (.t 2) (.t 12),.none,false⟩,
 ⟨some 3,.asg (.k (.int .i64 16)),.none,false⟩] false [2,3])
 (.ret))
 (.skip) [0,2]))
 (.seq (.reg [⟨some 13,.mv (.t 0),.none,false⟩,
 ⟨some 14,.bin .and (.t 13) (.k (.int .i64 31)),.none,false⟩,
 ⟨some 15,.mv (.t 0),.none,false⟩,
 ⟨some 16,.bin .shr (.t 15) (.k (.int .u64 5)),.none,false⟩,
 ⟨some 17,.build [.int .i64 0,.int .i64 0] [(0,1,.t 14),(1,1,.t 16)],.none,false⟩,
 ⟨some 4,.alloc [.int .i64 0,.int .i64 0],.none,false⟩,
 ⟨.none,.store 2 (.t 4) (.t 17),.none,false⟩] false [2,4])
 (.seq (.seq (.reg [⟨some 18,.load true 2 (.t 4),.none,false⟩,
 ⟨some 19,.call 97 [.t 18] [],.none,false⟩,
 ⟨some 5,.asg (.t 19),.none,false⟩] false [2,4,5])
 (.seq (.reg [⟨some 20,.mv (.t 5),.none,false⟩,
 ⟨some 21,.bin .neq (.t 20) (.k (.int .i64 0)),.none,false⟩] false [2,4,5,21])
 (.cond (.t 21) (.seq (.reg [⟨some 22,.build [.int .i64 0,.int .i64 0] [],.none,false⟩,
 ⟨some 23,.mv (.t 5),.none,false⟩,
 ⟨.none,.store 2 (.t 2) (.t 22),.none,false⟩,
 ⟨some 3,.asg (.t 23),.none,false⟩] false [2,3])
 (.ret))
 (.skip) [2,4])))
 (.seq (.reg [⟨some 24,.load true 2 (.t 4),.none,false⟩,
 ⟨.none,.store 2 (.t 2) (.t 24),.none,false⟩,
 ⟨some 3,.asg (.k (.int .i64 0)),.none,false⟩] false [2,3])
 (.ret))))),[],false,false,.none⟩
def x113:XF:=⟨1,9,[.tmp 2],
  .seq (.reg [⟨some 1,.box (.t 0),.none,false⟩,
 ⟨some 2,.asg (.k (.int .i64 0)),.none,false⟩] false [1])
 (.seq (.reg [⟨some 3,.fadr 1 (.t 1),.none,false⟩,
 ⟨some 4,.load false 1 (.t 3),.none,false⟩,
 ⟨some 5,.bin .shl (.t 4) (.k (.int .u64 5)),.none,false⟩,
 ⟨some 6,.fadr 0 (.t 1),.none,false⟩,
 ⟨some 7,.load false 1 (.t 6),.none,false⟩,
 ⟨some 8,.bin .or (.t 5) (.t 7),.none,false⟩,
 ⟨some 2,.asg (.t 8),.none,false⟩] false [2])
 (.ret)),[],false,false,.none⟩
def x120:XF:=⟨0,2,[.cell 0 true 16],
  .seq (.reg [⟨some 0,.alloc [.int .i64 0,.int .i64 0,.int .i64 0,.int .i64 0,.int .i64 0,.int .i64 0,.int .i64 0,.int .i64 0,.int .i64 0,.int .i64 0,.int .i64 0,.int .i64 0,.int .i64 0,.int .i64 0,.int .i64 0,.int .i64 0],.none,false⟩] false [0])
 (.seq (.reg [⟨some 1,.build [.int .i64 0,.int .i64 0,.int .i64 0,.int .i64 0,.int .i64 0,.int .i64 0,.int .i64 0,.int .i64 0,.int .i64 0,.int .i64 0,.int .i64 0,.int .i64 0,.int .i64 0,.int .i64 0,.int .i64 0,.int .i64 0] [(0,1,.k (.int .i64 1)),(1,1,.k (.int .i64 2)),(2,1,.k (.int .i64 4)),(3,1,.k (.int .i64 8)),(4,1,.k (.int .i64 16)),(5,1,.k (.int .i64 32)),(6,1,.k (.int .i64 64)),(7,1,.k (.int .i64 128)),(8,1,.k (.int .i64 256)),(9,1,.k (.int .i64 512)),(10,1,.k (.int .i64 1024)),(11,1,.k (.int .i64 2048)),(12,1,.k (.int .i64 4096)),(13,1,.k (.int .i64 8192)),(14,1,.k (.int .i64 16384)),(15,1,.k (.int .i64 32768))],.none,false⟩,
 ⟨.none,.store 16 (.t 0) (.t 1),.none,false⟩] false [0])
 (.ret)),[],false,false,.none⟩
def x98_1:XC :=
  .reg [⟨some 5,.mv (.t 1),.none,false⟩,
 ⟨some 6,.bin .geq (.t 5) (.k (.int .i64 0)),.none,false⟩,
 ⟨some 7,.mv (.t 6),.none,false⟩,
 ⟨some 8,.mv (.t 1),some (7,true),false⟩,
 ⟨some 9,.fadr 0 (.t 2),some (7,true),false⟩,
 ⟨some 10,.load false 1 (.t 9),some (7,true),false⟩,
 ⟨some 11,.bin .lss (.t 8) (.t 10),some (7,true),false⟩,
 ⟨some 12,.pick (.t 7) (.t 11) (.k (.bool false)),.none,false⟩,
 ⟨some 13,.mv (.t 12),.none,false⟩,
 ⟨some 14,.fadr 1 (.t 2),some (13,true),false⟩,
 ⟨some 15,.load false 1 (.t 14),some (13,true),false⟩,
 ⟨some 16,.call 120 [] [],some (13,true),false⟩,
 ⟨some 17,.mv (.t 1),some (13,true),false⟩,
 ⟨some 18,.idx false 1 16 (.t 16) (.t 17),some (13,true),false⟩,
 ⟨some 19,.bin .and (.t 15) (.t 18),some (13,true),true⟩,
 ⟨some 20,.bin .neq (.t 19) (.k (.int .i64 0)),some (13,true),true⟩,
 ⟨some 21,.pick (.t 13) (.t 20) (.k (.bool false)),.none,true⟩,
 ⟨some 4,.asg (.t 21),.none,true⟩] true [4]
def x98:XF:=⟨2,22,[.tmp 4],
  .seq (.reg [⟨some 2,.box (.t 0),.none,false⟩,
 ⟨some 4,.asg (.k (.bool false)),.none,false⟩] false [1,2])
 (.seq x98_1
 (.ret)),[],false,false,.none⟩
def x21_1:XC :=
  .seq (.seq (.reg [⟨some 9,.mv (.t 5),.none,false⟩,
 ⟨some 10,.bin .geq (.t 9) (.k (.int .i64 0)),.none,false⟩] false [0,1,5,10])
 (.cond (.t 10) (.skip)
 (.exit 0 []) [0,1,5]))
 (.seq (.block 1 (.seq (.reg [⟨some 13,.mv (.t 0),.none,false⟩,
 ⟨some 14,.mv (.t 5),.none,false⟩,
 ⟨some 15,.iadr 4 .none (.t 13) (.t 14),.none,false⟩,
 ⟨some 16,.fadr 0 (.t 15),.none,false⟩,
 ⟨some 17,.load false 1 (.t 16),.none,false⟩,
 ⟨some 18,.mv (.t 1),.none,false⟩,
 ⟨some 19,.bin .eql (.t 17) (.t 18),.none,false⟩] false [0,1,5,19])
 (.cond (.t 19) (.seq (.reg [⟨some 20,.mv (.t 5),.none,false⟩,
 ⟨some 4,.asg (.t 20),.none,false⟩] false [4])
 (.ret))
 (.skip) [0,1,5])) [0,1,5])
 (.reg [⟨some 11,.mv (.t 5),.none,false⟩,
 ⟨some 12,.bin .sub (.t 11) (.k (.int .i64 1)),.none,false⟩,
 ⟨some 5,.asg (.t 12),.none,false⟩] false [0,1,5]))
def x21:XF:=⟨2,21,[.tmp 4],
  .seq (.reg [⟨some 4,.asg (.k (.int .i64 0)),.none,false⟩] false [0,1])
 (.seq (.seq (.reg [⟨some 6,.mv (.t 0),.none,false⟩,
 ⟨some 7,.len false (.t 6),.none,false⟩,
 ⟨some 8,.bin .sub (.t 7) (.k (.int .i64 1)),.none,false⟩,
 ⟨some 5,.asg (.t 8),.none,false⟩] false [0,1,5])
 (.block 0 (.loop x21_1 [0,1,5]) []))
 (.seq (.reg [⟨some 4,.asg (.k (.int .i64 (-1))),.none,false⟩] false [4])
 (.ret))),[],false,false,.none⟩
def x26_1:XC :=
  .cond (.t 18) (.reg [⟨some 19,.mv (.t 5),.none,false⟩,
 ⟨some 20,.mv (.t 6),.none,false⟩,
 ⟨some 21,.bsl 1 1 [.int .i64 0] [(0,1,.t 20)],.none,false⟩,
 ⟨some 22,.app 1 8 (.t 19) (.t 21),.none,false⟩,
 ⟨some 5,.asg (.t 22),.none,false⟩] false [0,3,5,6])
 (.skip) [0,3,5,6]
def x26_2:XC :=
  .seq (.seq (.reg [⟨some 9,.mv (.t 6),.none,false⟩,
 ⟨some 10,.fadr 2 (.t 3),.none,false⟩,
 ⟨some 11,.load false 1 (.t 10),.none,false⟩,
 ⟨some 12,.bin .lss (.t 9) (.t 11),.none,false⟩] false [0,3,5,6,12])
 (.cond (.t 12) (.skip)
 (.exit 0 [5]) [0,3,5,6]))
 (.seq (.block 1 (.seq (.reg [⟨some 15,.mv (.t 0),.none,false⟩,
 ⟨some 16,.mv (.t 6),.none,false⟩,
 ⟨some 17,.call 21 [.t 15,.t 16] [],.none,false⟩,
 ⟨some 18,.bin .geq (.t 17) (.k (.int .i64 0)),.none,false⟩] false [0,3,5,6,18])
 x26_1) [0,3,5,6])
 (.reg [⟨some 13,.mv (.t 6),.none,false⟩,
 ⟨some 14,.bin .add (.t 13) (.k (.int .i64 1)),.none,false⟩,
 ⟨some 6,.asg (.t 14),.none,false⟩] false [0,3,5,6]))
def x26:XF:=⟨2,24,[.tmp 4],
  .seq (.reg [⟨some 3,.box (.t 1),.none,false⟩,
 ⟨some 4,.asg (.k (.nils)),.none,false⟩] false [0,3])
 (.seq (.reg [⟨some 5,.asg (.k (.nils)),.none,false⟩] false [0,3,5])
 (.seq (.seq (.reg [⟨some 7,.fadr 0 (.t 3),.none,false⟩,
 ⟨some 8,.load false 1 (.t 7),.none,false⟩,
 ⟨some 6,.asg (.t 8),.none,false⟩] false [0,3,5,6])
 (.block 0 (.loop x26_2 [0,3,5,6]) [5]))
 (.seq (.reg [⟨some 23,.mv (.t 5),.none,false⟩,
 ⟨some 4,.asg (.t 23),.none,false⟩] false [4])
 (.ret)))),[],false,false,.none⟩
def x30_1:XC :=
  .seq (.seq (.reg [⟨some 7,.mv (.t 6),.none,false⟩,
 ⟨some 8,.mv (.t 1),.none,false⟩,
 ⟨some 9,.len false (.t 8),.none,false⟩,
 ⟨some 10,.bin .lss (.t 7) (.t 9),.none,false⟩] false [0,1,5,6,10])
 (.cond (.t 10) (.skip)
 (.exit 0 [5]) [0,1,5,6]))
 (.seq (.block 1 (.reg [⟨some 13,.mv (.t 5),.none,false⟩,
 ⟨some 14,.bin .add (.t 13) (.k (.int .i64 1)),.none,false⟩,
 ⟨some 15,.mv (.t 0),.none,false⟩,
 ⟨some 16,.mv (.t 0),.none,false⟩,
 ⟨some 17,.mv (.t 1),.none,false⟩,
 ⟨some 18,.mv (.t 6),.none,false⟩,
 ⟨some 19,.iadr 1 .none (.t 17) (.t 18),.none,false⟩,
 ⟨some 20,.load false 1 (.t 19),.none,false⟩,
 ⟨some 21,.call 21 [.t 16,.t 20] [],.none,false⟩,
 ⟨some 22,.iadr 4 .none (.t 15) (.t 21),.none,false⟩,
 ⟨some 23,.fadr 3 (.t 22),.none,false⟩,
 ⟨some 24,.load false 1 (.t 23),.none,false⟩,
 ⟨some 25,.len false (.t 24),.none,false⟩,
 ⟨some 26,.bin .add (.t 14) (.t 25),.none,false⟩,
 ⟨some 5,.asg (.t 26),.none,false⟩] false [0,1,5,6]) [0,1,5,6])
 (.reg [⟨some 11,.mv (.t 6),.none,false⟩,
 ⟨some 12,.bin .add (.t 11) (.k (.int .i64 1)),.none,false⟩,
 ⟨some 6,.asg (.t 12),.none,false⟩] false [0,1,5,6]))
def x30:XF:=⟨2,28,[.tmp 4],
  .seq (.reg [⟨some 4,.asg (.k (.int .i64 0)),.none,false⟩] false [0,1])
 (.seq (.reg [⟨some 5,.asg (.k (.int .i64 0)),.none,false⟩] false [0,1,5])
 (.seq (.seq (.reg [⟨some 6,.asg (.k (.int .i64 0)),.none,false⟩] false [0,1,5,6])
 (.block 0 (.loop x30_1 [0,1,5,6]) [5]))
 (.seq (.reg [⟨some 27,.mv (.t 5),.none,false⟩,
 ⟨some 4,.asg (.t 27),.none,false⟩] false [4])
 (.ret)))),[],false,false,.none⟩
def x117_1:XC :=
  .reg [⟨some 5,.mv (.t 1),.none,false⟩,
 ⟨some 6,.fadr 0 (.t 2),.none,false⟩,
 ⟨some 7,.load false 1 (.t 6),.none,false⟩,
 ⟨some 8,.bin .geq (.t 5) (.t 7),.none,false⟩,
 ⟨some 9,.mv (.t 8),.none,false⟩,
 ⟨some 10,.mv (.t 1),some (9,true),false⟩,
 ⟨some 11,.fadr 2 (.t 2),some (9,true),false⟩,
 ⟨some 12,.load false 1 (.t 11),some (9,true),false⟩,
 ⟨some 13,.bin .lss (.t 10) (.t 12),some (9,true),false⟩,
 ⟨some 14,.pick (.t 9) (.t 13) (.k (.bool false)),.none,false⟩,
 ⟨some 4,.asg (.t 14),.none,false⟩] false [4]
def x117:XF:=⟨2,15,[.tmp 4],
  .seq (.reg [⟨some 2,.box (.t 0),.none,false⟩,
 ⟨some 4,.asg (.k (.bool false)),.none,false⟩] false [1,2])
 (.seq x117_1
 (.ret)),[],false,false,.none⟩
def x82_1:XC :=
  .seq (.seq (.reg [⟨some 6,.mv (.t 5),.none,false⟩,
 ⟨some 7,.mv (.t 0),.none,false⟩,
 ⟨some 8,.len false (.t 7),.none,false⟩,
 ⟨some 9,.bin .lss (.t 6) (.t 8),.none,false⟩] false [0,1,5,9])
 (.cond (.t 9) (.skip)
 (.exit 0 []) [0,1,5]))
 (.seq (.block 1 (.seq (.reg [⟨some 12,.mv (.t 0),.none,false⟩,
 ⟨some 13,.mv (.t 5),.none,false⟩,
 ⟨some 14,.iadr 3 .none (.t 12) (.t 13),.none,false⟩,
 ⟨some 15,.load true 3 (.t 14),.none,false⟩,
 ⟨some 16,.mv (.t 1),.none,false⟩,
 ⟨some 17,.call 117 [.t 15,.t 16] [],.none,false⟩] false [0,1,5,17])
 (.cond (.t 17) (.seq (.reg [⟨some 4,.asg (.k (.bool true)),.none,false⟩] false [4])
 (.ret))
 (.skip) [0,1,5])) [0,1,5])
 (.reg [⟨some 10,.mv (.t 5),.none,false⟩,
 ⟨some 11,.bin .add (.t 10) (.k (.int .i64 1)),.none,false⟩,
 ⟨some 5,.asg (.t 11),.none,false⟩] false [0,1,5]))
def x82:XF:=⟨2,18,[.tmp 4],
  .seq (.reg [⟨some 4,.asg (.k (.bool false)),.none,false⟩] false [0,1])
 (.seq (.seq (.reg [⟨some 5,.asg (.k (.int .i64 0)),.none,false⟩] false [0,1,5])
 (.block 0 (.loop x82_1 [0,1,5]) []))
 (.seq (.reg [⟨some 4,.asg (.k (.bool false)),.none,false⟩] false [4])
 (.ret))),[],false,false,.none⟩
def x85_1:XC :=
  .seq (.seq (.reg [⟨some 8,.mv (.t 7),.none,false⟩,
 ⟨some 9,.mv (.t 0),.none,false⟩,
 ⟨some 10,.len false (.t 9),.none,false⟩,
 ⟨some 11,.bin .lss (.t 8) (.t 10),.none,false⟩] false [0,1,2,7,11])
 (.cond (.t 11) (.skip)
 (.exit 0 [2]) [0,1,2,7]))
 (.seq (.block 1 (.seq (.reg [⟨some 14,.mv (.t 0),.none,false⟩,
 ⟨some 15,.mv (.t 7),.none,false⟩,
 ⟨some 16,.iadr 1 .none (.t 14) (.t 15),.none,false⟩,
 ⟨some 17,.load false 1 (.t 16),.none,false⟩,
 ⟨some 18,.mv (.t 2),.none,false⟩,
 ⟨some 19,.bin .eql (.t 17) (.t 18),.none,false⟩] false [0,1,2,7,19])
 (.cond (.t 19) (.seq (.reg [⟨some 20,.mv (.t 1),.none,false⟩,
 ⟨some 21,.mv (.t 7),.none,false⟩,
 ⟨some 22,.iadr 1 .none (.t 20) (.t 21),.none,false⟩,
 ⟨some 23,.load false 1 (.t 22),.none,false⟩,
 ⟨some 6,.asg (.t 23),.none,false⟩] false [6])
 (.ret))
 (.skip) [0,1,2,7])) [0,1,2,7])
 (.reg [⟨some 12,.mv (.t 7),.none,false⟩,
 ⟨some 13,.bin .add (.t 12) (.k (.int .i64 1)),.none,false⟩,
 ⟨some 7,.asg (.t 13),.none,false⟩] false [0,1,2,7]))
def x85:XF:=⟨3,25,[.tmp 6],
  .seq (.reg [⟨some 6,.asg (.k (.int .i64 0)),.none,false⟩] false [0,1,2])
 (.seq (.seq (.reg [⟨some 7,.asg (.k (.int .i64 0)),.none,false⟩] false [0,1,2,7])
 (.block 0 (.loop x85_1 [0,1,2,7]) [2]))
 (.seq (.reg [⟨some 24,.mv (.t 2),.none,false⟩,
 ⟨some 6,.asg (.t 24),.none,false⟩] false [6])
 (.ret))),[],false,false,.none⟩
def x19_1:XC :=
  .seq (.seq (.reg [⟨some 6,.mv (.t 5),.none,false⟩,
 ⟨some 7,.mv (.t 0),.none,false⟩,
 ⟨some 8,.len false (.t 7),.none,false⟩,
 ⟨some 9,.bin .lss (.t 6) (.t 8),.none,false⟩] false [0,1,5,9])
 (.cond (.t 9) (.skip)
 (.exit 0 []) [0,1,5]))
 (.seq (.block 1 (.seq (.reg [⟨some 12,.mv (.t 0),.none,false⟩,
 ⟨some 13,.mv (.t 5),.none,false⟩,
 ⟨some 14,.iadr 1 .none (.t 12) (.t 13),.none,false⟩,
 ⟨some 15,.load false 1 (.t 14),.none,false⟩,
 ⟨some 16,.mv (.t 1),.none,false⟩,
 ⟨some 17,.bin .eql (.t 15) (.t 16),.none,false⟩] false [0,1,5,17])
 (.cond (.t 17) (.seq (.reg [⟨some 4,.asg (.k (.bool true)),.none,false⟩] false [4])
 (.ret))
 (.skip) [0,1,5])) [0,1,5])
 (.reg [⟨some 10,.mv (.t 5),.none,false⟩,
 ⟨some 11,.bin .add (.t 10) (.k (.int .i64 1)),.none,false⟩,
 ⟨some 5,.asg (.t 11),.none,false⟩] false [0,1,5]))
def x19:XF:=⟨2,18,[.tmp 4],
  .seq (.reg [⟨some 4,.asg (.k (.bool false)),.none,false⟩] false [0,1])
 (.seq (.seq (.reg [⟨some 5,.asg (.k (.int .i64 0)),.none,false⟩] false [0,1,5])
 (.block 0 (.loop x19_1 [0,1,5]) []))
 (.seq (.reg [⟨some 4,.asg (.k (.bool false)),.none,false⟩] false [4])
 (.ret))),[],false,false,.none⟩
def x86_1:XC :=
  .seq (.seq (.reg [⟨some 11,.mv (.t 5),.none,false⟩,
 ⟨some 12,.mv (.t 0),.none,false⟩,
 ⟨some 13,.len false (.t 12),.none,false⟩,
 ⟨some 14,.bin .lss (.t 11) (.t 13),.none,false⟩] false [0,1,5,14])
 (.cond (.t 14) (.skip)
 (.exit 0 []) [0,1,5]))
 (.seq (.block 1 (.seq (.reg [⟨some 17,.mv (.t 0),.none,false⟩,
 ⟨some 18,.mv (.t 5),.none,false⟩,
 ⟨some 19,.iadr 1 .none (.t 17) (.t 18),.none,false⟩,
 ⟨some 20,.load false 1 (.t 19),.none,false⟩,
 ⟨some 21,.mv (.t 1),.none,false⟩,
 ⟨some 22,.mv (.t 5),.none,false⟩,
 ⟨some 23,.iadr 1 .none (.t 21) (.t 22),.none,false⟩,
 ⟨some 24,.load false 1 (.t 23),.none,false⟩,
 ⟨some 25,.bin .neq (.t 20) (.t 24),.none,true⟩] true [0,1,5,25])
 (.cond (.t 25) (.seq (.reg [⟨some 4,.asg (.k (.bool false)),.none,false⟩] false [4])
 (.ret))
 (.skip) [0,1,5])) [0,1,5])
 (.reg [⟨some 15,.mv (.t 5),.none,false⟩,
 ⟨some 16,.bin .add (.t 15) (.k (.int .i64 1)),.none,false⟩,
 ⟨some 5,.asg (.t 16),.none,false⟩] false [0,1,5]))
def x86:XF:=⟨2,26,[.tmp 4],
  .seq (.reg [⟨some 4,.asg (.k (.bool false)),.none,false⟩] false [0,1])
 (.seq (.seq (.reg [⟨some 6,.mv (.t 0),.none,false⟩,
 ⟨some 7,.len false (.t 6),.none,false⟩,
 ⟨some 8,.mv (.t 1),.none,false⟩,
 ⟨some 9,.len false (.t 8),.none,false⟩,
 ⟨some 10,.bin .gtr (.t 7) (.t 9),.none,false⟩] false [0,1,10])
 (.cond (.t 10) (.seq (.reg [⟨some 4,.asg (.k (.bool false)),.none,false⟩] false [4])
 (.ret))
 (.skip) [0,1]))
 (.seq (.seq (.reg [⟨some 5,.asg (.k (.int .i64 0)),.none,false⟩] false [0,1,5])
 (.block 0 (.loop x86_1 [0,1,5]) []))
 (.seq (.reg [⟨some 4,.asg (.k (.bool true)),.none,false⟩] false [4])
 (.ret)))),[],false,false,.none⟩
def x32_1:XC :=
  .reg [⟨some 5,.mv (.t 0),.none,false⟩,
 ⟨some 6,.len false (.t 5),.none,false⟩,
 ⟨some 7,.mv (.t 1),.none,false⟩,
 ⟨some 8,.len false (.t 7),.none,false⟩,
 ⟨some 9,.bin .eql (.t 6) (.t 8),.none,false⟩,
 ⟨some 10,.mv (.t 9),.none,false⟩,
 ⟨some 11,.mv (.t 0),some (10,true),false⟩,
 ⟨some 12,.mv (.t 1),some (10,true),false⟩,
 ⟨some 13,.call 86 [.t 11,.t 12] [],some (10,true),false⟩,
 ⟨some 14,.pick (.t 10) (.t 13) (.k (.bool false)),.none,false⟩,
 ⟨some 4,.asg (.t 14),.none,false⟩] false [4]
def x32:XF:=⟨2,15,[.tmp 4],
  .seq (.reg [⟨some 4,.asg (.k (.bool false)),.none,false⟩] false [0,1])
 (.seq x32_1
 (.ret)),[],false,false,.none⟩
def x17_1:XC :=
  .cond (.t 26) (.reg [⟨some 27,.mv (.t 5),.none,false⟩,
 ⟨some 28,.mv (.t 0),.none,false⟩,
 ⟨some 29,.mv (.t 7),.none,false⟩,
 ⟨some 30,.iadr 4 .none (.t 28) (.t 29),.none,false⟩,
 ⟨some 31,.fadr 0 (.t 30),.none,false⟩,
 ⟨some 32,.load false 1 (.t 31),.none,false⟩,
 ⟨some 33,.bsl 1 1 [.int .i64 0] [(0,1,.t 32)],.none,false⟩,
 ⟨some 34,.app 1 8 (.t 27) (.t 33),.none,false⟩,
 ⟨some 5,.asg (.t 34),.none,false⟩] false [0,1,5,6])
 (.reg [⟨some 35,.mv (.t 5),.none,false⟩,
 ⟨some 36,.bsl 1 1 [.int .i64 0] [(0,1,.k (.int .i64 0))],.none,false⟩,
 ⟨some 37,.app 1 8 (.t 35) (.t 36),.none,false⟩,
 ⟨some 5,.asg (.t 37),.none,false⟩] false [0,1,5,6]) [0,1,5,6]
def x17_2:XC :=
  .seq (.seq (.reg [⟨some 8,.mv (.t 6),.none,false⟩,
 ⟨some 9,.mv (.t 1),.none,false⟩,
 ⟨some 10,.len false (.t 9),.none,false⟩,
 ⟨some 11,.bin .lss (.t 8) (.t 10),.none,false⟩] false [0,1,5,6,11])
 (.cond (.t 11) (.skip)
 (.exit 0 [5]) [0,1,5,6]))
 (.seq (.block 1 (.seq (.reg [⟨some 14,.mv (.t 1),.none,false⟩,
 ⟨some 15,.mv (.t 6),.none,false⟩,
 ⟨some 16,.iadr 1 .none (.t 14) (.t 15),.none,false⟩,
 ⟨some 17,.load false 1 (.t 16),.none,false⟩,
 ⟨some 18,.conv .i64 (.t 17),.none,false⟩,
 ⟨some 19,.mv (.t 0),.none,false⟩,
 ⟨some 20,.len false (.t 19),.none,false⟩,
 ⟨some 21,.bin .add (.t 20) (.k (.int .i64 1)),.none,false⟩,
 ⟨some 22,.bin .rem (.t 18) (.t 21),.none,false⟩,
 ⟨some 7,.asg (.t 22),.none,false⟩] false [0,1,5,6,7])
 (.seq (.reg [⟨some 23,.mv (.t 7),.none,false⟩,
 ⟨some 24,.mv (.t 0),.none,false⟩,
 ⟨some 25,.len false (.t 24),.none,false⟩,
 ⟨some 26,.bin .lss (.t 23) (.t 25),.none,false⟩] false [0,1,5,6,7,26])
 x17_1)) [0,1,5,6])
 (.reg [⟨some 12,.mv (.t 6),.none,false⟩,
 ⟨some 13,.bin .add (.t 12) (.k (.int .i64 1)),.none,false⟩,
 ⟨some 6,.asg (.t 13),.none,false⟩] false [0,1,5,6]))
def x17:XF:=⟨2,39,[.tmp 4],
  .seq (.reg [⟨some 4,.asg (.k (.nils)),.none,false⟩] false [0,1])
 (.seq (.reg [⟨some 5,.asg (.k (.nils)),.none,false⟩] false [0,1,5])
 (.seq (.seq (.reg [⟨some 6,.asg (.k (.int .i64 0)),.none,false⟩] false [0,1,5,6])
 (.block 0 (.loop x17_2 [0,1,5,6]) [5]))
 (.seq (.reg [⟨some 38,.mv (.t 5),.none,false⟩,
 ⟨some 4,.asg (.t 38),.none,false⟩] false [4])
 (.ret)))),[],false,false,.none⟩
def x20_1:XC :=
  .seq (.seq (.reg [⟨some 5,.mv (.t 4),.none,false⟩,
 ⟨some 6,.mv (.t 0),.none,false⟩,
 ⟨some 7,.len false (.t 6),.none,false⟩,
 ⟨some 8,.bin .lss (.t 5) (.t 7),.none,false⟩] false [0,3,4,8])
 (.cond (.t 8) (.skip)
 (.exit 0 [3]) [0,3,4]))
 (.seq (.block 1 (.reg [⟨some 11,.mv (.t 3),.none,false⟩,
 ⟨some 12,.mv (.t 0),.none,false⟩,
 ⟨some 13,.mv (.t 4),.none,false⟩,
 ⟨some 14,.iadr 1 .none (.t 12) (.t 13),.none,false⟩,
 ⟨some 15,.load false 1 (.t 14),.none,false⟩,
 ⟨some 16,.bsl 1 1 [.int .i64 0] [(0,1,.t 15)],.none,false⟩,
 ⟨some 17,.app 1 8 (.t 11) (.t 16),.none,false⟩,
 ⟨some 3,.asg (.t 17),.none,false⟩] false [0,3,4]) [0,3,4])
 (.reg [⟨some 9,.mv (.t 4),.none,false⟩,
 ⟨some 10,.bin .add (.t 9) (.k (.int .i64 1)),.none,false⟩,
 ⟨some 4,.asg (.t 10),.none,false⟩] false [0,3,4]))
def x20:XF:=⟨1,19,[.tmp 2],
  .seq (.reg [⟨some 2,.asg (.k (.nils)),.none,false⟩] false [0])
 (.seq (.reg [⟨some 3,.asg (.k (.nils)),.none,false⟩] false [0,3])
 (.seq (.seq (.reg [⟨some 4,.asg (.k (.int .i64 0)),.none,false⟩] false [0,3,4])
 (.block 0 (.loop x20_1 [0,3,4]) [3]))
 (.seq (.reg [⟨some 18,.mv (.t 3),.none,false⟩,
 ⟨some 2,.asg (.t 18),.none,false⟩] false [2])
 (.ret)))),[],false,false,.none⟩
def x67_1:XC :=
  .reg [⟨some 5,.mv (.t 1),.none,false⟩,
 ⟨some 6,.fadr 0 (.t 2),.none,false⟩,
 ⟨some 7,.load false 1 (.t 6),.none,false⟩,
 ⟨some 8,.bin .geq (.t 5) (.t 7),.none,false⟩,
 ⟨some 9,.mv (.t 8),.none,false⟩,
 ⟨some 10,.mv (.t 1),some (9,true),false⟩,
 ⟨some 11,.fadr 2 (.t 2),some (9,true),false⟩,
 ⟨some 12,.load false 1 (.t 11),some (9,true),false⟩,
 ⟨some 13,.bin .lss (.t 10) (.t 12),some (9,true),false⟩,
 ⟨some 14,.pick (.t 9) (.t 13) (.k (.bool false)),.none,false⟩,
 ⟨some 4,.asg (.t 14),.none,false⟩] false [4]
def x67:XF:=⟨2,15,[.tmp 4],
  .seq (.reg [⟨some 2,.box (.t 0),.none,false⟩,
 ⟨some 4,.asg (.k (.bool false)),.none,false⟩] false [1,2])
 (.seq x67_1
 (.ret)),[],false,false,.none⟩
def tt:TT:=(.node 67 x67 (.node 26 x26 (.node 20 x20 (.node 19 x19 (.node 17 x17 .leaf .leaf) .leaf) (.node 23 x23 (.node 21 x21 .leaf .leaf) .leaf)) (.node 32 x32 (.node 30 x30 (.node 29 x29 .leaf .leaf) .leaf) (.node 35 x35 .leaf .leaf))) (.node 97 x97 (.node 82 x82 (.node 75 x75 (.node 74 x74 .leaf .leaf) .leaf) (.node 86 x86 (.node 85 x85 .leaf .leaf) .leaf)) (.node 117 x117 (.node 113 x113 (.node 98 x98 .leaf .leaf) .leaf) (.node 120 x120 .leaf .leaf))))
def T:Nat→Option XF:=tt.get
def hintsOf:Nat→List Hint
  | 75=>[⟨[0],1,false⟩,⟨[0,3],1,false⟩,⟨[0,3,4],1,false⟩,⟨[0,3,4,7],3,false⟩,⟨[3],0,false⟩,⟨[0,3,4],0,false⟩,⟨[0,3,4],3,false⟩,⟨[0,3,4],0,false⟩,⟨[0,3,4],3,false⟩,⟨[0,3,4],0,false⟩,⟨[3],0,false⟩,⟨[2],2,false⟩]
  | 23=>[⟨[1,2],2,false⟩,⟨[1,2,12],8,false⟩,⟨[4],1,false⟩,⟨[1,2],0,false⟩,⟨[4],4,false⟩]
  | 29=>[⟨[0,1],1,false⟩,⟨[0,1,10],5,false⟩,⟨[4],1,false⟩,⟨[0,1],0,false⟩,⟨[0,1,5],1,false⟩,⟨[0,1,5,14],4,false⟩,⟨[],0,false⟩,⟨[0,1,5],0,false⟩,⟨[0,1,5,25],8,false⟩,⟨[4],1,false⟩,⟨[0,1,5],0,false⟩,⟨[0,1,5],0,false⟩,⟨[0,1,5],3,false⟩,⟨[0,1,5],0,false⟩,⟨[],0,false⟩,⟨[4],1,false⟩]
  | 35=>[⟨[0,1,4],1,false⟩,⟨[1,4,5],5,false⟩,⟨[4,5,6],3,false⟩,⟨[4,5,6,7],1,false⟩,⟨[4,5,6,7,16],3,false⟩,⟨[4,5,6],0,false⟩,⟨[4,5,6,7],0,false⟩,⟨[4,5,6,7,23],5,false⟩,⟨[4,5,6,7],6,false⟩,⟨[4,5,6,7],0,false⟩,⟨[4,5,6,7],0,false⟩,⟨[4,5,6,7],3,false⟩,⟨[4,5,6,7],0,false⟩,⟨[4,5,6],0,false⟩,⟨[4],4,false⟩]
  | 97=>[⟨[1],2,false⟩,⟨[23],19,false⟩,⟨[2],1,false⟩,⟨[],0,false⟩,⟨[2],1,false⟩]
  | 74=>[⟨[0,2],2,false⟩,⟨[0,2,11],6,false⟩,⟨[2,3],3,false⟩,⟨[0,2],0,false⟩,⟨[2,4],7,false⟩,⟨[2,4,5],3,false⟩,⟨[2,4,5,21],2,false⟩,⟨[2,3],4,false⟩,⟨[2,4],0,false⟩,⟨[2,3],3,false⟩]
  | 113=>[⟨[1],2,false⟩,⟨[2],7,false⟩]
  | 120=>[⟨[0],1,false⟩,⟨[0],2,false⟩]
  | 98=>[⟨[1,2],2,false⟩,⟨[4],14,false⟩]
  | 21=>[⟨[0,1],1,false⟩,⟨[0,1,5],4,false⟩,⟨[0,1,5,10],2,false⟩,⟨[],0,false⟩,⟨[0,1,5],0,false⟩,⟨[0,1,5,19],7,false⟩,⟨[4],2,false⟩,⟨[0,1,5],0,false⟩,⟨[0,1,5],0,false⟩,⟨[0,1,5],3,false⟩,⟨[0,1,5],0,false⟩,⟨[],0,false⟩,⟨[4],1,false⟩]
  | 26=>[⟨[0,3],2,false⟩,⟨[0,3,5],1,false⟩,⟨[0,3,5,6],3,false⟩,⟨[0,3,5,6,12],4,false⟩,⟨[5],0,false⟩,⟨[0,3,5,6],0,false⟩,⟨[0,3,5,6,18],4,false⟩,⟨[0,3,5,6],5,false⟩,⟨[0,3,5,6],0,false⟩,⟨[0,3,5,6],0,false⟩,⟨[0,3,5,6],3,false⟩,⟨[0,3,5,6],0,false⟩,⟨[5],0,false⟩,⟨[4],2,false⟩]
  | 30=>[⟨[0,1],1,false⟩,⟨[0,1,5],1,false⟩,⟨[0,1,5,6],1,false⟩,⟨[0,1,5,6,10],4,false⟩,⟨[5],0,false⟩,⟨[0,1,5,6],0,false⟩,⟨[0,1,5,6],15,false⟩,⟨[0,1,5,6],0,false⟩,⟨[0,1,5,6],3,false⟩,⟨[0,1,5,6],0,false⟩,⟨[5],0,false⟩,⟨[4],2,false⟩]
  | 117=>[⟨[1,2],2,false⟩,⟨[4],11,false⟩]
  | 82=>[⟨[0,1],1,false⟩,⟨[0,1,5],1,false⟩,⟨[0,1,5,9],4,false⟩,⟨[],0,false⟩,⟨[0,1,5],0,false⟩,⟨[0,1,5,17],6,false⟩,⟨[4],1,false⟩,⟨[0,1,5],0,false⟩,⟨[0,1,5],0,false⟩,⟨[0,1,5],3,false⟩,⟨[0,1,5],0,false⟩,⟨[],0,false⟩,⟨[4],1,false⟩]
  | 85=>[⟨[0,1,2],1,false⟩,⟨[0,1,2,7],1,false⟩,⟨[0,1,2,7,11],4,false⟩,⟨[2],0,false⟩,⟨[0,1,2,7],0,false⟩,⟨[0,1,2,7,19],6,false⟩,⟨[6],5,false⟩,⟨[0,1,2,7],0,false⟩,⟨[0,1,2,7],0,false⟩,⟨[0,1,2,7],3,false⟩,⟨[0,1,2,7],0,false⟩,⟨[2],0,false⟩,⟨[6],2,false⟩]
  | 19=>[⟨[0,1],1,false⟩,⟨[0,1,5],1,false⟩,⟨[0,1,5,9],4,false⟩,⟨[],0,false⟩,⟨[0,1,5],0,false⟩,⟨[0,1,5,17],6,false⟩,⟨[4],1,false⟩,⟨[0,1,5],0,false⟩,⟨[0,1,5],0,false⟩,⟨[0,1,5],3,false⟩,⟨[0,1,5],0,false⟩,⟨[],0,false⟩,⟨[4],1,false⟩]
  | 86=>[⟨[0,1],1,false⟩,⟨[0,1,10],5,false⟩,⟨[4],1,false⟩,⟨[0,1],0,false⟩,⟨[0,1,5],1,false⟩,⟨[0,1,5,14],4,false⟩,⟨[],0,false⟩,⟨[0,1,5],0,false⟩,⟨[0,1,5,25],8,false⟩,⟨[4],1,false⟩,⟨[0,1,5],0,false⟩,⟨[0,1,5],0,false⟩,⟨[0,1,5],3,false⟩,⟨[0,1,5],0,false⟩,⟨[],0,false⟩,⟨[4],1,false⟩]
  | 32=>[⟨[0,1],1,false⟩,⟨[4],11,false⟩]
  | 17=>[⟨[0,1],1,false⟩,⟨[0,1,5],1,false⟩,⟨[0,1,5,6],1,false⟩,⟨[0,1,5,6,11],4,false⟩,⟨[5],0,false⟩,⟨[0,1,5,6],0,false⟩,⟨[0,1,5,6,7],10,false⟩,⟨[0,1,5,6,7,26],4,false⟩,⟨[0,1,5,6],9,false⟩,⟨[0,1,5,6],4,false⟩,⟨[0,1,5,6],0,false⟩,⟨[0,1,5,6],0,false⟩,⟨[0,1,5,6],3,false⟩,⟨[0,1,5,6],0,false⟩,⟨[5],0,false⟩,⟨[4],2,false⟩]
  | 20=>[⟨[0],1,false⟩,⟨[0,3],1,false⟩,⟨[0,3,4],1,false⟩,⟨[0,3,4,8],4,false⟩,⟨[3],0,false⟩,⟨[0,3,4],0,false⟩,⟨[0,3,4],8,false⟩,⟨[0,3,4],0,false⟩,⟨[0,3,4],3,false⟩,⟨[0,3,4],0,false⟩,⟨[3],0,false⟩,⟨[2],2,false⟩]
  | 67=>[⟨[1,2],2,false⟩,⟨[4],11,false⟩]
  | _=>[]
end Go.Ab
namespace Go.Ab
open Go
set_option linter.unusedVariables false
set_option linter.unusedSimpArgs false
set_option maxRecDepth 100000
set_option maxHeartbeats 4000000
def Ok1 (P : Program) (f : Nat) (x : XF) : Prop := x.ext = Option.none ∧ ∃ fn code hints, P.funcs[f]? = some fn ∧ (fn.name == "runtime.NumGoroutine") = false ∧ fn.body = some code ∧ x.np ≤ fn.ntmps ∧ trC P (fun d => decide (d < fn.ntmps) && !x.prot.contains d) code hints = some (x.body, []) ∧ trRs P fn.results.toList = some x.res
theorem tok17:Ok1 Go.Proofs.Try.prog 17 x17:=⟨rfl,Go.Proofs.Try.f17,_,hintsOf 17,Go.Proofs.Try.func17,by kernel_rfl,rfl,by decide,by kernel_rfl,by kernel_rfl⟩
theorem tok19:Ok1 Go.Proofs.Try.prog 19 x19:=⟨rfl,Go.Proofs.Try.f19,_,hintsOf 19,Go.Proofs.Try.func19,by kernel_rfl,rfl,by decide,by kernel_rfl,by kernel_rfl⟩
theorem tok20:Ok1 Go.Proofs.Try.prog 20 x20:=⟨rfl,Go.Proofs.Try.f20,_,hintsOf 20,Go.Proofs.Try.func20,by kernel_rfl,rfl,by decide,by kernel_rfl,by kernel_rfl⟩
theorem tok21:Ok1 Go.Proofs.Try.prog 21 x21:=⟨rfl,Go.Proofs.Try.f21,_,hintsOf 21,Go.Proofs.Try.func21,by kernel_rfl,rfl,by decide,by kernel_rfl,by kernel_rfl⟩
theorem tok23:Ok1 Go.Proofs.Try.prog 23 x23:=⟨rfl,Go.Proofs.Try.f23,_,hintsOf 23,Go.Proofs.Try.func23,by kernel_rfl,rfl,by decide,by kernel_rfl,by kernel_rfl⟩
theorem tok26:Ok1 Go.Proofs.Try.prog 26 x26:=⟨rfl,Go.Proofs.Try.f26,_,hintsOf 26,Go.Proofs.Try.func26,by kernel_rfl,rfl,by decide,by kernel_rfl,by kernel_rfl⟩
theorem tok29:Ok1 Go.Proofs.Try.prog 29 x29:=⟨rfl,Go.Proofs.Try.f29,_,hintsOf 29,Go.Proofs.Try.func29,by kernel_rfl,rfl,by decide,by kernel_rfl,by kernel_rfl⟩
theorem tok30:Ok1 Go.Proofs.Try.prog 30 x30:=⟨rfl,Go.Proofs.Try.f30,_,hintsOf 30,Go.Proofs.Try.func30,by kernel_rfl,rfl,by decide,by kernel_rfl,by kernel_rfl⟩
theorem tok32:Ok1 Go.Proofs.Try.prog 32 x32:=⟨rfl,Go.Proofs.Try.f32,_,hintsOf 32,Go.Proofs.Try.func32,by kernel_rfl,rfl,by decide,by kernel_rfl,by kernel_rfl⟩
theorem tok35:Ok1 Go.Proofs.Try.prog 35 x35:=⟨rfl,Go.Proofs.Try.f35,_,hintsOf 35,Go.Proofs.Try.func35,by kernel_rfl,rfl,by decide,by kernel_rfl,by kernel_rfl⟩
theorem tok67:Ok1 Go.Proofs.Try.prog 67 x67:=⟨rfl,Go.Proofs.Try.f67,_,hintsOf 67,Go.Proofs.Try.func67,by kernel_rfl,rfl,by decide,by kernel_rfl,by kernel_rfl⟩
theorem tok74:Ok1 Go.Proofs.Try.prog 74 x74:=⟨rfl,Go.Proofs.Try.f74,_,hintsOf 74,Go.Proofs.Try.func74,by kernel_rfl,rfl,by decide,by kernel_rfl,by kernel_rfl⟩
theorem tok75:Ok1 Go.Proofs.Try.prog 75 x75:=⟨rfl,Go.Proofs.Try.f75,_,hintsOf 75,Go.Proofs.Try.func75,by kernel_rfl,rfl,by decide,by kernel_rfl,by kernel_rfl⟩
theorem tok82:Ok1 Go.Proofs.Try.prog 82 x82:=⟨rfl,Go.Proofs.Try.f82,_,hintsOf 82,Go.Proofs.Try.func82,by kernel_rfl,rfl,by decide,by kernel_rfl,by kernel_rfl⟩
theorem tok85:Ok1 Go.Proofs.Try.prog 85 x85:=⟨rfl,Go.Proofs.Try.f85,_,hintsOf 85,Go.Proofs.Try.func85,by kernel_rfl,rfl,by decide,by kernel_rfl,by kernel_rfl⟩
theorem tok86:Ok1 Go.Proofs.Try.prog 86 x86:=⟨rfl,Go.Proofs.Try.f86,_,hintsOf 86,Go.Proofs.Try.func86,by kernel_rfl,rfl,by decide,by kernel_rfl,by kernel_rfl⟩
theorem tok97:Ok1 Go.Proofs.Try.prog 97 x97:=⟨rfl,Go.Proofs.Try.f97,_,hintsOf 97,Go.Proofs.Try.func97,by kernel_rfl,rfl,by decide,by kernel_rfl,by kernel_rfl⟩
theorem tok98:Ok1 Go.Proofs.Try.prog 98 x98:=⟨rfl,Go.Proofs.Try.f98,_,hintsOf 98,Go.Proofs.Try.func98,by kernel_rfl,rfl,by decide,by kernel_rfl,by kernel_rfl⟩
theorem tok113:Ok1 Go.Proofs.Try.prog 113 x113:=⟨rfl,Go.Proofs.Try.f113,_,hintsOf 113,Go.Proofs.Try.func113,by kernel_rfl,rfl,by decide,by kernel_rfl,by kernel_rfl⟩
theorem tok117:Ok1 Go.Proofs.Try.prog 117 x117:=⟨rfl,Go.Proofs.Try.f117,_,hintsOf 117,Go.Proofs.Try.func117,by kernel_rfl,rfl,by decide,by kernel_rfl,by kernel_rfl⟩
theorem tok120:Ok1 Go.Proofs.Try.prog 120 x120:=⟨rfl,Go.Proofs.Try.f120,_,hintsOf 120,Go.Proofs.Try.func120,by kernel_rfl,rfl,by decide,by kernel_rfl,by kernel_rfl⟩
theorem tok:TOk Go.Proofs.Try.prog T:=fun f x hx=>TT.get_all (t:=tt) (Q:=fun f x=>(∃ k,x.ext=some k∧CallOk1 Go.Proofs.Try.prog f (extSem k)) ∨ Ok1 Go.Proofs.Try.prog f x) ⟨.inr tok67,⟨.inr tok26,⟨.inr tok20,⟨.inr tok19,⟨.inr tok17,trivial,trivial⟩,trivial⟩,⟨.inr tok23,⟨.inr tok21,trivial,trivial⟩,trivial⟩⟩,⟨.inr tok32,⟨.inr tok30,⟨.inr tok29,trivial,trivial⟩,trivial⟩,⟨.inr tok35,trivial,trivial⟩⟩⟩,⟨.inr tok97,⟨.inr tok82,⟨.inr tok75,⟨.inr tok74,trivial,trivial⟩,trivial⟩,⟨.inr tok86,⟨.inr tok85,trivial,trivial⟩,trivial⟩⟩,⟨.inr tok117,⟨.inr tok113,⟨.inr tok98,trivial,trivial⟩,trivial⟩,⟨.inr tok120,trivial,trivial⟩⟩⟩⟩ f x hx
theorem mixed:Go.Proofs.Try.prog.follows .mixedOrders=true:=by kernel_rfl
end Go.Ab
namespace Go.Ab
open Go
set_option linter.unusedVariables false
set_option linter.unusedSimpArgs false
set_option maxRecDepth 100000
set_option maxHeartbeats 4000000
open Go.ChangeShapes Go.WideShapes Go.ChangeAt Go.RowKit
theorem own:ownKnob Go.Proofs.Try.prog.godebug=none:=by kernel_rfl
theorem laidOut:laidOutB Go.Proofs.Try.prog=true:=by kernel_rfl
def Rl26_Op (x:l26_Op):Prop:=Rng .i64 x.Kind∧Rng .u8 x.Area∧Rng .u8 x.Id∧Rng .u8 x.Slot∧Rng .u8 x.N∧Rng .u16 x.Mask
theorem opnl26_Op (n:Nat):Opn Go.Proofs.Try.prog (n + 2) 132 cl26_Op Rl26_Op:=by
  intro H d pvs h hw
  obtain ⟨ds,g0⟩:=pv_struct Go.Proofs.Try.underlying132 h hw
  clear h hw
  obtain ⟨d1,ds1,a1,b1,rfl,h1,g1,rfl⟩:=zipL_cons g0
  obtain ⟨d2,ds2,a2,b2,rfl,h2,g2,rfl⟩:=zipL_cons g1
  obtain ⟨d3,ds3,a3,b3,rfl,h3,g3,rfl⟩:=zipL_cons g2
  obtain ⟨d4,ds4,a4,b4,rfl,h4,g4,rfl⟩:=zipL_cons g3
  obtain ⟨d5,ds5,a5,b5,rfl,h5,g5,rfl⟩:=zipL_cons g4
  obtain ⟨d6,ds6,a6,b6,rfl,h6,g6,rfl⟩:=zipL_cons g5
  obtain rfl:=zipL_nil g6
  obtain ⟨x1,rfl,r1⟩:=(opn_int (n:=n + 0) Go.Proofs.Try.underlying3:Opn Go.Proofs.Try.prog (n + 1) 3 (cint .i64) (Rng .i64)) H d1 a1 h1.1 h1.2
  obtain ⟨x2,rfl,r2⟩:=(opn_int (n:=n + 0) Go.Proofs.Try.underlying5:Opn Go.Proofs.Try.prog (n + 1) 5 (cint .u8) (Rng .u8)) H d2 a2 h2.1 h2.2
  obtain ⟨x3,rfl,r3⟩:=(opn_int (n:=n + 0) Go.Proofs.Try.underlying5:Opn Go.Proofs.Try.prog (n + 1) 5 (cint .u8) (Rng .u8)) H d3 a3 h3.1 h3.2
  obtain ⟨x4,rfl,r4⟩:=(opn_int (n:=n + 0) Go.Proofs.Try.underlying5:Opn Go.Proofs.Try.prog (n + 1) 5 (cint .u8) (Rng .u8)) H d4 a4 h4.1 h4.2
  obtain ⟨x5,rfl,r5⟩:=(opn_int (n:=n + 0) Go.Proofs.Try.underlying5:Opn Go.Proofs.Try.prog (n + 1) 5 (cint .u8) (Rng .u8)) H d5 a5 h5.1 h5.2
  obtain ⟨x6,rfl,r6⟩:=(opn_int (n:=n + 0) Go.Proofs.Try.underlying69:Opn Go.Proofs.Try.prog (n + 1) 69 (cint .u16) (Rng .u16)) H d6 a6 h6.1 h6.2
  exact ⟨⟨x1,x2,x3,x4,x5,x6⟩,rfl,r1,r2,r3,r4,r5,r6⟩
theorem readSpaceAlike (H:Type) (ds:List (DataW H)) (ws:List PV) (h:argsPV Go.Proofs.Try.prog 12 [5,22,23,23] ds=some ws ∧ ∀ x ∈ DataW.weightsEach Go.Proofs.Try.prog [5,22,23,23] ds,x ≤ reachBytes):∃ (x1:Int) (x2:List l26_Op) (x3:List Int) (x4:List Int),(Rng .u8 x1)∧(x2.length < 140737488355328 ∧ ∀ y ∈ x2,Rl26_Op y)∧(x3.length < 140737488355328 ∧ ∀ y ∈ x3,Rng .u8 y)∧(x4.length < 140737488355328 ∧ ∀ y ∈ x4,Rng .u8 y)∧ws=[.int .u8 x1,.sl x2.length (x2.flatMap cl26_Op),.sl x3.length (x3.flatMap (cint .u8)),.sl x4.length (x4.flatMap (cint .u8))]:=by
  obtain ⟨d1,ds1,w1,ws1,rfl,rfl,h1,h⟩:=args_cons h
  obtain ⟨d2,ds2,w2,ws2,rfl,rfl,h2,h⟩:=args_cons h
  obtain ⟨d3,ds3,w3,ws3,rfl,rfl,h3,h⟩:=args_cons h
  obtain ⟨d4,ds4,w4,ws4,rfl,rfl,h4,h⟩:=args_cons h
  obtain ⟨rfl,rfl⟩:=args_nil h
  obtain ⟨x1,rfl,r1⟩:=arg_one (by kernel_rfl) (opn_int (n:=11) Go.Proofs.Try.underlying5) h1
  obtain ⟨x2,rfl,r2⟩:=arg_one (by kernel_rfl) (opn_sl (n:=11) Go.Proofs.Try.underlying22 (by decide +kernel) (opnl26_Op 9)) h2
  obtain ⟨x3,rfl,r3⟩:=arg_one (by kernel_rfl) (opn_sl (n:=11) Go.Proofs.Try.underlying23 (by decide +kernel) (opn_int (n:=10) Go.Proofs.Try.underlying5)) h3
  obtain ⟨x4,rfl,r4⟩:=arg_one (by kernel_rfl) (opn_sl (n:=11) Go.Proofs.Try.underlying23 (by decide +kernel) (opn_int (n:=10) Go.Proofs.Try.underlying5)) h4
  exact ⟨x1,x2,x3,x4,r1,r2,r3,r4,rfl⟩
end Go.Ab
namespace Go.Ab
open Go
set_option linter.unusedVariables false
set_option linter.unusedSimpArgs false
noncomputable def pureC (T:Nat→Option XF) (l:List Nat):Calls':=fun f ws=>if l.contains f=true then evI T f ws else Option.none
theorem pureC_ok {P:Program} (hm:P.follows .mixedOrders=true) {T:Nat→Option XF} (hT:TOk P T) (l:List Nat):CallOk P (pureC T l):=by
  intro f ws r outs h
  unfold pureC at h
  split at h
  · obtain ⟨n,hn⟩:=evI_some.1 h
    exact evF_sound hm hT n f ws r outs hn
  · cases h
section
variable {C:Calls'} {K:HCalls} {T:Nat→Option HF}
theorem Run.all {c:HC} {s s':HS} {ex:Ex} (h:Run C K T c s ex s'):∃ n,∀ a b,n ≤ a→n ≤ b→evHC C (evHF C K T a) b c s=some (ex,s'):=by
  obtain ⟨n,hn⟩:=h
  exact ⟨n,fun a b ha hb=>evHC_mono (evHF_mono ha) hb hn⟩
theorem Ans.all {f:Nat} {ws:List HV} {st st':HSt} {r:HV} (h:Ans C K T f ws st r st'):∃ n,∀ a,n ≤ a→evHF C K T a f ws st=some (r,st'):=by
  obtain ⟨n,hn⟩:=h
  exact ⟨n,fun a ha=>evHF_mono ha _ _ _ _ hn⟩
theorem Run.of {c:HC} {s s':HS} {ex:Ex} (n:Nat) (h:evHC C (evHF C K T n) n c s=some (ex,s')):Run C K T c s ex s':=⟨n,h⟩
end
end Go.Ab
namespace Go.Ab
open Go
set_option linter.unusedVariables false
set_option linter.unusedSimpArgs false
def allO {α β:Type} (f:α→Option β):List α→Option (List β)
  | []=>some []
  | c :: r=>match f c,allO f r with
    | some x,some xs=>some (x :: xs)
    | _,_=>Option.none
def rdV (st:HSt):Nat→HV→Option PV
  | _,.p v=>if v.free then some v else Option.none
  | k + 1,.row a off len sz=>match st[a]? with
    | some (.row sz' n cs)=>if sz' = sz∧off + len * sz ≤ cs.length then (allO (rdV st k) ((cs.drop off).take (len * sz))).map (.sl len) else Option.none
    | _=>Option.none
  | _,_=>Option.none
def rdH (st:HSt):HV→Option PV
  | .p v=>if v.loose then some v else Option.none
  | .agg cs=>(allO (rdV st 3) cs).map .agg
  | .row a off len sz=>rdV st 4 (.row a off len sz)
  | _=>Option.none
def rdL (st:HSt):List HV→Option (List PV)
  | []=>some []
  | v :: r=>match rdH st v,rdL st r with
    | some x,some xs=>some (x :: xs)
    | _,_=>Option.none
def lentC (C:Calls'):HCalls:=fun f ws st=>match rdL st ws with
  | some vs=>match C f vs with
    | some (v,_)=>if v.flat then some (.p v,st) else Option.none
    | _=>Option.none
  | _=>Option.none
theorem allO_get {α β:Type} {f:α→Option β}:∀ {cs:List α} {vs:List β},allO f cs=some vs→vs.length=cs.length ∧ ∀ i (hi:i < cs.length) (hi':i < vs.length),f cs[i]=some vs[i]
  | [],vs,h=>by simp only [allO,Option.some.injEq] at h;subst h;exact ⟨rfl,fun i hi=>by simp at hi⟩
  | c :: cs,vs,h=>by
    simp only [allO] at h
    split at h
    · rename_i x xs hx hxs
      obtain rfl:=Option.some.inj h
      obtain ⟨h1,h2⟩:=allO_get hxs
      refine ⟨by simp [h1],fun i hi hi'=>?_⟩
      cases i with
      | zero=>exact hx
      | succ i=>exact h2 i (by simpa using hi) (by simpa using hi')
    · cases h
theorem rdL_get {st:HSt}:∀ {ws:List HV} {vs:List PV},rdL st ws=some vs→vs.length=ws.length ∧ ∀ i (hi:i < ws.length) (hi':i < vs.length),rdH st ws[i]=some vs[i]
  | [],vs,h=>by simp only [rdL,Option.some.injEq] at h;subst h;exact ⟨rfl,fun i hi=>by simp at hi⟩
  | w :: ws,vs,h=>by
    simp only [rdL] at h
    split at h
    · rename_i x xs hx hxs
      obtain rfl:=Option.some.inj h
      obtain ⟨h1,h2⟩:=rdL_get hxs
      refine ⟨by simp [h1],fun i hi hi'=>?_⟩
      cases i with
      | zero=>exact hx
      | succ i=>exact h2 i (by simpa using hi) (by simpa using hi')
    · cases h
section
variable {P:Program}
theorem shAll_frame {w:World} {L:LM} {v:PV} {u:Value} (h3:v.loose=true) (h4:RepV w L Option.none v u):RepV w (fun b j=>shAll (L b j)) Option.none v u :=
  h4.frame (fun b j hr=>by rw [hr.shared];rfl) (fun q hq=>by rw [loose_refs h3] at hq;cases hq) fun _ _ _=>rfl
theorem rdV_rep {w:World} {L:LM} {A:AM} {st:HSt} (O:HOk w L A st):∀ {k:Nat} {x:HV} {v:PV} {u:Value},rdV st k x=some v→RepH w L A x u →
    RepV w (fun b j=>shAll (L b j)) Option.none v u∧v.free=true:=by
  have pc:∀ {pv v:PV} {u:Value},(if pv.free=true then some pv else Option.none)=some v→RepH w L A (.p pv) u→RepV w (fun b j=>shAll (L b j)) Option.none v u∧v.free=true:=fun {pv v u} h H=>by
    split at h
    · rename_i hf
      obtain rfl:=Option.some.inj h
      obtain ⟨h3,h4⟩:=H.pv
      exact ⟨shAll_frame h3 h4,hf⟩
    · cases h
  intro k
  induction k with
  | zero =>
    intro x v u h H
    cases x with
    | p pv=>exact pc (by simpa only [rdV] using h) H
    | _=>simp [rdV] at h
  | succ k ih =>
    intro x v u h H
    cases x with
    | p pv=>exact pc (by simpa only [rdV] using h) H
    | row a off len sz =>
      simp only [rdV] at h
      split at h
      · rename_i sz' n cs hst
        split at h
        · rename_i hc
          obtain ⟨rfl,hle⟩:=hc
          simp only [Option.map_eq_some_iff] at h
          obtain ⟨vs,hvs,rfl⟩:=h
          obtain ⟨h1,h2⟩:=allO_get hvs
          obtain ⟨⟨b',o,m⟩,hA⟩:=O.live a _ hst (by simp)
          obtain ⟨hb,ho,hn,hm,hlab,hcm,hcells⟩:=O.blk a b' o m _ hA hst
          subst ho
          have hl1:((cs.drop off).take (len * sz')).length=len * sz':=by simp;omega
          cases H with
          | row _ _ _ _ b j cap ha hl hh =>
            obtain ⟨rfl,rfl,hcap⟩:=hh b' 0 m hA
            have hcell:∀ i (hi:i < vs.length),RepV w (fun b j=>shAll (L b j)) Option.none vs[i] (cv w b (0 + off + i))∧vs[i].free=true:=fun i hi=>by
              have hi1:i < ((cs.drop off).take (len * sz')).length:=by omega
              have e1:=h2 i hi1 hi
              have hi2:off + i < cs.length:=by omega
              have h3:=hcells (off + i) hi2
              have e3:((cs.drop off).take (len * sz'))[i]=cs[off + i]:=by simp
              rw [e3] at e1
              rw [← Nat.add_assoc] at h3
              exact ih e1 h3
            refine ⟨.sl _ len vs b (0 + off) cap hl (fun i hi=>?_) (fun i hi=>free_cok (hcell i hi).2) (fun i hi=>(hcell i hi).1),rfl⟩
            have:=hlab (off + i) (by omega)
            rw [show 0 + off + i=0 + (off + i) by omega,this];rfl
        · cases h
      · cases h
    | _=>simp [rdV] at h
theorem rdH_rep {w:World} {L:LM} {A:AM} {st:HSt} (O:HOk w L A st) (shO:∀ b j,L b j = .sh→shAll (L b j) = .sh) {x:HV} {v:PV} {u:Value} (h:rdH st x=some v) (H:RepH w L A x u) :
    RepH w (fun b j=>shAll (L b j)) [] (.p v) u:=by
  cases x with
  | p pv =>
    simp only [rdH] at h
    split at h
    · rename_i hl
      obtain rfl:=Option.some.inj h
      obtain ⟨h3,h4⟩:=H.pv
      exact .p _ _ h3 (shAll_frame h3 h4)
    · cases h
  | row a off len sz =>
    simp only [rdH] at h
    obtain ⟨h1,h2⟩:=rdV_rep O h H
    exact .p _ _ (free_loose h2) h1
  | agg cs =>
    simp only [rdH,Option.map_eq_some_iff] at h
    obtain ⟨vs,hvs,rfl⟩:=h
    obtain ⟨h1,h2⟩:=allO_get hvs
    cases H with
    | agg _ us hz hc =>
      have hcell:∀ i (hi:i < vs.length),RepV w (fun b j=>shAll (L b j)) Option.none vs[i] (us.getD i undef)∧vs[i].free=true:=fun i hi =>
        rdV_rep O (h2 i (by omega) hi) (hc i (by omega))
      refine .p _ _ ?_ (.agg _ vs us (by omega) fun i hi=>(hcell i hi).1)
      have e1:noOwnL vs=true:=noOwnL_of fun c hm=>by obtain ⟨i,hi,rfl⟩:=List.getElem_of_mem hm;exact free_noOwn (hcell i hi).2
      have e2:refsL vs=[]:=refsL_nil fun i hi=>free_refs (hcell i hi).2
      simp [PV.loose,noOwn,refs,e1,e2]
  | _=>simp [rdH] at h
theorem flat1_loose {v:PV} (h:v.flat1=true):noOwn v=true∧refs v=[]:=by cases v <;> simp_all [PV.flat1,noOwn,refs]
theorem flat_loose {v:PV} (h:v.flat=true):v.loose=true:=by
  have key:∀ cs:List PV,cs.all PV.flat1=true→noOwnL cs=true∧refsL cs=[]:=fun cs hc=>by
    refine ⟨noOwnL_of fun c hm=>(flat1_loose (List.all_eq_true.1 hc c hm)).1,refsL_nil fun i hi=>(flat1_loose (List.all_eq_true.1 hc _ (List.getElem_mem hi))).2⟩
  cases v with
  | agg cs=>have:=key cs h;simp [PV.loose,noOwn,refs,this.1,this.2]
  | tup cs=>have:=key cs h;simp [PV.loose,noOwn,refs,this.1,this.2]
  | _=>simp_all [PV.flat,PV.flat1,PV.loose,noOwn,refs]
theorem lentC_ok {C:Calls'} (hC:CallOk P C):HCallOk P (lentC C):=by
  intro f ws st r st' h
  unfold lentC at h
  split at h
  case h_2=>cases h
  rename_i vs hrd
  split at h
  case h_2=>cases h
  rename_i v st1 hev
  split at h
  case isFalse=>cases h
  rename_i hflat
  simp only [Option.some.injEq,Prod.mk.injEq] at h
  obtain ⟨rfl,rfl⟩:=h
  obtain ⟨hfn,hcalls⟩:=hC f vs _ _ hev
  refine ⟨hfn,fun args w L A hsz O bd Hargs=>?_⟩
  have W0:=WF.shAll O.wf
  have shO:∀ b j,L b j = .sh→shAll (L b j) = .sh:=fun b j h=>by rw [h];rfl
  obtain ⟨hlen,hget⟩:=rdL_get hrd
  have hsz':args.size=vs.length:=by rw [hlen,hsz]
  refine Calls.mono (hcalls args w _ hsz' W0 (fun b j q p i h=>by cases e:L b j <;> simp [e,shAll] at h) fun i hi=>?_) fun en w' he=>?_
  · have hi2:i < ws.length:=by omega
    obtain ⟨h1,h2⟩:=(rdH_rep O shO (hget i hi2 hi) (Hargs i hi2)).pv
    have h3:noOwn vs[i]=true:=by simp only [PV.loose,Bool.and_eq_true] at h1;exact h1.1
    exact ⟨h2.loose h3 _,loose_refs h1⟩
  · cases en with
    | panicked=>exact he.elim
    | outgrown=>exact he.elim
    | returned u =>
      obtain ⟨L',W',E,_,Hr,_,_⟩:=he
      have hl:v.loose=true:=flat_loose hflat
      have blk:∀ b,b < w.heap.size→SameBlk (fun b j=>shAll (L b j)) b w.heap[b]? w'.heap[b]?:=E.blk
      have blk':∀ b,b < w.heap.size→SameBlk L b w.heap[b]? w'.heap[b]?:=fun b hb=>(blk b hb).weaken fun j hj=>by
        rcases hj with hj | hj <;> simp [hj,shAll]
      let L2:LM:=fun b j=>if b < w.heap.size then L b j else .out
      have hin:∀ {b j},b < w.heap.size→L2 b j=L b j:=fun {b j} h=>by simp only [L2,h,if_true]
      have cell : ∀ b j,L b j ≠ .out→w'.cell? ⟨b,j,Option.none⟩=w.cell? ⟨b,j,Option.none⟩∧w'.frozen? ⟨b,j,Option.none⟩=w.frozen? ⟨b,j,Option.none⟩:=fun b j h=>by
        have hb:=O.wf.lt h
        obtain ⟨v,hv⟩:=O.wf.ex b j h
        have hs:=blk b hb
        cases e:w.heap[b]? with
        | none=>simp [World.cell?,e] at hv
        | some ob =>
          rw [e] at hs
          cases ob with
          | cells c t fr =>
            cases e':w'.heap[b]? with
            | none=>rw [e'] at hs;cases hs
            | some ob' =>
              rw [e'] at hs
              cases ob' with
              | cells c' t' fr' =>
                obtain ⟨rfl,rfl,h3,h4⟩:=hs
                refine ⟨?_,by simp [World.frozen?,e,e']⟩
                have:=h4 j (by cases e2:L b j <;> simp [e2,shAll])
                simp only [World.cell?,e,e']
                simpa using this
              | _=>cases hs
          | _=>simp [World.cell?,e] at hv
      have W:WF w' L2:=by
        refine ⟨fun b j b' j' r p i h h'=>?_,fun b j h=>?_,fun b j r p i h=>?_⟩
        · have hb:b < w.heap.size:=by apply Classical.byContradiction;intro hn;simp [L2,hn] at h
          have hb':b' < w.heap.size:=by apply Classical.byContradiction;intro hn;simp [L2,hn] at h'
          rw [hin hb] at h;rw [hin hb'] at h'
          exact O.wf.inj _ _ _ _ _ _ _ h h'
        · have hb:b < w.heap.size:=by apply Classical.byContradiction;intro hn;simp [L2,hn] at h
          rw [hin hb] at h
          obtain ⟨v,hv⟩:=O.wf.ex b j h
          exact ⟨v,by rw [(cell b j h).1,hv]⟩
        · have hb:b < w.heap.size:=by apply Classical.byContradiction;intro hn;simp [L2,hn] at h
          rw [hin hb] at h
          rw [(cell b j (by rw [h];simp)).2];exact O.wf.thaw _ _ _ _ _ h
      have E2:Evo w L A w' L2 A:=⟨E.os,E.tape,E.output,E.size,fun b j hb _=>hin hb,fun b hb=>.inr (blk' b hb),Nat.le_refl _,fun _ _=>.inl rfl,fun a b o m h _=>.inl ⟨a,o,m,h⟩⟩
      have Ex:Ext w L w' L2:=⟨E.os,E.tape,E.output,E.size,fun b j hb _=>hin hb,blk'⟩
      have G:Go1 w L w' L2:=⟨W,Ex,fun b j h=>hin (O.wf.lt (fun e=>by rw [e] at h;exact h)),fun b j h=>(cell b j (fun e=>by rw [e] at h;exact h)).1⟩
      have O2:HOk w' L2 A st:=O.grow G fun b j r p i h _=>by
        have hb:b < w.heap.size:=by apply Classical.byContradiction;intro hn;simp [L2,hn] at h
        rwa [hin hb] at h
      refine ⟨L2,A,O2,fun b j q p i h=>?_,.p _ _ hl (flat_rep Hr hflat),E2⟩
      have hb:b < w.heap.size:=by apply Classical.byContradiction;intro hn;simp [L2,hn] at h
      rw [hin hb] at h
      exact bd _ _ _ _ _ h
end
end Go.Ab
namespace Go.Ab
open Go
set_option linter.unusedVariables false
set_option linter.unusedSimpArgs false
def q1 (d:Nat) (o:XOp):HI:=⟨some d,.x o,.none,false,[]⟩
def q2 (o:XOp):HI:=⟨.none,.x o,.none,false,[]⟩
def q3 (d:Nat) (o:XOp) (g:Nat) (b:Bool):HI:=⟨some d,.x o,some (g,b),false,[]⟩
def q4 (d t:Nat):HI:=⟨some d,.x (.mv (.t t)),.none,false,[]⟩
def pureK (C:Calls'):HCalls:=fun f ws st=>match allP ws with
  | some vs0=>match frzL vs0 with
   | some vs=>if vs.all PV.loose then (match C f vs with
    | some (v,_)=>match frz v with
      | some x=>if x.loose then some (.p x,st) else Option.none
      | _=>Option.none
    | _=>Option.none) else Option.none
   | _=>Option.none
  | _=>Option.none
def rowsV (st:HSt):Nat→HV→List Nat
  | k + 1,.row a off len sz=>match st[a]? with
    | some (.row _ _ cs)=>a :: ((cs.drop off).take (len * sz)).flatMap (rowsV st k)
    | _=>[a]
  | _,_=>[]
def rowsH (st:HSt):Nat→HV→List Nat
  | k + 1,.agg cs=>cs.flatMap (rowsH st k)
  | k + 1,.tup cs=>cs.flatMap (rowsH st k)
  | k,v=>rowsV st k v
def rdD (st:HSt) (D:List Nat):Nat→HV→Option PV
  | _,.p v=>if v.free then some v else Option.none
  | k + 1,.row a off len sz=>if D.contains a then (match st[a]? with
    | some (.row sz' n cs)=>if sz' = sz∧off + len * sz ≤ cs.length then (allO (rdD st D k) ((cs.drop off).take (len * sz))).map (.sl len) else Option.none
    | _=>Option.none) else Option.none
  | _,_=>Option.none
def icyP (v:PV):PV:=match frz v with
  | some x=>if x.loose then x else v
  | _=>v
def iceV (st:HSt) (D:List Nat):Nat→HV→Option HV
  | _,.p v=>some (.p (icyP v))
  | _,.ptr a i=>some (.ptr a i)
  | _,.row a off len sz=>(rdD st D 4 (.row a off len sz)).map .p
  | k + 1,.agg cs=>(allO (iceV st D k) cs).map mkAgg
  | k + 1,.tup cs=>(allO (iceV st D k) cs).map mkTup
  | _,_=>Option.none
def killD:List Nat→HSt→HSt
  | [],st=>st
  | a :: D,st=>killD D (st.set a .dead)
def killA:List Nat→AM→AM
  | [],A=>A
  | a :: D,A=>killA D (A.set a Option.none)
def iceC (H:HCalls) (l:List Nat):HCalls:=fun f ws st=>if l.contains f then (match H f ws st with
  | some (r,st')=>match iceV st' (rowsH st' 4 r) 4 r with
    | some r'=>some (r',killD (rowsH st' 4 r) st')
    | _=>Option.none
  | _=>Option.none) else Option.none
theorem killD_get:∀ (D:List Nat) (st:HSt) (a:Nat),(killD D st)[a]? = if a ∈ D∧a < st.length then some .dead else st[a]?
  | [],st,a=>by simp [killD]
  | d :: D,st,a=>by
    rw [killD,killD_get D]
    rw [getElem?_setI]
    by_cases h1:a=d
    · subst h1
      by_cases h2:a < st.length
      · simp [h2]
      · simp [h2]
    · by_cases h3:a ∈ D
      · simp [h1,h3]
      · simp [h1,h3]
theorem killA_get:∀ (D:List Nat) (A:AM) (a:Nat),(killA D A)[a]? = if a ∈ D∧a < A.length then some Option.none else A[a]?
  | [],st,a=>by simp [killA]
  | d :: D,st,a=>by
    rw [killA,killA_get D]
    rw [getElem?_setI]
    by_cases h1:a=d
    · subst h1
      by_cases h2:a < st.length
      · simp [h2]
      · simp [h2]
    · by_cases h3:a ∈ D
      · simp [h1,h3]
      · simp [h1,h3]
theorem killD_len:∀ (D:List Nat) (st:HSt),(killD D st).length=st.length
  | [],_=>rfl
  | d :: D,st=>by rw [killD,killD_len D];simp
theorem killA_len:∀ (D:List Nat) (A:AM),(killA D A).length=A.length
  | [],_=>rfl
  | d :: D,st=>by rw [killA,killA_len D];simp
def iceL (D:List Nat):Lab→Lab
  | .own r p j=>if HK ≤ r∧r - HK ∈ D then .sh else .own r p j
  | l=>l
theorem iceL_own {D:List Nat} {l:Lab} {r:Nat} {p:List Nat} {j:Nat} (h:iceL D l = .own r p j):l = .own r p j ∧ ¬ (HK ≤ r∧r - HK ∈ D):=by
  cases l with
  | out=>cases h
  | sh=>cases h
  | own r' p' j' =>
    simp only [iceL] at h
    split at h
    · cases h
    · rename_i hc
      simp only [Lab.own.injEq] at h
      obtain ⟨rfl,rfl,rfl⟩:=h
      exact ⟨rfl,hc⟩
section
variable {P:Program}
theorem HOk.ice {w:World} {L:LM} {A:AM} {st:HSt} (O:HOk w L A st) (D:List Nat):HOk w (fun b j=>iceL D (L b j)) (killA D A) (killD D st)∧Evo w L A w (fun b j=>iceL D (L b j)) (killA D A):=by
  have ne:∀ {a':Nat} {x:Nat × Nat × Nat},(killA D A)[a']? = some (some x)→a' ∉ D∧A[a']? = some (some x):=fun {a' x} h=>by
    rw [killA_get] at h
    split at h
    · cases h
    · rename_i hc
      refine ⟨fun e=>?_,h⟩
      have:a' < A.length:=(List.getElem?_eq_some_iff.1 h).1
      exact hc ⟨e,this⟩
  have E:Evo w L A w (fun b j=>iceL D (L b j)) (killA D A):=⟨rfl,rfl,rfl,Nat.le_refl _,fun b j _ h=>by rcases h with h | h <;> rw [h] <;> rfl,fun b _=>.inr (.refl _ _ _),by rw [killA_len];exact Nat.le_refl _,fun a' ha=>by
    rw [killA_get]
    split
    · exact .inr rfl
    · exact .inl rfl,fun a' b o m h _=>.inl ⟨a',o,m,(ne h).2⟩⟩
  refine ⟨?_,E⟩
  refine ⟨?_,by rw [killA_len,killD_len];exact O.len,fun b j r p q h hr=>?_,fun a' k h hk=>?_,fun a' b o m k h hk=>?_,fun a1 a2 b o m o' m' ks vs h1 h2 h3=>?_⟩
  · refine ⟨fun b j b' j' r p i h h'=>?_,fun b j h=>?_,fun b j r p i h=>?_⟩
    · exact O.wf.inj _ _ _ _ _ _ _ (iceL_own h).1 (iceL_own h').1
    · exact O.wf.ex b j fun e=>h (by rw [e];rfl)
    · exact O.wf.thaw _ _ _ _ _ (iceL_own h).1
  · obtain ⟨h1,h2⟩:=iceL_own h
    obtain ⟨h3,a',o,m,h4,h5,h6⟩:=O.lab _ _ _ _ _ h1 hr
    refine ⟨h3,a',o,m,h4,?_,h6⟩
    rw [killA_get,if_neg (fun e=>h2 ⟨hr,by rw [h4,Nat.add_sub_cancel];exact e.1⟩)];exact h5
  · rw [killD_get] at h
    split at h
    · simp only [Option.some.injEq] at h;exact absurd h.symm hk
    · rename_i hc
      obtain ⟨x,hx⟩:=O.live a' k h hk
      refine ⟨x,?_⟩
      rw [killA_get,if_neg (fun e=>hc ⟨e.1,by rw [← O.len];exact e.2⟩)];exact hx
  · obtain ⟨h1,h2⟩:=ne h
    rw [killD_get,if_neg (fun e=>h1 e.1)] at hk
    obtain ⟨h3,h4⟩:=O.blk _ _ _ _ _ h2 hk
    exact ⟨h3,h4.mono (fun q hq=>by
      have hb:=h4.big hq
      simp only [hb,iceL]
      rw [if_neg (by rw [Nat.add_sub_cancel];exact fun e=>h1 e.2)]) (fun _ _=>rfl) (fun es c h=>h) (fun v _ u H=>H.evo E O.wf) fun v u hf H=>H.evo E O.wf (free_refs hf)⟩
  · obtain ⟨h4,h5⟩:=ne h1
    obtain ⟨h6,h7⟩:=ne h2
    rw [killD_get,if_neg (fun e=>h4 e.1)] at h3
    exact O.uniq a1 a2 b o m o' m' ks vs h5 h7 h3
theorem icyP_rep {w:World} {L:LM} {A:AM} {v:PV} {u:Value} (H:RepH w L A (.p v) u):RepH w L A (.p (icyP v)) u:=by
  unfold icyP
  split
  · rename_i x hx
    split
    · rename_i hl
      exact .p _ _ hl (H.pv.2.share (σ:=fun l=>l) rfl (fun r p h=>by cases h) hx Option.none)
    · exact H
  · exact H
theorem rdD_rep {w:World} {L:LM} {A:AM} {st:HSt} (O:HOk w L A st) {D:List Nat}:∀ {k:Nat} {x:HV} {v:PV} {u:Value},rdD st D k x=some v→RepH w L A x u →
    RepV w (fun b j=>iceL D (L b j)) Option.none v u∧v.free=true:=by
  have pc:∀ {pv v:PV} {u:Value},(if pv.free=true then some pv else Option.none)=some v→RepH w L A (.p pv) u→RepV w (fun b j=>iceL D (L b j)) Option.none v u∧v.free=true:=fun {pv v u} h H=>by
    split at h
    · rename_i hf
      obtain rfl:=Option.some.inj h
      obtain ⟨h3,h4⟩:=H.pv
      exact ⟨h4.frame (fun b j hr=>by rw [hr.shared];rfl) (fun q hq=>by rw [loose_refs h3] at hq;cases hq) fun _ _ _=>rfl,hf⟩
    · cases h
  intro k
  induction k with
  | zero =>
    intro x v u h H
    cases x with
    | p pv=>exact pc (by simpa only [rdD] using h) H
    | _=>simp [rdD] at h
  | succ k ih =>
    intro x v u h H
    cases x with
    | p pv=>exact pc (by simpa only [rdD] using h) H
    | row a off len sz =>
      simp only [rdD] at h
      split at h
      case isFalse=>cases h
      rename_i hD
      split at h
      · rename_i sz' n cs hst
        split at h
        · rename_i hc
          obtain ⟨rfl,hle⟩:=hc
          simp only [Option.map_eq_some_iff] at h
          obtain ⟨vs,hvs,rfl⟩:=h
          obtain ⟨h1,h2⟩:=allO_get hvs
          obtain ⟨⟨b',o,m⟩,hA⟩:=O.live a _ hst (by simp)
          obtain ⟨hb,ho,hn,hm,hlab,hcm,hcells⟩:=O.blk a b' o m _ hA hst
          subst ho
          have hl1:((cs.drop off).take (len * sz')).length=len * sz':=by simp;omega
          cases H with
          | row _ _ _ _ b j cap ha hl hh =>
            obtain ⟨rfl,rfl,hcap⟩:=hh b' 0 m hA
            have hcell:∀ i (hi:i < vs.length),RepV w (fun b j=>iceL D (L b j)) Option.none vs[i] (cv w b (0 + off + i))∧vs[i].free=true:=fun i hi=>by
              have hi1:i < ((cs.drop off).take (len * sz')).length:=by omega
              have e1:=h2 i hi1 hi
              have hi2:off + i < cs.length:=by omega
              have h3:=hcells (off + i) hi2
              have e3:((cs.drop off).take (len * sz'))[i]=cs[off + i]:=by simp
              rw [e3] at e1
              rw [← Nat.add_assoc] at h3
              exact ih e1 h3
            refine ⟨.sl _ len vs b (0 + off) cap hl (fun i hi=>?_) (fun i hi=>free_cok (hcell i hi).2) (fun i hi=>(hcell i hi).1),rfl⟩
            have:=hlab (off + i) (by omega)
            rw [show 0 + off + i=0 + (off + i) by omega,this]
            simp only [iceL]
            rw [if_pos ⟨by omega,by rw [Nat.add_sub_cancel];simpa using hD⟩]
        · cases h
      · cases h
    | _=>simp [rdD] at h
theorem iceV_rep {w:World} {L:LM} {A:AM} {st:HSt} (O:HOk w L A st) {D:List Nat} (E:Evo w L A w (fun b j=>iceL D (L b j)) (killA D A)):∀ {k:Nat} {x y:HV} {u:Value},iceV st D k x=some y→RepH w L A x u →
    RepH w (fun b j=>iceL D (L b j)) (killA D A) y u:=by
  have rw1:∀ {a off len sz:Nat} {y:HV} {u:Value},(rdD st D 4 (.row a off len sz)).map HV.p=some y→RepH w L A (.row a off len sz) u→RepH w (fun b j=>iceL D (L b j)) (killA D A) y u:=fun h H=>by
    simp only [Option.map_eq_some_iff] at h
    obtain ⟨v,hv,rfl⟩:=h
    obtain ⟨h1,h2⟩:=rdD_rep O hv H
    exact .p _ _ (free_loose h2) h1
  intro k
  induction k with
  | zero =>
    intro x y u h H
    cases x with
    | p v=>simp only [iceV,Option.some.injEq] at h;subst h;exact icyP_rep (H.evo E O.wf)
    | ptr a i=>simp only [iceV,Option.some.injEq] at h;subst h;exact H.evo E O.wf
    | row a off len sz=>exact rw1 (by simpa only [iceV] using h) H
    | _=>simp [iceV] at h
  | succ k ih =>
    intro x y u h H
    cases x with
    | p v=>simp only [iceV,Option.some.injEq] at h;subst h;exact icyP_rep (H.evo E O.wf)
    | ptr a i=>simp only [iceV,Option.some.injEq] at h;subst h;exact H.evo E O.wf
    | row a off len sz=>exact rw1 (by simpa only [iceV] using h) H
    | agg cs =>
      simp only [iceV,Option.map_eq_some_iff] at h
      obtain ⟨ys,hys,rfl⟩:=h
      obtain ⟨h1,h2⟩:=allO_get hys
      cases H with
      | agg _ us hz hc=>exact RepH.mkAgg (by omega) fun i hi=>ih (h2 i (by omega) hi) (hc i (by omega))
    | tup cs =>
      simp only [iceV,Option.map_eq_some_iff] at h
      obtain ⟨ys,hys,rfl⟩:=h
      obtain ⟨h1,h2⟩:=allO_get hys
      cases H with
      | tup _ us hz hc=>exact RepH.mkTup (by omega) fun i hi=>ih (h2 i (by omega) hi) (hc i (by omega))
    | _=>simp [iceV] at h
theorem iceC_ok {H:HCalls} (hH:HCallOk P H) (l:List Nat):HCallOk P (iceC H l):=by
  intro f ws st r st' h
  unfold iceC at h
  split at h
  case isFalse=>cases h
  split at h
  case h_2=>cases h
  rename_i r0 st0 hev
  split at h
  case h_2=>cases h
  rename_i r1 hr1
  simp only [Option.some.injEq,Prod.mk.injEq] at h
  obtain ⟨rfl,rfl⟩:=h
  obtain ⟨hfn,hcalls⟩:=hH f ws _ _ _ hev
  refine ⟨hfn,fun args w L A hsz O bd Hargs=>Calls.mono (hcalls args w L A hsz O bd Hargs) fun en w' he=>?_⟩
  cases en with
  | panicked=>exact he.elim
  | outgrown=>exact he.elim
  | returned u =>
    obtain ⟨L',A',O',bd',Hr,E⟩:=he
    obtain ⟨O2,E2⟩:=O'.ice (rowsH st0 4 r0)
    exact ⟨_,_,O2,fun b j q p i h=>bd' b j q p i (iceL_own h).1,iceV_rep O' E2 hr1 Hr,E.trans O.wf (fun b j r p i h hr=>by
      obtain ⟨_,a,o,m,_,h5,_⟩:=O.lab b j r p i h hr
      exact ⟨a,o,m,h5⟩) E2⟩
theorem pureK_ok {C:Calls'} (hC:CallOk P C):HCallOk P (pureK C):=by
  intro f ws st r st' h
  unfold pureK at h
  split at h
  case h_2=>cases h
  rename_i vs0 hrd
  split at h
  case h_2=>cases h
  rename_i vs hfz
  split at h
  case isFalse=>cases h
  rename_i hloose
  split at h
  case h_2=>cases h
  rename_i v outs hev
  split at h
  case h_2=>cases h
  rename_i x hx
  split at h
  case isFalse=>cases h
  rename_i hxl
  simp only [Option.some.injEq,Prod.mk.injEq] at h
  obtain ⟨rfl,rfl⟩:=h
  obtain ⟨hfn,hcalls⟩:=hC f vs _ _ hev
  have ews:=allP_some hrd
  subst ews
  refine ⟨hfn,fun args w L A hsz O bd Hargs=>?_⟩
  have W0:=WF.outAll O.wf
  have shO:∀ b j,L b j = .sh→outAll (L b j) = .sh:=fun b j h=>by rw [h];rfl
  have hfl:=frzL_length hfz
  have hsz':args.size=vs.length:=by rw [hfl];simpa using hsz
  refine Calls.mono (hcalls args w _ hsz' W0 (fun b j q p i h=>by cases e:L b j <;> simp [e,outAll] at h) fun i hi=>?_) fun en w' he=>?_
  · have hi3:i < vs0.length:=by omega
    have hi2:i < (vs0.map HV.p).length:=by simpa using hi3
    have H:=Hargs i hi2
    rw [List.getElem_map] at H
    obtain ⟨_,h20⟩:=H.pv
    have h1:vs[i].loose=true:=List.all_eq_true.1 hloose _ (List.getElem_mem hi)
    have h2:RepV w L Option.none vs[i] (args.getD i undef):=h20.share (σ:=fun l=>l) rfl (fun r p h=>by cases h) (frzL_get hfz i hi3 hi) Option.none
    have h3:noOwn vs[i]=true:=loose_noOwn h1
    have h4:RepV w (fun b j=>outAll (L b j)) Option.none vs[i] (args.getD i undef):=h2.frame (fun b j hr=>by rw [hr.shared];rfl) (fun q hq=>by rw [loose_refs h1] at hq;cases hq) fun _ _ _=>rfl
    exact ⟨h4.loose h3 _,loose_refs h1⟩
  · cases en with
    | panicked=>exact he.elim
    | outgrown=>exact he.elim
    | returned u =>
      obtain ⟨L',W',E,_,Hr,_,_⟩:=he
      have blk:∀ b,b < w.heap.size→SameBlk (fun b j=>outAll (L b j)) b w.heap[b]? w'.heap[b]?:=E.blk
      have blk':∀ b,b < w.heap.size→SameBlk L b w.heap[b]? w'.heap[b]?:=fun b hb=>(blk b hb).weaken fun j hj=>by
        rcases hj with hj | hj <;> simp [hj,outAll]
      let L2:LM:=fun b j=>if b < w.heap.size then L b j else shAll (L' b j)
      have hin:∀ {b j},b < w.heap.size→L2 b j=L b j:=fun {b j} h=>by simp only [L2,h,if_true]
      have hout:∀ {b j},¬ b < w.heap.size→L2 b j=shAll (L' b j):=fun {b j} h=>by simp only [L2,h,if_false]
      have hown:∀ {b j r p i},L2 b j = .own r p i→b < w.heap.size:=fun {b j r p i} h=>by
        apply Classical.byContradiction;intro hn
        rw [hout hn] at h
        cases e:L' b j <;> simp [e,shAll] at h
      have cell : ∀ b j,L b j ≠ .out→w'.cell? ⟨b,j,Option.none⟩=w.cell? ⟨b,j,Option.none⟩∧w'.frozen? ⟨b,j,Option.none⟩=w.frozen? ⟨b,j,Option.none⟩:=fun b j h=>by
        have hb:=O.wf.lt h
        obtain ⟨v,hv⟩:=O.wf.ex b j h
        have hs:=blk b hb
        cases e:w.heap[b]? with
        | none=>simp [World.cell?,e] at hv
        | some ob =>
          rw [e] at hs
          cases ob with
          | cells c t fr =>
            cases e':w'.heap[b]? with
            | none=>rw [e'] at hs;cases hs
            | some ob' =>
              rw [e'] at hs
              cases ob' with
              | cells c' t' fr' =>
                obtain ⟨rfl,rfl,h3,h4⟩:=hs
                refine ⟨?_,by simp [World.frozen?,e,e']⟩
                have:=h4 j (by cases e2:L b j <;> simp [e2,outAll])
                simp only [World.cell?,e,e']
                simpa using this
              | _=>cases hs
          | _=>simp [World.cell?,e] at hv
      have W:WF w' L2:=by
        refine ⟨fun b j b' j' r p i h h'=>?_,fun b j h=>?_,fun b j r p i h=>?_⟩
        · have hb:=hown h
          have hb':=hown h'
          rw [hin hb] at h;rw [hin hb'] at h'
          exact O.wf.inj _ _ _ _ _ _ _ h h'
        · by_cases hb:b < w.heap.size
          · rw [hin hb] at h
            obtain ⟨v,hv⟩:=O.wf.ex b j h
            exact ⟨v,by rw [(cell b j h).1,hv]⟩
          · rw [hout hb] at h
            exact W'.ex b j fun e=>h (by rw [e];rfl)
        · have hb:=hown h
          rw [hin hb] at h
          rw [(cell b j (by rw [h];simp)).2];exact O.wf.thaw _ _ _ _ _ h
      have E2:Evo w L A w' L2 A:=⟨E.os,E.tape,E.output,E.size,fun b j hb _=>hin hb,fun b hb=>.inr (blk' b hb),Nat.le_refl _,fun _ _=>.inl rfl,fun a b o m h _=>.inl ⟨a,o,m,h⟩⟩
      have Ex:Ext w L w' L2:=⟨E.os,E.tape,E.output,E.size,fun b j hb _=>hin hb,blk'⟩
      have G:Go1 w L w' L2:=⟨W,Ex,fun b j h=>hin (O.wf.lt (fun e=>by rw [e] at h;exact h)),fun b j h=>(cell b j (fun e=>by rw [e] at h;exact h)).1⟩
      have O2:HOk w' L2 A st:=O.grow G fun b j r p i h _=>by
        have hb:=hown h
        rwa [hin hb] at h
      have R1:RepV w' (fun b j=>shAll (L' b j)) Option.none x u:=Hr.share rfl (fun r p _ s i=>rfl) hx Option.none
      have R2:RepV w' L2 Option.none x u:=R1.frame (fun b j hr=>by
        have hs:=hr.shared
        by_cases hb:b < w.heap.size
        · rw [hin hb,hs]
          cases e:L b j with
          | sh=>rfl
          | out=>rw [E.lab b j hb (.inl (by rw [e];rfl)),e] at hs;cases hs
          | own r p i=>rw [E.lab b j hb (.inl (by rw [e];rfl)),e] at hs;cases hs
        · rw [hout hb]) (fun q hq=>by rw [loose_refs hxl] at hq;cases hq) fun _ _ _=>rfl
      refine ⟨L2,A,O2,fun b j q p i h=>?_,.p _ _ hxl R2,E2⟩
      have hb:=hown h
      rw [hin hb] at h
      exact bd _ _ _ _ _ h
def orK (H H':HCalls):HCalls:=fun f ws st=>match H f ws st with
  | some r=>some r
  | Option.none=>H' f ws st
theorem orK_ok {H H':HCalls} (h:HCallOk P H) (h':HCallOk P H'):HCallOk P (orK H H'):=by
  intro f ws st r st' e
  unfold orK at e
  split at e
  · rename_i x hx
    obtain rfl:=Option.some.inj e
    exact h f ws st _ _ hx
  · exact h' f ws st _ _ e
end
end Go.Ab
namespace Go.Ab
open Go
set_option maxRecDepth 100000
def h3l0:HC :=
 .seq (.seq (.reg [q4 140 23,
 q4 141 12,
 q4 142 20,
 q1 143 (.iadr 4 .none (.t 141) (.t 142)),
 q1 144 (.fadr 3 (.t 143)),
 q1 145 (.load false 1 (.t 144)),
 q1 146 (.len false (.t 145)),
 q1 147 (.bin .lss (.t 140) (.t 146))] false [3,9,12,15,16,18,19,20,21,23,147])
 (.cond (.t 147) (.skip)
 (.exit 2 [3,9,12,15,16,18,19,20,21]) [3,9,12,15,16,18,19,20,21,23]))
 (.seq (.block 3 (.seq (.reg [q1 150 (.load true 2 (.t 21)),
 q4 151 23,
 ⟨some 152,.x (.call 23 [.t 150,.t 151] []),.none,true,[]⟩,
 q1 153 (.un .not (.t 152)),
 q4 154 153,
 q3 155 (.fadr 0 (.t 9)) 154 true,
 q3 156 (.load false 1 (.t 155)) 154 true,
 q3 157 (.mv (.t 18)) 154 true,
 q3 158 (.mv (.t 23)) 154 true,
 ⟨some 159,.x (.call 24 [.t 156,.t 157,.t 158] []),some (154,true),true,[]⟩,
 q3 160 (.mv (.t 12)) 154 true,
 q3 161 (.mv (.t 20)) 154 true,
 q3 162 (.iadr 4 .none (.t 160) (.t 161)) 154 true,
 q3 163 (.fadr 3 (.t 162)) 154 true,
 ⟨some 164,.x (.load false 1 (.t 163)),some (154,true),false,[9]⟩,
 q3 165 (.mv (.t 23)) 154 true,
 q3 166 (.iadr 1 .none (.t 164) (.t 165)) 154 true,
 ⟨some 167,.x (.load false 1 (.t 166)),some (154,true),false,[9]⟩,
 q3 168 (.bin .neq (.t 159) (.t 167)) 154 true,
 q1 169 (.pick (.t 154) (.t 168) (.k (.bool false)))] true [3,9,12,15,16,18,19,20,21,23,169])
 (.cond (.t 169) (.seq (.reg [q1 8 (.asg (.k (.bool false)))] false [8])
 (.ret))
 (.skip) [3,9,12,15,16,18,19,20,21,23])) [3,9,12,15,16,18,19,20,21,23])
 (.reg [q4 148 23,
 q1 149 (.bin .add (.t 148) (.k (.int .i64 1))),
 q1 23 (.asg (.t 149))] false [3,9,12,15,16,18,19,20,21,23]))
def h3l1:HC :=
 .seq (.seq (.reg [q4 85 19,
 q4 86 3,
 q1 87 (.len false (.t 86)),
 q1 88 (.bin .leq (.t 85) (.t 87))] false [3,9,12,15,16,17,18,19,88])
 (.cond (.t 88) (.skip)
 (.exit 0 []) [3,9,12,15,16,17,18,19]))
 (.seq (.block 1 (.seq (.seq (.reg [q4 91 17,
 q1 92 (.bin .eql (.t 91) (.k (.int .i64 0))),
 q4 93 18,
 q1 94 (.bin .eql (.t 93) (.k (.int .i64 0))),
 q1 95 (.beq true (.t 92) (.t 94)),
 q4 96 95,
 q3 97 (.mv (.t 15)) 96 false,
 q3 98 (.call 20 [.t 97] []) 96 false,
 q3 99 (.mv (.t 17)) 96 false,
 q3 100 (.call 19 [.t 98,.t 99] []) 96 false,
 q3 101 (.mv (.t 16)) 96 false,
 q3 102 (.call 20 [.t 101] []) 96 false,
 q3 103 (.mv (.t 18)) 96 false,
 q3 104 (.call 19 [.t 102,.t 103] []) 96 false,
 q3 105 (.beq true (.t 100) (.t 104)) 96 false,
 q1 106 (.pick (.t 96) (.k (.bool true)) (.t 105))] false [3,9,12,15,16,17,18,19,106])
 (.cond (.t 106) (.seq (.reg [q1 8 (.asg (.k (.bool false)))] false [8])
 (.ret))
 (.skip) [3,9,12,15,16,17,18,19]))
 (.seq (.seq (.reg [q4 107 17,
 q1 108 (.bin .eql (.t 107) (.k (.int .i64 0)))] false [3,9,12,15,16,17,18,19,108])
 (.cond (.t 108) (.exit 0 [])
 (.skip) [3,9,12,15,16,17,18,19]))
 (.seq (.reg [q4 109 15,
 q4 110 17,
 q1 111 (.bsl 1 1 [.int .i64 0] [(0,1,.t 110)]),
 q1 112 (.app 1 8 (.t 109) (.t 111)),
 q4 113 16,
 q4 114 18,
 q1 115 (.bsl 1 1 [.int .i64 0] [(0,1,.t 114)]),
 q1 116 (.app 1 8 (.t 113) (.t 115)),
 q1 15 (.asg (.t 112)),
 q1 16 (.asg (.t 116))] false [3,9,12,15,16,17,18,19])
 (.seq (.reg [q4 117 12,
 q4 118 17,
 q1 119 (.call 21 [.t 117,.t 118] []),
 q1 20 (.asg (.t 119))] false [3,9,12,15,16,18,19,20])
 (.seq (.seq (.reg [q4 120 20,
 q1 121 (.bin .lss (.t 120) (.k (.int .i64 0)))] false [3,9,12,15,16,18,19,20,121])
 (.cond (.t 121) (.seq (.reg [q1 8 (.asg (.k (.bool false)))] false [8])
 (.ret))
 (.skip) [3,9,12,15,16,18,19,20]))
 (.seq (.reg [q1 123 (.fadr 0 (.t 9)),
 q1 124 (.load false 1 (.t 123)),
 q4 125 18,
 q1 126 (.call 22 [.t 124,.t 125] []),
 q4 122 126,
 q1 127 (.ext (.t 122) 0),
 q1 128 (.ext (.t 122) 1),
 q1 21 (.alloc [.int .i64 0,.int .i64 0]),
 q2 (.store 2 (.t 21) (.t 127)),
 q1 22 (.asg (.t 128))] false [3,9,12,15,16,18,19,20,21,22])
 (.seq (.seq (.reg [q4 129 22,
 q1 130 (.bin .neq (.t 129) (.k (.int .i64 0))),
 q4 131 130,
 q3 132 (.load true 2 (.t 21)) 131 false,
 q3 133 (.mv (.t 12)) 131 false,
 q3 134 (.mv (.t 20)) 131 false,
 q3 135 (.iadr 4 .none (.t 133) (.t 134)) 131 false,
 q3 136 (.fadr 1 (.t 135)) 131 false,
 q3 137 (.load true 2 (.t 136)) 131 false,
 q3 138 (.aeq true [.int .i64 0,.int .i64 0] (.t 132) (.t 137)) 131 false,
 q1 139 (.pick (.t 131) (.k (.bool true)) (.t 138))] true [3,9,12,15,16,18,19,20,21,139])
 (.cond (.t 139) (.seq (.reg [q1 8 (.asg (.k (.bool false)))] false [8])
 (.ret))
 (.skip) [3,9,12,15,16,18,19,20,21]))
 (.seq (.seq (.reg [q1 23 (.asg (.k (.int .i64 0)))] false [3,9,12,15,16,18,19,20,21,23])
 (.block 2 (.loop h3l0 [3,9,12,15,16,18,19,20,21,23]) [3,9,12,15,16,18,19,20,21]))
 (.seq (.seq (.reg [q4 170 19,
 q4 171 3,
 q1 172 (.len false (.t 171)),
 q1 173 (.bin .eql (.t 170) (.t 172)),
 q4 174 173,
 q3 175 (.fadr 0 (.t 21)) 174 false,
 q3 176 (.load false 1 (.t 175)) 174 false,
 q3 177 (.bin .eql (.t 176) (.k (.int .i64 0))) 174 false,
 q1 178 (.pick (.t 174) (.k (.bool true)) (.t 177))] false [3,9,12,15,16,18,19,20,21,178])
 (.cond (.t 178) (.exit 0 [])
 (.skip) [3,9,12,15,16,18,19,20,21]))
 (.seq (.reg [q4 179 3,
 q4 180 19,
 q1 181 (.iadr 1 .none (.t 179) (.t 180)),
 q1 182 (.load false 1 (.t 181)),
 q1 183 (.conv .i64 (.t 182)),
 q1 184 (.fadr 0 (.t 21)),
 q1 185 (.load false 1 (.t 184)),
 q1 186 (.bin .rem (.t 183) (.t 185)),
 q1 24 (.asg (.t 186))] true [3,9,12,15,16,18,19,20,21,24])
 (.seq (.seq (.reg [q1 187 (.load true 2 (.t 21)),
 q4 188 24,
 q1 189 (.call 23 [.t 187,.t 188] []),
 q1 190 (.un .not (.t 189))] false [3,9,12,15,16,18,19,20,24,190])
 (.cond (.t 190) (.exit 0 [])
 (.skip) [3,9,12,15,16,18,19,20,24]))
 (.reg [q4 191 12,
 q4 192 20,
 q1 193 (.iadr 4 .none (.t 191) (.t 192)),
 q1 194 (.fadr 3 (.t 193)),
 ⟨some 195,.x (.load false 1 (.t 194)),.none,false,[12]⟩,
 q4 196 24,
 q1 197 (.iadr 1 .none (.t 195) (.t 196)),
 ⟨some 198,.x (.load false 1 (.t 197)),.none,false,[12]⟩,
 q1 199 (.fadr 0 (.t 9)),
 q1 200 (.load false 1 (.t 199)),
 q4 201 18,
 q4 202 24,
 ⟨some 203,.x (.call 24 [.t 200,.t 201,.t 202] []),.none,true,[]⟩,
 q1 17 (.asg (.t 198)),
 q1 18 (.asg (.t 203))] true [3,9,12,15,16,17,18,19])))))))))))) [3,9,12,15,16,17,18,19])
 (.reg [q4 89 19,
 q1 90 (.bin .add (.t 89) (.k (.int .i64 1))),
 q1 19 (.asg (.t 90))] false [3,9,12,15,16,17,18,19]))
def h3:HF:=⟨4,[.tmp 8],
 .seq (.reg [q1 8 (.asg (.k (.bool false)))] false [0,1,2,3])
 (.seq (.seq (.reg [q4 25 1,
 q1 26 (.len false (.t 25)),
 q1 27 (.bin .gtr (.t 26) (.k (.int .i64 60))),
 q4 28 27,
 q3 29 (.mv (.t 2)) 28 false,
 q3 30 (.len false (.t 29)) 28 false,
 q3 31 (.bin .eql (.t 30) (.k (.int .i64 0))) 28 false,
 q1 32 (.pick (.t 28) (.k (.bool true)) (.t 31)),
 q4 33 32,
 q3 34 (.mv (.t 2)) 33 false,
 q3 35 (.len false (.t 34)) 33 false,
 q3 36 (.bin .gtr (.t 35) (.k (.int .i64 20))) 33 false,
 q1 37 (.pick (.t 33) (.k (.bool true)) (.t 36)),
 q4 38 37,
 q3 39 (.mv (.t 3)) 38 false,
 q3 40 (.len false (.t 39)) 38 false,
 q3 41 (.bin .gtr (.t 40) (.k (.int .i64 60))) 38 false,
 q1 42 (.pick (.t 38) (.k (.bool true)) (.t 41))] false [0,1,2,3,42])
 (.cond (.t 42) (.seq (.reg [q1 43 (.call 15 [] []),
 q1 8 (.asg (.t 43))] false [8])
 (.ret))
 (.skip) [0,1,2,3]))
 (.seq (.reg [q4 45 0,
 q4 46 1,
 q1 47 (.call 16 [.t 45,.t 46] []),
 q4 44 47,
 q1 48 (.ext (.t 44) 0),
 q1 49 (.ext (.t 44) 1),
 q1 9 (.alloc [.nilp,.nils,.nils]),
 q2 (.store 3 (.t 9) (.t 48)),
 q1 10 (.asg (.t 49))] false [2,3,9,10])
 (.seq (.seq (.reg [q4 50 10,
 q1 51 (.un .not (.t 50))] false [2,3,9,51])
 (.cond (.t 51) (.seq (.reg [q1 8 (.asg (.k (.bool false)))] false [8])
 (.ret))
 (.skip) [2,3,9]))
 (.seq (.reg [q1 52 (.fadr 2 (.t 9)),
 q1 53 (.load false 1 (.t 52)),
 q4 54 2,
 q1 55 (.call 17 [.t 53,.t 54] []),
 q1 11 (.asg (.t 55))] false [3,9,11])
 (.seq (.reg [q1 56 (.bsl 4 0 [.int .i64 0,.int .i64 0,.int .i64 0,.nils] []),
 q1 57 (.fadr 2 (.t 9)),
 q1 58 (.load false 1 (.t 57)),
 q1 59 (.app 4 48 (.t 56) (.t 58)),
 q1 12 (.asg (.t 59))] false [3,9,11,12])
 (.seq (.reg [q1 61 (.fadr 0 (.t 9)),
 q1 62 (.load false 1 (.t 61)),
 q1 63 (.fadr 1 (.t 9)),
 q1 64 (.load false 1 (.t 63)),
 q1 65 (.slc 3 (.t 64) .none (some (.k (.int .i64 2)))),
 q1 66 (.fadr 1 (.t 9)),
 q1 67 (.load false 1 (.t 66)),
 q1 68 (.iadr 3 .none (.t 67) (.k (.int .i64 2))),
 q1 69 (.load true 3 (.t 68)),
 q4 70 11,
 ⟨some 71,.x (.call 18 [.t 62,.t 65,.t 69,.t 70,.k (.nils)] []),.none,true,[]⟩,
 q4 60 71,
 q1 72 (.ext (.t 60) 0),
 q1 73 (.ext (.t 60) 1),
 q1 13 (.alloc [.int .i64 0,.int .i64 0,.int .i64 0]),
 ⟨.none,.x (.store 3 (.t 13) (.t 72)),.none,true,[]⟩,
 q1 14 (.asg (.t 73))] true [3,9,11,12,14])
 (.seq (.seq (.reg [q4 74 14,
 q1 75 (.len false (.t 74)),
 q4 76 11,
 q1 77 (.len false (.t 76)),
 q1 78 (.bin .neq (.t 75) (.t 77))] false [3,9,11,12,14,78])
 (.cond (.t 78) (.seq (.reg [q1 8 (.asg (.k (.bool false)))] false [8])
 (.ret))
 (.skip) [3,9,11,12,14]))
 (.seq (.reg [q1 15 (.asg (.k (.nils))),
 q1 16 (.asg (.k (.nils)))] false [3,9,11,12,14,15,16])
 (.seq (.reg [q4 79 11,
 q1 80 (.iadr 1 .none (.t 79) (.k (.int .i64 0))),
 q1 81 (.load false 1 (.t 80)),
 q4 82 14,
 q1 83 (.iadr 1 .none (.t 82) (.k (.int .i64 0))),
 q1 84 (.load false 1 (.t 83)),
 q1 17 (.asg (.t 81)),
 q1 18 (.asg (.t 84))] true [3,9,12,15,16,17,18])
 (.seq (.seq (.reg [q1 19 (.asg (.k (.int .i64 0)))] false [3,9,12,15,16,17,18,19])
 (.block 0 (.loop h3l1 [3,9,12,15,16,17,18,19]) []))
 (.seq (.reg [q1 204 (.call 15 [] []),
 q1 8 (.asg (.t 204))] false [8])
 (.ret))))))))))))⟩
def h15:HF:=⟨0,[.tmp 0],
 .seq (.reg [q1 0 (.asg (.k (.bool false)))] false [])
 (.seq (.reg [q1 12 (.bsl 1 3 [.int .i64 0] [(0,1,.k (.int .i64 10)),(1,1,.k (.int .i64 5)),(2,1,.k (.int .i64 12))]),
 q1 13 (.call 64 [.t 12] []),
 q4 11 13,
 q1 14 (.ext (.t 11) 0),
 q1 15 (.ext (.t 11) 1),
 q1 1 (.asg (.t 14)),
 q1 2 (.asg (.t 15))] false [1,2])
 (.seq (.seq (.reg [q4 16 1,
 q1 17 (.peq false (.t 16) (.k (.nilp))),
 q4 18 17,
 q3 19 (.mv (.t 2)) 18 false,
 q3 20 (.len false (.t 19)) 18 false,
 q3 21 (.bin .neq (.t 20) (.k (.int .i64 3))) 18 false,
 q1 22 (.pick (.t 18) (.k (.bool true)) (.t 21)),
 q4 23 22,
 q3 24 (.mv (.t 2)) 23 false,
 q3 25 (.iadr 3 .none (.t 24) (.k (.int .i64 1))) 23 false,
 q3 26 (.load true 3 (.t 25)) 23 false,
 q3 27 (.build [.int .i64 0,.int .i64 0,.int .i64 0] [(0,1,.k (.int .i64 11)),(1,1,.k (.int .i64 16)),(2,1,.k (.int .i64 11))]) 23 false,
 q3 28 (.aeq true [.int .i64 0,.int .i64 0,.int .i64 0] (.t 26) (.t 27)) 23 false,
 q1 29 (.pick (.t 23) (.k (.bool true)) (.t 28))] false [1,2,29])
 (.cond (.t 29) (.seq (.reg [q1 0 (.asg (.k (.bool false)))] false [0])
 (.ret))
 (.skip) [1,2]))
 (.seq (.reg [q4 31 1,
 q4 32 2,
 q1 33 (.iadr 3 .none (.t 32) (.k (.int .i64 0))),
 q1 34 (.load true 3 (.t 33)),
 q1 35 (.build [.int .i64 0,.int .i64 0] [(0,1,.k (.int .i64 2)),(1,1,.k (.int .i64 2))]),
 q1 36 (.call 65 [.t 31,.t 34,.t 35] []),
 q4 30 36,
 q1 37 (.ext (.t 30) 0),
 q1 38 (.ext (.t 30) 1),
 q1 3 (.alloc [.int .i64 0,.int .i64 0,.int .i64 0]),
 q2 (.store 3 (.t 3) (.t 37)),
 q1 4 (.asg (.t 38))] false [1,2,3,4])
 (.seq (.reg [q4 40 1,
 q1 41 (.load true 3 (.t 3)),
 q1 42 (.build [.int .i64 0,.int .i64 0] [(0,1,.k (.int .i64 1)),(1,1,.k (.int .i64 1))]),
 q1 43 (.call 65 [.t 40,.t 41,.t 42] []),
 q4 39 43,
 q1 44 (.ext (.t 39) 0),
 q1 45 (.ext (.t 39) 1),
 q2 (.store 3 (.t 3) (.t 44)),
 q1 5 (.asg (.t 45))] false [1,2,3,4,5])
 (.seq (.reg [q4 47 1,
 q1 48 (.load true 3 (.t 3)),
 q1 49 (.build [.int .i64 0,.int .i64 0] [(0,1,.k (.int .i64 9))]),
 q1 50 (.call 65 [.t 47,.t 48,.t 49] []),
 q4 46 50,
 q1 51 (.ext (.t 46) 0),
 q1 52 (.ext (.t 46) 1),
 q2 (.store 3 (.t 3) (.t 51)),
 q1 6 (.asg (.t 52))] false [1,2,3,4,5,6])
 (.seq (.seq (.reg [q4 53 4,
 q1 54 (.bin .neq (.t 53) (.k (.int .i64 1))),
 q4 55 54,
 q3 56 (.mv (.t 5)) 55 false,
 q3 57 (.bin .neq (.t 56) (.k (.int .i64 4))) 55 false,
 q1 58 (.pick (.t 55) (.k (.bool true)) (.t 57)),
 q4 59 58,
 q3 60 (.mv (.t 6)) 59 false,
 q3 61 (.bin .neq (.t 60) (.k (.int .i64 0))) 59 false,
 q1 62 (.pick (.t 59) (.k (.bool true)) (.t 61)),
 q4 63 62,
 q3 64 (.fadr 2 (.t 3)) 63 false,
 q3 65 (.load false 1 (.t 64)) 63 false,
 q3 66 (.bin .neq (.t 65) (.k (.int .i64 6))) 63 false,
 q1 67 (.pick (.t 63) (.k (.bool true)) (.t 66))] false [1,2,3,4,5,67])
 (.cond (.t 67) (.seq (.reg [q1 0 (.asg (.k (.bool false)))] false [0])
 (.ret))
 (.skip) [1,2,3,4,5]))
 (.seq (.reg [q4 68 1,
 q4 69 4,
 q4 70 5,
 q1 71 (.call 66 [.t 68,.t 69,.k (.int .i64 1),.t 70] [])] false [1,2,3,4,5])
 (.seq (.reg [q4 72 1,
 q4 73 5,
 q4 74 4,
 q1 75 (.call 66 [.t 72,.t 73,.k (.int .i64 0),.t 74] [])] false [1,2,3])
 (.seq (.reg [q4 77 1,
 q1 78 (.load true 3 (.t 3)),
 q1 79 (.bsl 3 1 [.int .i64 0,.int .i64 0,.int .i64 0] [(0,3,.t 78)]),
 q1 80 (.bsl 1 2 [.int .i64 0] [(0,1,.k (.int .i64 4)),(1,1,.k (.int .i64 0))]),
 q1 81 (.call 27 [.t 77,.t 79,.t 80,.k (.nils)] []),
 q4 76 81,
 q1 82 (.ext (.t 76) 0),
 q1 83 (.ext (.t 76) 1),
 q1 7 (.asg (.t 82)),
 q1 8 (.asg (.t 83))] false [1,2,3,7,8])
 (.seq (.reg [q4 85 1,
 q1 86 (.load true 3 (.t 3)),
 q1 87 (.bsl 3 1 [.int .i64 0,.int .i64 0,.int .i64 0] [(0,3,.t 86)]),
 q4 88 2,
 q1 89 (.iadr 3 .none (.t 88) (.k (.int .i64 2))),
 q1 90 (.load true 3 (.t 89)),
 q1 91 (.bsl 1 3 [.int .i64 0] [(0,1,.k (.int .i64 4)),(1,1,.k (.int .i64 0)),(2,1,.k (.int .i64 1))]),
 ⟨some 92,.x (.call 18 [.t 85,.t 87,.t 90,.t 91,.k (.nils)] []),.none,true,[]⟩,
 q4 84 92,
 q1 93 (.ext (.t 84) 0),
 q1 94 (.ext (.t 84) 1),
 q1 9 (.alloc [.int .i64 0,.int .i64 0,.int .i64 0]),
 ⟨.none,.x (.store 3 (.t 9) (.t 93)),.none,true,[]⟩,
 q1 10 (.asg (.t 94))] true [1,7,8,9,10])
 (.seq (.reg [q4 95 7,
 q1 96 (.bsl 1 2 [.int .i64 0] [(0,1,.k (.int .i64 4)),(1,1,.k (.int .i64 1))]),
 q1 97 (.call 29 [.t 95,.t 96] []),
 q4 98 97,
 q3 99 (.mv (.t 8)) 98 true,
 q3 100 (.bin .eql (.t 99) (.k (.int .i64 5))) 98 true,
 q1 101 (.pick (.t 98) (.t 100) (.k (.bool false))),
 q4 102 101,
 q3 103 (.fadr 2 (.t 9)) 102 true,
 q3 104 (.load false 1 (.t 103)) 102 true,
 q3 105 (.bin .eql (.t 104) (.k (.int .i64 21))) 102 true,
 q1 106 (.pick (.t 102) (.t 105) (.k (.bool false))),
 q4 107 106,
 q3 108 (.mv (.t 10)) 107 true,
 q3 109 (.bsl 1 3 [.int .i64 0] [(0,1,.k (.int .i64 16)),(1,1,.k (.int .i64 0)),(2,1,.k (.int .i64 18))]) 107 true,
 q3 110 (.call 32 [.t 108,.t 109] []) 107 true,
 q1 111 (.pick (.t 107) (.t 110) (.k (.bool false))),
 q4 112 111,
 q3 113 (.mv (.t 1)) 112 true,
 q3 114 (.call 24 [.t 113,.k (.int .i64 16),.k (.int .i64 0)] []) 112 true,
 q3 115 (.bin .eql (.t 114) (.k (.int .i64 18))) 112 true,
 q1 116 (.pick (.t 112) (.t 115) (.k (.bool false))),
 q4 117 116,
 q3 118 (.mv (.t 1)) 117 true,
 q3 119 (.call 24 [.t 118,.k (.int .i64 18),.k (.int .i64 1)] []) 117 true,
 q3 120 (.bin .eql (.t 119) (.k (.int .i64 16))) 117 true,
 q1 121 (.pick (.t 117) (.t 120) (.k (.bool false))),
 q4 122 121,
 q3 123 (.load true 3 (.t 9)) 122 true,
 q3 124 (.call 67 [.t 123,.k (.int .i64 20)] []) 122 true,
 q1 125 (.pick (.t 122) (.t 124) (.k (.bool false))),
 q4 126 125,
 q3 127 (.load true 3 (.t 9)) 126 true,
 q3 128 (.call 67 [.t 127,.k (.int .i64 21)] []) 126 true,
 q3 129 (.un .not (.t 128)) 126 true,
 q1 130 (.pick (.t 126) (.t 129) (.k (.bool false))),
 q1 0 (.asg (.t 130))] false [0])
 (.ret))))))))))))⟩
def h16l0:HC :=
 .seq (.seq (.reg [q4 21 8,
 q4 22 1,
 q1 23 (.len false (.t 22)),
 q1 24 (.bin .lss (.t 21) (.t 23)),
 q4 25 24,
 q3 26 (.mv (.t 7)) 25 true,
 q1 27 (.pick (.t 25) (.t 26) (.k (.bool false)))] false [1,4,6,7,8,27])
 (.cond (.t 27) (.skip)
 (.exit 0 [4,6,7]) [1,4,6,8]))
 (.seq (.block 1 (.reg [q1 31 (.load true 3 (.t 6)),
 q4 32 1,
 q4 33 8,
 q1 34 (.iadr 6 .none (.t 32) (.t 33)),
 q1 35 (.load true 6 (.t 34)),
 ⟨some 36,.x (.call 69 [.t 31,.t 35] []),.none,true,[]⟩,
 q4 30 36,
 q1 37 (.ext (.t 30) 0),
 q1 38 (.ext (.t 30) 1),
 ⟨.none,.x (.store 3 (.t 6) (.t 37)),.none,true,[]⟩,
 q1 7 (.asg (.t 38))] true [1,4,6,7,8]) [1,4,6,7,8])
 (.reg [q4 28 8,
 q1 29 (.bin .add (.t 28) (.k (.int .i64 1))),
 q1 8 (.asg (.t 29))] false [1,4,6,7,8]))
def h16:HF:=⟨2,[.cell 4 true 3,.tmp 5],
 .seq (.reg [q1 4 (.alloc [.nilp,.nils,.nils]),
 q1 5 (.asg (.k (.bool false)))] false [0,1,4])
 (.seq (.reg [q4 9 0,
 q1 10 (.call 68 [.t 9] []),
 q1 6 (.alloc [.nilp,.nils,.nils]),
 q2 (.store 3 (.t 6) (.t 10))] false [1,4,6])
 (.seq (.seq (.reg [q1 11 (.fadr 0 (.t 6)),
 q1 12 (.load false 1 (.t 11)),
 q1 13 (.peq false (.t 12) (.k (.nilp))),
 q4 14 13,
 q3 15 (.fadr 1 (.t 6)) 14 false,
 q3 16 (.load false 1 (.t 15)) 14 false,
 q3 17 (.len false (.t 16)) 14 false,
 q3 18 (.bin .neq (.t 17) (.k (.int .i64 3))) 14 false,
 q1 19 (.pick (.t 14) (.k (.bool true)) (.t 18))] false [1,4,6,19])
 (.cond (.t 19) (.seq (.reg [q1 20 (.load true 3 (.t 6)),
 q2 (.store 3 (.t 4) (.t 20)),
 q1 5 (.asg (.k (.bool false)))] false [4,5])
 (.ret))
 (.skip) [1,4,6]))
 (.seq (.reg [q1 7 (.asg (.k (.bool true)))] false [1,4,6,7])
 (.seq (.seq (.reg [q1 8 (.asg (.k (.int .i64 0)))] false [1,4,6,7,8])
 (.block 0 (.loop h16l0 [1,4,6,7,8]) [4,6,7]))
 (.seq (.reg [q1 39 (.load true 3 (.t 6)),
 q4 40 7,
 q2 (.store 3 (.t 4) (.t 39)),
 q1 5 (.asg (.t 40))] false [4,5])
 (.ret))))))⟩
def h17:HF:=⟨2,[.tmp 4],
 .seq (.reg [q1 4 (.asg (.k (.nils)))] false [0,1])
 (.seq (.reg [q1 5 (.asg (.k (.nils)))] false [0,1,5])
 (.seq (.seq (.reg [q1 6 (.asg (.k (.int .i64 0)))] false [0,1,5,6])
 (.block 0 (.loop (.seq (.seq (.reg [q4 8 6,
 q4 9 1,
 q1 10 (.len false (.t 9)),
 q1 11 (.bin .lss (.t 8) (.t 10))] false [0,1,5,6,11])
 (.cond (.t 11) (.skip)
 (.exit 0 [5]) [0,1,5,6]))
 (.seq (.block 1 (.seq (.reg [q4 14 1,
 q4 15 6,
 q1 16 (.iadr 1 .none (.t 14) (.t 15)),
 q1 17 (.load false 1 (.t 16)),
 q1 18 (.conv .i64 (.t 17)),
 q4 19 0,
 q1 20 (.len false (.t 19)),
 q1 21 (.bin .add (.t 20) (.k (.int .i64 1))),
 q1 22 (.bin .rem (.t 18) (.t 21)),
 q1 7 (.asg (.t 22))] false [0,1,5,6,7])
 (.seq (.reg [q4 23 7,
 q4 24 0,
 q1 25 (.len false (.t 24)),
 q1 26 (.bin .lss (.t 23) (.t 25))] false [0,1,5,6,7,26])
 (.cond (.t 26) (.reg [q4 27 5,
 q4 28 0,
 q4 29 7,
 q1 30 (.iadr 4 .none (.t 28) (.t 29)),
 q1 31 (.fadr 0 (.t 30)),
 q1 32 (.load false 1 (.t 31)),
 q1 33 (.bsl 1 1 [.int .i64 0] [(0,1,.t 32)]),
 q1 34 (.app 1 8 (.t 27) (.t 33)),
 q1 5 (.asg (.t 34))] false [0,1,5,6])
 (.reg [q4 35 5,
 q1 36 (.bsl 1 1 [.int .i64 0] [(0,1,.k (.int .i64 0))]),
 q1 37 (.app 1 8 (.t 35) (.t 36)),
 q1 5 (.asg (.t 37))] false [0,1,5,6]) [0,1,5,6]))) [0,1,5,6])
 (.reg [q4 12 6,
 q1 13 (.bin .add (.t 12) (.k (.int .i64 1))),
 q1 6 (.asg (.t 13))] false [0,1,5,6]))) [0,1,5,6]) [5]))
 (.seq (.reg [q4 38 5,
 q1 4 (.asg (.t 38))] false [4])
 (.ret))))⟩
def h18l0:HC :=
 .seq (.reg [q1 32 (.bin .lss (.t 31) (.t 30))] false [0,4,7,10,12,13,29,30,31,32])
 (.seq (.cond (.t 32) (.skip)
 (.exit 0 [0,4,7,10,12,13]) [0,4,7,10,12,13,29,30,31])
 (.seq (.block 1 (.seq (.reg [q4 33 31,
 q1 34 (.iadr 1 .none (.t 29) (.t 31)),
 q1 35 (.load false 1 (.t 34)),
 q1 14 (.asg (.t 33)),
 q1 15 (.asg (.t 35))] false [0,4,7,10,12,13,14,15,29,30,31])
 (.reg [q4 36 13,
 q4 37 14,
 q1 38 (.load false 1 (.t 12)),
 q4 39 15,
 q1 40 (.call 70 [.t 38,.t 39] []),
 q1 41 (.iadr 1 .none (.t 36) (.t 37)),
 q2 (.store 1 (.t 41) (.t 40))] false [0,4,7,10,12,13,29,30,31])) [0,4,7,10,12,13,29,30,31])
 (.reg [q1 42 (.bin .add (.t 31) (.k (.int .i64 1))),
 q4 31 42] false [0,4,7,10,12,13,29,30,31])))
def h18l1:HC :=
 .seq (.reg [q1 46 (.bin .lss (.t 45) (.t 44))] false [0,7,10,12,13,43,44,45,46])
 (.seq (.cond (.t 46) (.skip)
 (.exit 2 [0,7,10,12,13]) [0,7,10,12,13,43,44,45])
 (.seq (.block 3 (.seq (.reg [q1 47 (.iadr 1 .none (.t 43) (.t 45)),
 q1 48 (.load false 1 (.t 47)),
 q1 17 (.asg (.t 48))] false [0,7,10,12,13,17,43,44,45])
 (.reg [q4 49 0,
 q4 50 17,
 q1 51 (.mkfn 72 [.t 12]),
 q1 52 (.call 71 [.t 49,.t 50,.t 51] [])] false [0,7,10,12,13,43,44,45])) [0,7,10,12,13,43,44,45])
 (.reg [q1 53 (.bin .add (.t 45) (.k (.int .i64 1))),
 q4 45 53] false [0,7,10,12,13,43,44,45])))
def h18l2:HC :=
 .seq (.seq (.reg [q4 56 18,
 q1 57 (.load false 1 (.t 12)),
 q1 58 (.nilck (.t 57)),
 q1 59 (.fadr 2 (.t 58)),
 q1 60 (.fadr 2 (.t 59)),
 q1 61 (.load false 1 (.t 60)),
 q1 62 (.bin .lss (.t 56) (.t 61))] false [0,10,12,13,18,62])
 (.cond (.t 62) (.skip)
 (.exit 4 [10,12,13]) [0,10,12,13,18]))
 (.block 5 (.seq (.reg [q4 64 0,
 q4 65 18,
 q1 66 (.call 22 [.t 64,.t 65] []),
 q4 63 66,
 q1 67 (.ext (.t 63) 0),
 q1 68 (.ext (.t 63) 1),
 q1 19 (.alloc [.int .i64 0,.int .i64 0]),
 q2 (.store 2 (.t 19) (.t 67)),
 q1 20 (.asg (.t 68))] false [0,10,12,13,18,19])
 (.seq (.reg [q4 69 0,
 q4 70 18,
 q1 71 (.mkfn 73 [.t 12]),
 q1 72 (.call 71 [.t 69,.t 70,.t 71] [])] false [0,10,12,13,18,19])
 (.reg [q4 73 18,
 q1 74 (.fadr 0 (.t 19)),
 q1 75 (.load false 1 (.t 74)),
 q1 76 (.bin .add (.k (.int .i64 1)) (.t 75)),
 q1 77 (.bin .add (.t 73) (.t 76)),
 q1 18 (.asg (.t 77))] false [0,10,12,13,18]))) [0,10,12,13,18])
def h18:HF:=⟨5,[.cell 10 true 3,.tmp 11],
 .seq (.reg [q1 7 (.box (.t 2)),
 q1 10 (.alloc [.int .i64 0,.int .i64 0,.int .i64 0]),
 q1 11 (.asg (.k (.nils)))] false [0,1,3,4,7,10])
 (.seq (.reg [q4 21 0,
 q4 22 1,
 q1 23 (.load true 3 (.t 7)),
 q1 24 (.build [.nilp,.nils,.int .i64 0,.int .i64 0,.int .i64 0] [(0,1,.t 21),(1,1,.t 22),(2,3,.t 23)]),
 q1 25 (.box (.t 24)),
 q1 12 (.alloc [.nilp]),
 q2 (.store 1 (.t 12) (.t 25))] false [0,3,4,7,10,12])
 (.seq (.reg [q4 26 3,
 q1 27 (.len false (.t 26)),
 q1 28 (.mksl 1 8 [.int .i64 0] (.t 27) (.t 27)),
 q1 13 (.asg (.t 28))] false [0,3,4,7,10,12,13])
 (.seq (.seq (.reg [q4 29 3,
 q1 30 (.len false (.t 29)),
 q1 31 (.mv (.k (.int .i64 0)))] false [0,4,7,10,12,13,29,30,31])
 (.block 0 (.loop h18l0 [0,4,7,10,12,13,29,30,31]) [0,4,7,10,12,13]))
 (.seq (.seq (.reg [q4 43 4,
 q1 44 (.len false (.t 43)),
 q1 45 (.mv (.k (.int .i64 0)))] false [0,7,10,12,13,43,44,45])
 (.block 2 (.loop h18l1 [0,7,10,12,13,43,44,45]) [0,7,10,12,13]))
 (.seq (.seq (.reg [q1 54 (.fadr 2 (.t 7)),
 q1 55 (.load false 1 (.t 54)),
 q1 18 (.asg (.t 55))] false [0,10,12,13,18])
 (.block 4 (.loop h18l2 [0,10,12,13,18]) [10,12,13]))
 (.seq (.reg [q1 78 (.load false 1 (.t 12)),
 q1 79 (.nilck (.t 78)),
 q1 80 (.fadr 2 (.t 79)),
 q1 81 (.load true 3 (.t 80)),
 q4 82 13,
 q2 (.store 3 (.t 10) (.t 81)),
 q1 11 (.asg (.t 82))] false [10,11])
 (.ret)))))))⟩
def h19:HF:=⟨2,[.tmp 4],
 .seq (.reg [q1 4 (.asg (.k (.bool false)))] false [0,1])
 (.seq (.seq (.reg [q1 5 (.asg (.k (.int .i64 0)))] false [0,1,5])
 (.block 0 (.loop (.seq (.seq (.reg [q4 6 5,
 q4 7 0,
 q1 8 (.len false (.t 7)),
 q1 9 (.bin .lss (.t 6) (.t 8))] false [0,1,5,9])
 (.cond (.t 9) (.skip)
 (.exit 0 []) [0,1,5]))
 (.seq (.block 1 (.seq (.reg [q4 12 0,
 q4 13 5,
 q1 14 (.iadr 1 .none (.t 12) (.t 13)),
 q1 15 (.load false 1 (.t 14)),
 q4 16 1,
 q1 17 (.bin .eql (.t 15) (.t 16))] false [0,1,5,17])
 (.cond (.t 17) (.seq (.reg [q1 4 (.asg (.k (.bool true)))] false [4])
 (.ret))
 (.skip) [0,1,5])) [0,1,5])
 (.reg [q4 10 5,
 q1 11 (.bin .add (.t 10) (.k (.int .i64 1))),
 q1 5 (.asg (.t 11))] false [0,1,5]))) [0,1,5]) []))
 (.seq (.reg [q1 4 (.asg (.k (.bool false)))] false [4])
 (.ret)))⟩
def h20l0:HC :=
 .seq (.seq (.reg [q4 5 4,
 q4 6 0,
 q1 7 (.len false (.t 6)),
 q1 8 (.bin .lss (.t 5) (.t 7))] false [0,3,4,8])
 (.cond (.t 8) (.skip)
 (.exit 0 [3]) [0,3,4]))
 (.seq (.block 1 (.reg [q4 11 3,
 q4 12 0,
 q4 13 4,
 q1 14 (.iadr 1 .none (.t 12) (.t 13)),
 q1 15 (.load false 1 (.t 14)),
 q1 16 (.bsl 1 1 [.int .i64 0] [(0,1,.t 15)]),
 q1 17 (.app 1 8 (.t 11) (.t 16)),
 q1 3 (.asg (.t 17))] false [0,3,4]) [0,3,4])
 (.reg [q4 9 4,
 q1 10 (.bin .add (.t 9) (.k (.int .i64 1))),
 q1 4 (.asg (.t 10))] false [0,3,4]))
def h20:HF:=⟨1,[.tmp 2],
 .seq (.reg [q1 2 (.asg (.k (.nils)))] false [0])
 (.seq (.reg [q1 3 (.asg (.k (.nils)))] false [0,3])
 (.seq (.seq (.reg [q1 4 (.asg (.k (.int .i64 0)))] false [0,3,4])
 (.block 0 (.loop h20l0 [0,3,4]) [3]))
 (.seq (.reg [q4 18 3,
 q1 2 (.asg (.t 18))] false [2])
 (.ret))))⟩
def h21:HF:=⟨2,[.tmp 4],
 .seq (.reg [q1 4 (.asg (.k (.int .i64 0)))] false [0,1])
 (.seq (.seq (.reg [q4 6 0,
 q1 7 (.len false (.t 6)),
 q1 8 (.bin .sub (.t 7) (.k (.int .i64 1))),
 q1 5 (.asg (.t 8))] false [0,1,5])
 (.block 0 (.loop (.seq (.seq (.reg [q4 9 5,
 q1 10 (.bin .geq (.t 9) (.k (.int .i64 0)))] false [0,1,5,10])
 (.cond (.t 10) (.skip)
 (.exit 0 []) [0,1,5]))
 (.seq (.block 1 (.seq (.reg [q4 13 0,
 q4 14 5,
 q1 15 (.iadr 4 .none (.t 13) (.t 14)),
 q1 16 (.fadr 0 (.t 15)),
 q1 17 (.load false 1 (.t 16)),
 q4 18 1,
 q1 19 (.bin .eql (.t 17) (.t 18))] false [0,1,5,19])
 (.cond (.t 19) (.seq (.reg [q4 20 5,
 q1 4 (.asg (.t 20))] false [4])
 (.ret))
 (.skip) [0,1,5])) [0,1,5])
 (.reg [q4 11 5,
 q1 12 (.bin .sub (.t 11) (.k (.int .i64 1))),
 q1 5 (.asg (.t 12))] false [0,1,5]))) [0,1,5]) []))
 (.seq (.reg [q1 4 (.asg (.k (.int .i64 (-1))))] false [4])
 (.ret)))⟩
def h22:HF:=⟨2,[.cell 4 true 2,.tmp 5],
 .seq (.reg [q1 4 (.alloc [.int .i64 0,.int .i64 0]),
 q1 5 (.asg (.k (.int .i64 0)))] false [0,1,4])
 (.seq (.seq (.reg [q4 6 1,
 q1 7 (.bin .lss (.t 6) (.k (.int .i64 1))),
 q4 8 7,
 q3 9 (.mv (.t 1)) 8 false,
 q3 10 (.mv (.t 0)) 8 false,
 q3 11 (.nilck (.t 10)) 8 false,
 q3 12 (.fadr 0 (.t 11)) 8 false,
 q3 13 (.load false 1 (.t 12)) 8 false,
 q3 14 (.len false (.t 13)) 8 false,
 q3 15 (.bin .geq (.t 9) (.t 14)) 8 false,
 q1 16 (.pick (.t 8) (.k (.bool true)) (.t 15))] false [0,1,4,16])
 (.cond (.t 16) (.seq (.reg [q1 17 (.build [.int .i64 0,.int .i64 0] []),
 q2 (.store 2 (.t 4) (.t 17)),
 q1 5 (.asg (.k (.int .i64 20)))] false [4,5])
 (.ret))
 (.skip) [0,1,4]))
 (.seq (.reg [q4 18 0,
 q1 19 (.nilck (.t 18)),
 q1 20 (.fadr 0 (.t 19)),
 q1 21 (.load false 1 (.t 20)),
 q4 22 1,
 q1 23 (.iadr 1 .none (.t 21) (.t 22)),
 q1 24 (.load false 1 (.t 23)),
 q1 25 (.call 74 [.t 24] []),
 q1 26 (.ext (.t 25) 0),
 q1 27 (.ext (.t 25) 1),
 q2 (.store 2 (.t 4) (.t 26)),
 q1 5 (.asg (.t 27))] false [4,5])
 (.ret)))⟩
def h23:HF:=⟨2,[.tmp 4],
 .seq (.reg [q1 2 (.box (.t 0)),
 q1 4 (.asg (.k (.bool false)))] false [1,2])
 (.seq (.seq (.reg [q4 5 1,
 q1 6 (.bin .lss (.t 5) (.k (.int .i64 0))),
 q4 7 6,
 q3 8 (.mv (.t 1)) 7 false,
 q3 9 (.fadr 0 (.t 2)) 7 false,
 q3 10 (.load false 1 (.t 9)) 7 false,
 q3 11 (.bin .geq (.t 8) (.t 10)) 7 false,
 q1 12 (.pick (.t 7) (.k (.bool true)) (.t 11))] false [1,2,12])
 (.cond (.t 12) (.seq (.reg [q1 4 (.asg (.k (.bool false)))] false [4])
 (.ret))
 (.skip) [1,2]))
 (.seq (.reg [q1 13 (.fadr 1 (.t 2)),
 ⟨some 14,.x (.load false 1 (.t 13)),.none,false,[3]⟩,
 q4 15 1,
 ⟨some 16,.x (.call 75 [.t 15] []),.none,true,[]⟩,
 q1 17 (.bin .quo (.t 14) (.t 16)),
 q1 18 (.bin .rem (.t 17) (.k (.int .i64 2))),
 q1 19 (.bin .eql (.t 18) (.k (.int .i64 1))),
 q1 4 (.asg (.t 19))] true [4])
 (.ret)))⟩
def h24:HF:=⟨3,[.tmp 6],
 .seq (.reg [q1 6 (.asg (.k (.int .i64 0)))] false [0,1,2])
 (.seq (.reg [q4 7 0,
 q1 8 (.nilck (.t 7)),
 q1 9 (.fadr 0 (.t 8)),
 q1 10 (.load false 1 (.t 9)),
 q4 11 1,
 q1 12 (.bin .add (.t 11) (.k (.int .i64 1))),
 q4 13 2,
 q1 14 (.bin .add (.t 12) (.t 13)),
 q1 15 (.iadr 1 .none (.t 10) (.t 14)),
 q1 16 (.load false 1 (.t 15)),
 q1 6 (.asg (.t 16))] false [6])
 (.ret))⟩
def h27l0:HC :=
 .seq (.reg [q1 29 (.bin .lss (.t 28) (.t 27))] false [3,4,10,12,13,26,27,28,29])
 (.seq (.cond (.t 29) (.skip)
 (.exit 0 [3,4,10,12,13]) [3,4,10,12,13,26,27,28])
 (.seq (.block 1 (.seq (.reg [q1 30 (.iadr 1 .none (.t 26) (.t 28)),
 q1 31 (.load false 1 (.t 30)),
 q1 15 (.asg (.t 31))] false [3,4,10,12,13,15,26,27,28])
 (.reg [q1 32 (.load false 1 (.t 13)),
 q4 33 15,
 q1 34 (.callv (.t 32) [.t 33])] false [3,4,10,12,13,26,27,28])) [3,4,10,12,13,26,27,28])
 (.reg [q1 35 (.bin .add (.t 28) (.k (.int .i64 1))),
 q4 28 35] false [3,4,10,12,13,26,27,28])))
def h27l1:HC :=
 .seq (.reg [q1 39 (.bin .lss (.t 38) (.t 37))] false [4,10,12,13,36,37,38,39])
 (.seq (.cond (.t 39) (.skip)
 (.exit 2 [4,10,12,13]) [4,10,12,13,36,37,38])
 (.seq (.block 3 (.seq (.reg [q1 40 (.iadr 1 .none (.t 36) (.t 38)),
 q1 41 (.load false 1 (.t 40)),
 q1 17 (.asg (.t 41))] false [4,10,12,13,17,36,37,38])
 (.reg [q1 42 (.load false 1 (.t 4)),
 q4 43 17,
 q1 44 (.mkfn 80 [.t 13]),
 q1 45 (.call 71 [.t 42,.t 43,.t 44] [])] false [4,10,12,13,36,37,38])) [4,10,12,13,36,37,38])
 (.reg [q1 46 (.bin .add (.t 38) (.k (.int .i64 1))),
 q4 38 46] false [4,10,12,13,36,37,38])))
def h27l2:HC :=
 .seq (.seq (.reg [q4 47 18,
 q1 48 (.load false 1 (.t 10)),
 q1 49 (.len false (.t 48)),
 q1 50 (.bin .lss (.t 47) (.t 49))] false [4,10,12,13,18,50])
 (.cond (.t 50) (.skip)
 (.exit 4 [10,12]) [4,10,12,13,18]))
 (.seq (.block 5 (.reg [q1 53 (.load false 1 (.t 4)),
 q1 54 (.load false 1 (.t 10)),
 q4 55 18,
 q1 56 (.iadr 1 .none (.t 54) (.t 55)),
 q1 57 (.load false 1 (.t 56)),
 q1 58 (.mkfn 81 [.t 13]),
 ⟨some 59,.x (.call 71 [.t 53,.t 57,.t 58] []),.none,true,[]⟩] true [4,10,12,13,18]) [4,10,12,13,18])
 (.reg [q4 51 18,
 q1 52 (.bin .add (.t 51) (.k (.int .i64 1))),
 q1 18 (.asg (.t 52))] false [4,10,12,13,18]))
def h27:HF:=⟨4,[.tmp 8,.tmp 9],
 .seq (.reg [q1 4 (.box (.t 0)),
 q1 5 (.box (.t 1)),
 q1 8 (.asg (.k (.nils))),
 q1 9 (.asg (.k (.int .i64 0)))] false [2,3,4,5])
 (.seq (.reg [q1 10 (.alloc [.nils])] false [2,3,4,5,10])
 (.seq (.reg [q1 19 (.load false 1 (.t 4)),
 q1 20 (.nilck (.t 19)),
 q1 21 (.fadr 0 (.t 20)),
 q1 22 (.load false 1 (.t 21)),
 q1 23 (.len false (.t 22)),
 q1 24 (.mksl 1 8 [.int .i64 0] (.t 23) (.t 23)),
 q1 11 (.alloc [.nils]),
 q2 (.store 1 (.t 11) (.t 24))] false [2,3,4,5,10,11])
 (.seq (.reg [q1 12 (.alloc [.int .i64 0]),
 q2 (.store 1 (.t 12) (.k (.int .i64 0)))] false [2,3,4,5,10,11,12])
 (.seq (.reg [q1 25 (.mkfn 77 [.t 5,.t 11,.t 10,.t 4,.t 12]),
 q1 13 (.alloc [.nilf]),
 q2 (.store 1 (.t 13) (.t 25))] false [2,3,4,10,12,13])
 (.seq (.seq (.reg [q4 26 2,
 q1 27 (.len false (.t 26)),
 q1 28 (.mv (.k (.int .i64 0)))] false [3,4,10,12,13,26,27,28])
 (.block 0 (.loop h27l0 [3,4,10,12,13,26,27,28]) [3,4,10,12,13]))
 (.seq (.seq (.reg [q4 36 3,
 q1 37 (.len false (.t 36)),
 q1 38 (.mv (.k (.int .i64 0)))] false [4,10,12,13,36,37,38])
 (.block 2 (.loop h27l1 [4,10,12,13,36,37,38]) [4,10,12,13]))
 (.seq (.seq (.reg [q1 18 (.asg (.k (.int .i64 0)))] false [4,10,12,13,18])
 (.block 4 (.loop h27l2 [4,10,12,13,18]) [10,12]))
 (.seq (.reg [q1 60 (.load false 1 (.t 10)),
 q1 61 (.load false 1 (.t 12)),
 q1 8 (.asg (.t 60)),
 q1 9 (.asg (.t 61))] true [8,9])
 (.ret)))))))))⟩
def h29:HF:=⟨2,[.tmp 4],
 .seq (.reg [q1 4 (.asg (.k (.bool false)))] false [0,1])
 (.seq (.seq (.reg [q4 6 0,
 q1 7 (.len false (.t 6)),
 q4 8 1,
 q1 9 (.len false (.t 8)),
 q1 10 (.bin .neq (.t 7) (.t 9))] false [0,1,10])
 (.cond (.t 10) (.seq (.reg [q1 4 (.asg (.k (.bool false)))] false [4])
 (.ret))
 (.skip) [0,1]))
 (.seq (.seq (.reg [q1 5 (.asg (.k (.int .i64 0)))] false [0,1,5])
 (.block 0 (.loop (.seq (.seq (.reg [q4 11 5,
 q4 12 0,
 q1 13 (.len false (.t 12)),
 q1 14 (.bin .lss (.t 11) (.t 13))] false [0,1,5,14])
 (.cond (.t 14) (.skip)
 (.exit 0 []) [0,1,5]))
 (.seq (.block 1 (.seq (.reg [q4 17 0,
 q4 18 5,
 q1 19 (.iadr 1 .none (.t 17) (.t 18)),
 q1 20 (.load false 1 (.t 19)),
 q4 21 1,
 q4 22 5,
 q1 23 (.iadr 1 .none (.t 21) (.t 22)),
 q1 24 (.load false 1 (.t 23)),
 q1 25 (.bin .neq (.t 20) (.t 24))] true [0,1,5,25])
 (.cond (.t 25) (.seq (.reg [q1 4 (.asg (.k (.bool false)))] false [4])
 (.ret))
 (.skip) [0,1,5])) [0,1,5])
 (.reg [q4 15 5,
 q1 16 (.bin .add (.t 15) (.k (.int .i64 1))),
 q1 5 (.asg (.t 16))] false [0,1,5]))) [0,1,5]) []))
 (.seq (.reg [q1 4 (.asg (.k (.bool true)))] false [4])
 (.ret))))⟩
def h32:HF:=⟨2,[.tmp 4],
 .seq (.reg [q1 4 (.asg (.k (.bool false)))] false [0,1])
 (.seq (.reg [q4 5 0,
 q1 6 (.len false (.t 5)),
 q4 7 1,
 q1 8 (.len false (.t 7)),
 q1 9 (.bin .eql (.t 6) (.t 8)),
 q4 10 9,
 q3 11 (.mv (.t 0)) 10 true,
 q3 12 (.mv (.t 1)) 10 true,
 q3 13 (.call 86 [.t 11,.t 12] []) 10 true,
 q1 14 (.pick (.t 10) (.t 13) (.k (.bool false))),
 q1 4 (.asg (.t 14))] false [4])
 (.ret))⟩
def h35:HF:=⟨2,[.cell 4 true 2],
 .seq (.reg [q1 4 (.alloc [.int .i64 0,.int .i64 0])] false [0,1,4])
 (.seq (.reg [q4 8 0,
 q1 9 (.conv .u64 (.t 8)),
 q1 10 (.bin .rem (.t 9) (.k (.int .u64 17))),
 q1 11 (.conv .i64 (.t 10)),
 q1 5 (.asg (.t 11))] false [1,4,5])
 (.seq (.reg [q4 12 1,
 q1 13 (.conv .i64 (.t 12)),
 q1 6 (.asg (.t 13))] false [4,5,6])
 (.seq (.seq (.reg [q1 7 (.asg (.k (.int .i64 16)))] false [4,5,6,7])
 (.block 0 (.loop (.seq (.seq (.reg [q4 14 7,
 q4 15 5,
 q1 16 (.bin .gtr (.t 14) (.t 15))] false [4,5,6,7,16])
 (.cond (.t 16) (.skip)
 (.exit 0 [4,5,6]) [4,5,6,7]))
 (.seq (.block 1 (.seq (.reg [q4 19 6,
 q4 20 7,
 q1 21 (.bin .sub (.t 20) (.k (.int .i64 1))),
 q1 22 (.bin .shl (.k (.int .i64 1)) (.t 21)),
 q1 23 (.bin .geq (.t 19) (.t 22))] false [4,5,6,7,23])
 (.cond (.t 23) (.reg [q4 24 6,
 q4 25 7,
 q1 26 (.bin .sub (.t 25) (.k (.int .i64 1))),
 q1 27 (.bin .shl (.k (.int .i64 1)) (.t 26)),
 q1 28 (.bin .sub (.t 24) (.t 27)),
 q1 6 (.asg (.t 28))] false [4,5,6,7])
 (.skip) [4,5,6,7])) [4,5,6,7])
 (.reg [q4 17 7,
 q1 18 (.bin .sub (.t 17) (.k (.int .i64 1))),
 q1 7 (.asg (.t 18))] false [4,5,6,7]))) [4,5,6,7]) [4,5,6]))
 (.seq (.reg [q4 29 5,
 q4 30 6,
 q1 31 (.build [.int .i64 0,.int .i64 0] [(0,1,.t 29),(1,1,.t 30)]),
 q2 (.store 2 (.t 4) (.t 31))] false [4])
 (.ret)))))⟩
def h64:HF:=⟨1,[.tmp 2,.tmp 3],
 .seq (.reg [q1 2 (.asg (.k (.nilp))),
 q1 3 (.asg (.k (.nils)))] false [0])
 (.seq (.reg [q1 4 (.asg (.k (.int .i64 1)))] false [0,4])
 (.seq (.reg [q1 5 (.asg (.k (.nils)))] false [0,4,5])
 (.seq (.seq (.reg [q4 8 0,
 q1 9 (.len false (.t 8)),
 q1 10 (.mv (.k (.int .i64 0)))] false [4,5,8,9,10])
 (.block 0 (.loop (.seq (.reg [q1 11 (.bin .lss (.t 10) (.t 9))] false [4,5,8,9,10,11])
 (.seq (.cond (.t 11) (.skip)
 (.exit 0 [4,5]) [4,5,8,9,10])
 (.seq (.block 1 (.seq (.reg [q1 12 (.iadr 1 .none (.t 8) (.t 10)),
 q1 13 (.load false 1 (.t 12)),
 q1 7 (.asg (.t 13))] false [4,5,7,8,9,10])
 (.seq (.reg [q4 14 5,
 q4 15 4,
 q4 16 4,
 q4 17 7,
 q1 18 (.bin .add (.t 16) (.t 17)),
 q4 19 4,
 q1 20 (.build [.int .i64 0,.int .i64 0,.int .i64 0] [(0,1,.t 15),(1,1,.t 18),(2,1,.t 19)]),
 q1 21 (.bsl 3 1 [.int .i64 0,.int .i64 0,.int .i64 0] [(0,3,.t 20)]),
 q1 22 (.app 3 24 (.t 14) (.t 21)),
 q1 5 (.asg (.t 22))] false [4,5,7,8,9,10])
 (.reg [q4 23 4,
 q4 24 7,
 q1 25 (.bin .add (.t 23) (.t 24)),
 q1 4 (.asg (.t 25))] false [4,5,8,9,10]))) [4,5,8,9,10])
 (.reg [q1 26 (.bin .add (.t 10) (.k (.int .i64 1))),
 q4 10 26] false [4,5,8,9,10])))) [4,5,8,9,10]) [4,5]))
 (.seq (.reg [q4 27 4,
 q1 28 (.mksl 1 8 [.int .i64 0] (.t 27) (.t 27)),
 q1 29 (.build [.nils] [(0,1,.t 28)]),
 q1 30 (.box (.t 29)),
 q4 31 5,
 q1 2 (.asg (.t 30)),
 q1 3 (.asg (.t 31))] false [2,3])
 (.ret)))))⟩
def h65l0:HC :=
 .seq (.reg [q1 33 (.bin .lss (.t 32) (.t 31))] false [0,4,5,6,8,31,32,33])
 (.seq (.cond (.t 33) (.skip)
 (.exit 0 [4,5,6,8]) [0,4,5,6,8,31,32])
 (.seq (.block 1 (.seq (.reg [q4 34 32,
 q1 9 (.asg (.t 34))] false [0,4,5,6,8,9,31,32])
 (.reg [q4 35 0,
 q1 36 (.nilck (.t 35)),
 q1 37 (.fadr 0 (.t 36)),
 q1 38 (.load false 1 (.t 37)),
 q4 39 8,
 q1 40 (.bin .add (.t 39) (.k (.int .i64 1))),
 q4 41 9,
 q1 42 (.bin .add (.t 40) (.t 41)),
 q1 43 (.iadr 1 .none (.t 38) (.t 42)),
 q2 (.store 1 (.t 43) (.k (.int .i64 0)))] false [0,4,5,6,8,31,32])) [0,4,5,6,8,31,32])
 (.reg [q1 44 (.bin .add (.t 32) (.k (.int .i64 1))),
 q4 32 44] false [0,4,5,6,8,31,32])))
def h65:HF:=⟨3,[.cell 6 true 3,.tmp 7],
 .seq (.reg [q1 4 (.box (.t 1)),
 q1 5 (.box (.t 2)),
 q1 6 (.alloc [.int .i64 0,.int .i64 0,.int .i64 0]),
 q1 7 (.asg (.k (.int .i64 0)))] false [0,4,5,6])
 (.seq (.seq (.reg [q1 10 (.fadr 1 (.t 4)),
 q1 11 (.load false 1 (.t 10)),
 q1 12 (.fadr 2 (.t 4)),
 q1 13 (.load false 1 (.t 12)),
 q1 14 (.bin .sub (.t 11) (.t 13)),
 q1 15 (.fadr 0 (.t 5)),
 q1 16 (.load false 1 (.t 15)),
 q1 17 (.bin .add (.k (.int .i64 1)) (.t 16)),
 q1 18 (.bin .lss (.t 14) (.t 17))] false [0,4,5,6,18])
 (.cond (.t 18) (.seq (.reg [q1 19 (.load true 3 (.t 4)),
 q2 (.store 3 (.t 6) (.t 19)),
 q1 7 (.asg (.k (.int .i64 0)))] false [6,7])
 (.ret))
 (.skip) [0,4,5,6]))
 (.seq (.reg [q1 20 (.fadr 2 (.t 4)),
 q1 21 (.load false 1 (.t 20)),
 q1 8 (.asg (.t 21))] false [0,4,5,6,8])
 (.seq (.reg [q4 22 0,
 q1 23 (.nilck (.t 22)),
 q1 24 (.fadr 0 (.t 23)),
 ⟨some 25,.x (.load false 1 (.t 24)),.none,false,[6]⟩,
 q4 26 8,
 q1 27 (.load true 2 (.t 5)),
 ⟨some 28,.x (.call 113 [.t 27] []),.none,true,[]⟩,
 q1 29 (.iadr 1 .none (.t 25) (.t 26)),
 ⟨.none,.x (.store 1 (.t 29) (.t 28)),.none,true,[]⟩] true [0,4,5,6,8])
 (.seq (.seq (.reg [q1 30 (.fadr 0 (.t 5)),
 q1 31 (.load false 1 (.t 30)),
 q1 32 (.mv (.k (.int .i64 0)))] false [0,4,5,6,8,31,32])
 (.block 0 (.loop h65l0 [0,4,5,6,8,31,32]) [4,5,6,8]))
 (.seq (.reg [q1 45 (.fadr 2 (.t 4)),
 q1 46 (.load false 1 (.t 45)),
 q1 47 (.fadr 0 (.t 5)),
 q1 48 (.load false 1 (.t 47)),
 q1 49 (.bin .add (.k (.int .i64 1)) (.t 48)),
 q1 50 (.bin .add (.t 46) (.t 49)),
 q1 51 (.fadr 2 (.t 4)),
 q2 (.store 1 (.t 51) (.t 50))] false [4,6,8])
 (.seq (.reg [q1 52 (.load true 3 (.t 4)),
 q4 53 8,
 q2 (.store 3 (.t 6) (.t 52)),
 q1 7 (.asg (.t 53))] false [6,7])
 (.ret)))))))⟩
def h66:HF:=⟨4,[],
 .reg [q4 8 0,
 q1 9 (.nilck (.t 8)),
 q1 10 (.fadr 0 (.t 9)),
 q1 11 (.load false 1 (.t 10)),
 q4 12 1,
 q1 13 (.bin .add (.t 12) (.k (.int .i64 1))),
 q4 14 2,
 q1 15 (.bin .add (.t 13) (.t 14)),
 q4 16 3,
 q1 17 (.iadr 1 .none (.t 11) (.t 15)),
 q2 (.store 1 (.t 17) (.t 16))] false []⟩
def h67:HF:=⟨2,[.tmp 4],
 .seq (.reg [q1 2 (.box (.t 0)),
 q1 4 (.asg (.k (.bool false)))] false [1,2])
 (.seq (.reg [q4 5 1,
 q1 6 (.fadr 0 (.t 2)),
 q1 7 (.load false 1 (.t 6)),
 q1 8 (.bin .geq (.t 5) (.t 7)),
 q4 9 8,
 q3 10 (.mv (.t 1)) 9 true,
 q3 11 (.fadr 2 (.t 2)) 9 true,
 q3 12 (.load false 1 (.t 11)) 9 true,
 q3 13 (.bin .lss (.t 10) (.t 12)) 9 true,
 q1 14 (.pick (.t 9) (.t 13) (.k (.bool false))),
 q1 4 (.asg (.t 14))] false [4])
 (.ret))⟩
def h68:HF:=⟨1,[.cell 2 true 3],
 .seq (.reg [q1 2 (.alloc [.nilp,.nils,.nils])] false [0,2])
 (.seq (.reg [q4 6 0,
 q1 7 (.conv .i64 (.t 6)),
 q1 8 (.bin .rem (.t 7) (.k (.int .i64 60))),
 q1 9 (.bin .add (.t 8) (.k (.int .i64 20))),
 q1 3 (.asg (.t 9))] false [2,3])
 (.seq (.reg [q4 11 3,
 q4 12 3,
 q4 13 3,
 q1 14 (.bin .mul (.k (.int .i64 2)) (.t 13)),
 q1 15 (.bsl 1 3 [.int .i64 0] [(0,1,.t 11),(1,1,.t 12),(2,1,.t 14)]),
 q1 16 (.call 64 [.t 15] []),
 q4 10 16,
 q1 17 (.ext (.t 10) 0),
 q1 18 (.ext (.t 10) 1),
 q1 4 (.asg (.t 17)),
 q1 5 (.asg (.t 18))] false [2,4,5])
 (.seq (.reg [q4 19 4,
 q4 20 5,
 q1 21 (.build [.nilp,.nils,.nils] [(0,1,.t 19),(1,1,.t 20)]),
 q2 (.store 3 (.t 2) (.t 21))] false [2])
 (.ret))))⟩
def h69:HF:=⟨2,[.cell 4 true 3,.tmp 5],
 .seq (.reg [q1 2 (.box (.t 0)),
 q1 3 (.box (.t 1)),
 q1 4 (.alloc [.nilp,.nils,.nils]),
 q1 5 (.asg (.k (.bool false)))] false [2,3,4])
 (.seq (.reg [q1 19 (.load true 3 (.t 2)),
 q1 6 (.alloc [.nilp,.nils,.nils]),
 q2 (.store 3 (.t 6) (.t 19))] false [2,3,4,6])
 (.seq (.seq (.reg [q1 20 (.fadr 0 (.t 3)),
 q1 21 (.load false 1 (.t 20)),
 q1 22 (.bin .eql (.t 21) (.k (.int .i64 0)))] false [2,3,4,6,22])
 (.cond (.t 22) (.seq (.reg [q1 23 (.fadr 1 (.t 3)),
 q1 24 (.load false 1 (.t 23)),
 q1 25 (.conv .i64 (.t 24)),
 q1 26 (.bin .rem (.t 25) (.k (.int .i64 2))),
 q1 7 (.asg (.t 26))] false [2,3,4,6,7])
 (.seq (.reg [q1 27 (.fadr 3 (.t 3)),
 q1 28 (.load false 1 (.t 27)),
 q1 29 (.conv .i64 (.t 28)),
 q1 30 (.bin .rem (.t 29) (.k (.int .i64 7))),
 q1 31 (.fadr 5 (.t 3)),
 q1 32 (.load false 1 (.t 31)),
 q1 33 (.call 35 [.t 30,.t 32] []),
 q1 8 (.alloc [.int .i64 0,.int .i64 0]),
 q2 (.store 2 (.t 8) (.t 33))] false [2,4,6,7,8])
 (.seq (.reg [q1 35 (.fadr 0 (.t 2)),
 q1 36 (.load false 1 (.t 35)),
 q1 37 (.fadr 1 (.t 2)),
 q1 38 (.load false 1 (.t 37)),
 q4 39 7,
 q1 40 (.iadr 3 .none (.t 38) (.t 39)),
 q1 41 (.load true 3 (.t 40)),
 q1 42 (.load true 2 (.t 8)),
 ⟨some 43,.x (.call 65 [.t 36,.t 41,.t 42] []),.none,true,[]⟩,
 q4 34 43,
 q1 44 (.ext (.t 34) 0),
 q1 45 (.ext (.t 34) 1),
 q1 9 (.alloc [.int .i64 0,.int .i64 0,.int .i64 0]),
 ⟨.none,.x (.store 3 (.t 9) (.t 44)),.none,true,[]⟩,
 q1 10 (.asg (.t 45))] true [2,4,6,7,8,9,10])
 (.seq (.reg [q1 47 (.fadr 2 (.t 2)),
 q1 48 (.load false 1 (.t 47)),
 q1 49 (.fadr 1 (.t 2)),
 q1 50 (.load false 1 (.t 49)),
 q4 51 7,
 q1 52 (.iadr 3 .none (.t 50) (.t 51)),
 q1 53 (.load true 3 (.t 52)),
 q1 54 (.load true 2 (.t 8)),
 ⟨some 55,.x (.call 114 [.t 48,.t 53,.t 54] []),.none,true,[]⟩,
 q4 46 55,
 q1 56 (.ext (.t 46) 0),
 q1 57 (.ext (.t 46) 1),
 q1 58 (.ext (.t 46) 2),
 q1 12 (.alloc [.int .i64 0,.int .i64 0,.int .i64 0]),
 q1 11 (.asg (.t 56)),
 ⟨.none,.x (.store 3 (.t 12) (.t 57)),.none,true,[]⟩,
 q1 13 (.asg (.t 58))] true [2,4,6,7,9,10,11,12,13])
 (.seq (.seq (.reg [q1 59 (.load true 3 (.t 9)),
 q1 60 (.load true 3 (.t 12)),
 q1 61 (.aeq true [.int .i64 0,.int .i64 0,.int .i64 0] (.t 59) (.t 60)),
 q4 62 61,
 q3 63 (.mv (.t 10)) 62 false,
 q3 64 (.bin .neq (.t 63) (.k (.int .i64 0))) 62 false,
 q3 65 (.mv (.t 13)) 62 false,
 q3 66 (.beq true (.t 64) (.t 65)) 62 false,
 q1 67 (.pick (.t 62) (.k (.bool true)) (.t 66)),
 q4 68 67,
 q3 69 (.mv (.t 13)) 68 false,
 q3 70 (.mv (.t 69)) 68 false,
 q3 71 (.mv (.t 10)) 70 true,
 q3 72 (.fadr 1 (.t 2)) 70 true,
 q3 73 (.load false 1 (.t 72)) 70 true,
 q3 74 (.mv (.t 7)) 70 true,
 q3 75 (.iadr 3 .none (.t 73) (.t 74)) 70 true,
 q3 76 (.fadr 2 (.t 75)) 70 true,
 q3 77 (.load false 1 (.t 76)) 70 true,
 q3 78 (.bin .neq (.t 71) (.t 77)) 70 true,
 q3 79 (.pick (.t 70) (.t 78) (.k (.bool false))) 68 false,
 q1 80 (.pick (.t 68) (.k (.bool true)) (.t 79))] false [2,4,6,7,9,11,80])
 (.cond (.t 80) (.seq (.reg [q1 81 (.load true 3 (.t 2)),
 q2 (.store 3 (.t 4) (.t 81)),
 q1 5 (.asg (.k (.bool false)))] false [4,5])
 (.ret))
 (.skip) [2,4,6,7,9,11]))
 (.seq (.reg [q1 82 (.bsl 3 0 [.int .i64 0,.int .i64 0,.int .i64 0] []),
 q1 83 (.fadr 1 (.t 2)),
 q1 84 (.load false 1 (.t 83)),
 q1 85 (.app 3 24 (.t 82) (.t 84)),
 q1 86 (.fadr 1 (.t 6)),
 q2 (.store 1 (.t 86) (.t 85))] false [4,6,7,9,11])
 (.seq (.reg [q1 87 (.fadr 1 (.t 6)),
 q1 88 (.load false 1 (.t 87)),
 q4 89 7,
 q1 90 (.load true 3 (.t 9)),
 q1 91 (.iadr 3 .none (.t 88) (.t 89)),
 q2 (.store 3 (.t 91) (.t 90))] false [4,6,11])
 (.seq (.reg [q4 92 11,
 q1 93 (.fadr 2 (.t 6)),
 q2 (.store 1 (.t 93) (.t 92))] false [4,6])
 (.seq (.reg [q1 94 (.load true 3 (.t 6)),
 q2 (.store 3 (.t 4) (.t 94)),
 q1 5 (.asg (.k (.bool true)))] false [4,5])
 (.ret))))))))))
 (.skip) [2,3,4,6]))
 (.seq (.seq (.reg [q1 95 (.fadr 2 (.t 2)),
 q1 96 (.load false 1 (.t 95)),
 q1 97 (.len false (.t 96)),
 q1 98 (.bin .eql (.t 97) (.k (.int .i64 0)))] false [2,3,4,6,98])
 (.cond (.t 98) (.seq (.reg [q1 99 (.load true 3 (.t 2)),
 q2 (.store 3 (.t 4) (.t 99)),
 q1 5 (.asg (.k (.bool true)))] false [4,5])
 (.ret))
 (.skip) [2,3,4,6]))
 (.seq (.reg [q1 100 (.fadr 2 (.t 3)),
 q1 101 (.load false 1 (.t 100)),
 q1 102 (.conv .i64 (.t 101)),
 q1 103 (.fadr 2 (.t 2)),
 q1 104 (.load false 1 (.t 103)),
 q1 105 (.len false (.t 104)),
 q1 106 (.bin .rem (.t 102) (.t 105)),
 q1 14 (.asg (.t 106))] false [2,3,4,6,14])
 (.seq (.reg [q1 107 (.fadr 2 (.t 2)),
 q1 108 (.load false 1 (.t 107)),
 q4 109 14,
 q1 110 (.iadr 4 .none (.t 108) (.t 109)),
 q1 111 (.load true 4 (.t 110)),
 q1 15 (.alloc [.int .i64 0,.int .i64 0,.int .i64 0,.nils]),
 q2 (.store 4 (.t 15) (.t 111))] false [2,3,4,6,14,15])
 (.seq (.seq (.reg [q1 112 (.fadr 3 (.t 15)),
 q1 113 (.load false 1 (.t 112)),
 q1 114 (.len false (.t 113)),
 q1 115 (.bin .eql (.t 114) (.k (.int .i64 0)))] false [2,3,4,6,14,15,115])
 (.cond (.t 115) (.seq (.reg [q1 116 (.load true 3 (.t 2)),
 q2 (.store 3 (.t 4) (.t 116)),
 q1 5 (.asg (.k (.bool true)))] false [4,5])
 (.ret))
 (.skip) [2,3,4,6,14,15]))
 (.seq (.reg [q1 117 (.fadr 3 (.t 3)),
 q1 118 (.load false 1 (.t 117)),
 q1 119 (.conv .i64 (.t 118)),
 q1 120 (.fadr 3 (.t 15)),
 q1 121 (.load false 1 (.t 120)),
 q1 122 (.len false (.t 121)),
 q1 123 (.bin .rem (.t 119) (.t 122)),
 q1 16 (.asg (.t 123))] false [2,3,4,6,14,15,16])
 (.seq (.reg [q1 124 (.fadr 4 (.t 3)),
 q1 125 (.load false 1 (.t 124)),
 q1 126 (.conv .i64 (.t 125)),
 q1 17 (.asg (.t 126))] false [2,3,4,6,14,15,16,17])
 (.seq (.seq (.reg [q1 127 (.fadr 1 (.t 15)),
 q1 128 (.load true 2 (.t 127)),
 q4 129 16,
 q1 130 (.call 23 [.t 128,.t 129] [])] false [2,3,4,6,14,15,16,17,130])
 (.cond (.t 130) (.seq (.reg [q1 17 (.asg (.k (.int .i64 0)))] false [2,3,4,6,14,15,16,17])
 (.seq (.reg [q1 131 (.fadr 4 (.t 3)),
 q1 132 (.load false 1 (.t 131)),
 q1 133 (.conv .i64 (.t 132)),
 q1 134 (.fadr 2 (.t 2)),
 q1 135 (.load false 1 (.t 134)),
 q1 136 (.len false (.t 135)),
 q1 137 (.bin .add (.t 136) (.k (.int .i64 1))),
 q1 138 (.bin .rem (.t 133) (.t 137)),
 q1 18 (.asg (.t 138))] false [2,4,6,14,15,16,17,18])
 (.seq (.reg [q4 139 18,
 q1 140 (.fadr 2 (.t 2)),
 q1 141 (.load false 1 (.t 140)),
 q1 142 (.len false (.t 141)),
 q1 143 (.bin .lss (.t 139) (.t 142))] false [2,4,6,14,15,16,17,18,143])
 (.cond (.t 143) (.reg [q1 144 (.fadr 2 (.t 2)),
 q1 145 (.load false 1 (.t 144)),
 q4 146 18,
 q1 147 (.iadr 4 .none (.t 145) (.t 146)),
 q1 148 (.fadr 0 (.t 147)),
 q1 149 (.load false 1 (.t 148)),
 q1 17 (.asg (.t 149))] false [2,4,6,14,15,16,17])
 (.skip) [2,4,6,14,15,16,17]))))
 (.skip) [2,4,6,14,15,16,17]))
 (.seq (.reg [q1 150 (.fadr 0 (.t 2)),
 q1 151 (.load false 1 (.t 150)),
 q1 152 (.fadr 0 (.t 15)),
 q1 153 (.load false 1 (.t 152)),
 q4 154 16,
 q4 155 17,
 q1 156 (.call 66 [.t 151,.t 153,.t 154,.t 155] [])] false [2,4,6,14,15,16,17])
 (.seq (.reg [q1 157 (.bsl 4 0 [.int .i64 0,.int .i64 0,.int .i64 0,.nils] []),
 q1 158 (.fadr 2 (.t 2)),
 q1 159 (.load false 1 (.t 158)),
 q1 160 (.app 4 48 (.t 157) (.t 159)),
 q1 161 (.fadr 2 (.t 6)),
 q2 (.store 1 (.t 161) (.t 160))] false [4,6,14,15,16,17])
 (.seq (.reg [q1 162 (.fadr 2 (.t 6)),
 ⟨some 163,.x (.load false 1 (.t 162)),.none,false,[6]⟩,
 q4 164 14,
 q1 165 (.bsl 1 0 [.int .i64 0] []),
 q1 166 (.fadr 3 (.t 15)),
 q1 167 (.load false 1 (.t 166)),
 ⟨some 168,.x (.app 1 8 (.t 165) (.t 167)),.none,true,[]⟩,
 q1 169 (.iadr 4 .none (.t 163) (.t 164)),
 q1 170 (.fadr 3 (.t 169)),
 ⟨.none,.x (.store 1 (.t 170) (.t 168)),.none,true,[]⟩] true [4,6,14,16,17])
 (.seq (.reg [q1 171 (.fadr 2 (.t 6)),
 q1 172 (.load false 1 (.t 171)),
 q4 173 14,
 q1 174 (.iadr 4 .none (.t 172) (.t 173)),
 q1 175 (.fadr 3 (.t 174)),
 q1 176 (.load false 1 (.t 175)),
 q4 177 16,
 q4 178 17,
 q1 179 (.iadr 1 .none (.t 176) (.t 177)),
 q2 (.store 1 (.t 179) (.t 178))] false [4,6])
 (.seq (.reg [q1 180 (.load true 3 (.t 6)),
 q2 (.store 3 (.t 4) (.t 180)),
 q1 5 (.asg (.k (.bool true)))] false [4,5])
 (.ret)))))))))))))))⟩
def h70:HF:=⟨2,[.tmp 4],
 .seq (.reg [q1 3 (.box (.t 1)),
 q1 4 (.asg (.k (.int .i64 0)))] false [0,3])
 (.seq (.seq (.reg [q4 9 0,
 q1 10 (.nilck (.t 9)),
 q1 11 (.fadr 1 (.t 10)),
 q1 12 (.load false 1 (.t 11)),
 q1 13 (.mkfn 115 [.t 3]),
 q1 14 (.call 78 [.t 12,.t 13] []),
 q1 15 (.un .not (.t 14))] false [0,3,15])
 (.cond (.t 15) (.seq (.reg [q1 16 (.load false 1 (.t 3)),
 q1 4 (.asg (.t 16))] false [4])
 (.ret))
 (.skip) [0,3]))
 (.seq (.seq (.reg [q4 17 0,
 q1 18 (.nilck (.t 17)),
 q1 19 (.fadr 0 (.t 18)),
 q1 20 (.load false 1 (.t 19)),
 q1 21 (.nilck (.t 20)),
 q1 22 (.fadr 0 (.t 21)),
 q1 23 (.load false 1 (.t 22)),
 q1 24 (.load false 1 (.t 3)),
 q1 25 (.iadr 1 .none (.t 23) (.t 24)),
 q1 26 (.load false 1 (.t 25)),
 q1 5 (.asg (.t 26))] true [0,3,5])
 (.seq (.reg [q4 27 5,
 q1 28 (.bin .lss (.t 27) (.k (.int .i64 0)))] false [0,3,5,28])
 (.cond (.t 28) (.seq (.reg [q4 29 5,
 q1 30 (.un .neg (.t 29)),
 q1 4 (.asg (.t 30))] false [4])
 (.ret))
 (.skip) [0,3])))
 (.seq (.reg [q4 32 0,
 q1 33 (.nilck (.t 32)),
 q1 34 (.fadr 0 (.t 33)),
 q1 35 (.load false 1 (.t 34)),
 q1 36 (.load false 1 (.t 3)),
 ⟨some 37,.x (.call 22 [.t 35,.t 36] []),.none,true,[]⟩,
 q4 31 37,
 q1 38 (.ext (.t 31) 0),
 q1 39 (.ext (.t 31) 1),
 q1 6 (.alloc [.int .i64 0,.int .i64 0]),
 ⟨.none,.x (.store 2 (.t 6) (.t 38)),.none,true,[]⟩,
 q1 7 (.asg (.t 39))] true [0,3,6])
 (.seq (.reg [q4 40 0,
 q1 41 (.nilck (.t 40)),
 q1 42 (.fadr 2 (.t 41)),
 q1 43 (.fadr 2 (.t 42)),
 q1 44 (.load false 1 (.t 43)),
 q1 8 (.asg (.t 44))] false [0,3,6,8])
 (.seq (.reg [q4 45 0,
 q1 46 (.nilck (.t 45)),
 q1 47 (.fadr 0 (.t 46)),
 q1 48 (.load false 1 (.t 47)),
 q1 49 (.nilck (.t 48)),
 q1 50 (.fadr 0 (.t 49)),
 q1 51 (.load false 1 (.t 50)),
 q4 52 8,
 q1 53 (.slc 1 (.t 51) (some (.t 52)) .none),
 q4 54 0,
 q1 55 (.nilck (.t 54)),
 q1 56 (.fadr 0 (.t 55)),
 q1 57 (.load false 1 (.t 56)),
 q1 58 (.nilck (.t 57)),
 q1 59 (.fadr 0 (.t 58)),
 q1 60 (.load false 1 (.t 59)),
 q1 61 (.load false 1 (.t 3)),
 q1 62 (.load false 1 (.t 3)),
 q1 63 (.bin .add (.t 62) (.k (.int .i64 1))),
 q1 64 (.fadr 0 (.t 6)),
 q1 65 (.load false 1 (.t 64)),
 q1 66 (.bin .add (.t 63) (.t 65)),
 q1 67 (.slc 1 (.t 60) (some (.t 61)) (some (.t 66))),
 ⟨some 68,.copy 1 (.t 53) (.t 67),.none,true,[]⟩] true [0,3,6,8])
 (.seq (.reg [q4 69 0,
 q1 70 (.nilck (.t 69)),
 q1 71 (.fadr 2 (.t 70)),
 q1 72 (.fadr 2 (.t 71)),
 q1 73 (.load false 1 (.t 72)),
 q1 74 (.fadr 0 (.t 6)),
 q1 75 (.load false 1 (.t 74)),
 q1 76 (.bin .add (.k (.int .i64 1)) (.t 75)),
 q1 77 (.bin .add (.t 73) (.t 76)),
 q1 78 (.nilck (.t 69)),
 q1 79 (.fadr 2 (.t 78)),
 q1 80 (.fadr 2 (.t 79)),
 ⟨.none,.x (.store 1 (.t 80) (.t 77)),.none,true,[]⟩] true [0,3,8])
 (.seq (.reg [q4 81 0,
 q1 82 (.nilck (.t 81)),
 q1 83 (.fadr 0 (.t 82)),
 q1 84 (.load false 1 (.t 83)),
 q1 85 (.nilck (.t 84)),
 q1 86 (.fadr 0 (.t 85)),
 q1 87 (.load false 1 (.t 86)),
 q1 88 (.load false 1 (.t 3)),
 q4 89 8,
 q1 90 (.un .neg (.t 89)),
 q1 91 (.iadr 1 .none (.t 87) (.t 88)),
 ⟨.none,.x (.store 1 (.t 91) (.t 90)),.none,true,[]⟩] true [8])
 (.seq (.reg [q4 92 8,
 q1 4 (.asg (.t 92))] false [4])
 (.ret)))))))))⟩
def h71l0:HC :=
 .seq (.reg [q1 18 (.bin .lss (.t 17) (.t 16))] false [0,1,2,6,16,17,18])
 (.seq (.cond (.t 18) (.skip)
 (.exit 0 []) [0,1,2,6,16,17])
 (.seq (.block 1 (.seq (.reg [q4 19 17,
 q1 8 (.asg (.t 19))] false [0,1,2,6,8,16,17])
 (.seq (.reg [q1 20 (.load true 2 (.t 6)),
 q4 21 8,
 q1 22 (.call 98 [.t 20,.t 21] [])] false [0,1,2,6,8,16,17,22])
 (.cond (.t 22) (.reg [q4 23 2,
 q4 24 0,
 q1 25 (.nilck (.t 24)),
 q1 26 (.fadr 0 (.t 25)),
 q1 27 (.load false 1 (.t 26)),
 q4 28 1,
 q1 29 (.bin .add (.t 28) (.k (.int .i64 1))),
 q4 30 8,
 q1 31 (.bin .add (.t 29) (.t 30)),
 q1 32 (.iadr 1 .none (.t 27) (.t 31)),
 q1 33 (.callv (.t 23) [.t 32])] false [0,1,2,6,16,17])
 (.skip) [0,1,2,6,16,17]))) [0,1,2,6,16,17])
 (.reg [q1 34 (.bin .add (.t 17) (.k (.int .i64 1))),
 q4 17 34] false [0,1,2,6,16,17])))
def h71:HF:=⟨3,[],
 .seq (.reg [q4 10 0,
 q4 11 1,
 q1 12 (.call 22 [.t 10,.t 11] []),
 q4 9 12,
 q1 13 (.ext (.t 9) 0),
 q1 14 (.ext (.t 9) 1),
 q1 6 (.alloc [.int .i64 0,.int .i64 0]),
 q2 (.store 2 (.t 6) (.t 13)),
 q1 7 (.asg (.t 14))] false [0,1,2,6])
 (.seq (.reg [q1 15 (.fadr 0 (.t 6)),
 q1 16 (.load false 1 (.t 15)),
 q1 17 (.mv (.k (.int .i64 0)))] false [0,1,2,6,16,17])
 (.block 0 (.loop h71l0 [0,1,2,6,16,17]) []))⟩
def h72:HF:=⟨2,[],
 .reg [q4 3 0,
 q1 4 (.load false 1 (.t 1)),
 q4 5 0,
 q1 6 (.nilck (.t 5)),
 q1 7 (.load false 1 (.t 6)),
 ⟨some 8,.x (.call 70 [.t 4,.t 7] []),.none,true,[]⟩,
 q1 9 (.nilck (.t 3)),
 ⟨.none,.x (.store 1 (.t 9) (.t 8)),.none,true,[]⟩] true []⟩
def h73:HF:=⟨2,[],
 .reg [q4 3 0,
 q1 4 (.load false 1 (.t 1)),
 q4 5 0,
 q1 6 (.nilck (.t 5)),
 q1 7 (.load false 1 (.t 6)),
 ⟨some 8,.x (.call 70 [.t 4,.t 7] []),.none,true,[]⟩,
 q1 9 (.nilck (.t 3)),
 ⟨.none,.x (.store 1 (.t 9) (.t 8)),.none,true,[]⟩] true []⟩
def h74:HF:=⟨1,[.cell 2 true 2,.tmp 3],
 .seq (.reg [q1 2 (.alloc [.int .i64 0,.int .i64 0]),
 q1 3 (.asg (.k (.int .i64 0)))] false [0,2])
 (.seq (.seq (.reg [q4 6 0,
 q1 7 (.bin .lss (.t 6) (.k (.int .i64 0))),
 q4 8 7,
 q3 9 (.mv (.t 0)) 8 false,
 q3 10 (.bin .geq (.t 9) (.k (.int .i64 2097152))) 8 false,
 q1 11 (.pick (.t 8) (.k (.bool true)) (.t 10))] false [0,2,11])
 (.cond (.t 11) (.seq (.reg [q1 12 (.build [.int .i64 0,.int .i64 0] []),
 q2 (.store 2 (.t 2) (.t 12)),
 q1 3 (.asg (.k (.int .i64 16)))] false [2,3])
 (.ret))
 (.skip) [0,2]))
 (.seq (.reg [q4 13 0,
 q1 14 (.bin .and (.t 13) (.k (.int .i64 31))),
 q4 15 0,
 q1 16 (.bin .shr (.t 15) (.k (.int .u64 5))),
 q1 17 (.build [.int .i64 0,.int .i64 0] [(0,1,.t 14),(1,1,.t 16)]),
 q1 4 (.alloc [.int .i64 0,.int .i64 0]),
 q2 (.store 2 (.t 4) (.t 17))] false [2,4])
 (.seq (.seq (.reg [q1 18 (.load true 2 (.t 4)),
 q1 19 (.call 97 [.t 18] []),
 q1 5 (.asg (.t 19))] false [2,4,5])
 (.seq (.reg [q4 20 5,
 q1 21 (.bin .neq (.t 20) (.k (.int .i64 0)))] false [2,4,5,21])
 (.cond (.t 21) (.seq (.reg [q1 22 (.build [.int .i64 0,.int .i64 0] []),
 q4 23 5,
 q2 (.store 2 (.t 2) (.t 22)),
 q1 3 (.asg (.t 23))] false [2,3])
 (.ret))
 (.skip) [2,4])))
 (.seq (.reg [q1 24 (.load true 2 (.t 4)),
 q2 (.store 2 (.t 2) (.t 24)),
 q1 3 (.asg (.k (.int .i64 0)))] false [2,3])
 (.ret)))))⟩
def h75:HF:=⟨1,[.tmp 2],
 .seq (.reg [q1 2 (.asg (.k (.int .i64 0)))] false [0])
 (.seq (.reg [q1 3 (.asg (.k (.int .i64 1)))] false [0,3])
 (.seq (.seq (.reg [q1 4 (.asg (.k (.int .i64 0)))] false [0,3,4])
 (.block 0 (.loop (.seq (.seq (.reg [q4 5 4,
 q4 6 0,
 q1 7 (.bin .lss (.t 5) (.t 6))] false [0,3,4,7])
 (.cond (.t 7) (.skip)
 (.exit 0 [3]) [0,3,4]))
 (.seq (.block 1 (.reg [q4 10 3,
 q1 11 (.bin .mul (.t 10) (.k (.int .i64 2))),
 q1 3 (.asg (.t 11))] false [0,3,4]) [0,3,4])
 (.reg [q4 8 4,
 q1 9 (.bin .add (.t 8) (.k (.int .i64 1))),
 q1 4 (.asg (.t 9))] false [0,3,4]))) [0,3,4]) [3]))
 (.seq (.reg [q4 12 3,
 q1 2 (.asg (.t 12))] false [2])
 (.ret))))⟩
def h76l0:HC :=
 .seq (.seq (.reg [q4 11 6,
 q1 12 (.fadr 2 (.t 3)),
 q1 13 (.load false 1 (.t 12)),
 q1 14 (.bin .lss (.t 11) (.t 13))] false [0,3,5,6,14])
 (.cond (.t 14) (.skip)
 (.exit 0 [5]) [0,3,5,6]))
 (.block 1 (.seq (.reg [q4 16 0,
 q4 17 6,
 q1 18 (.call 22 [.t 16,.t 17] []),
 q4 15 18,
 q1 19 (.ext (.t 15) 0),
 q1 20 (.ext (.t 15) 1),
 q1 7 (.alloc [.int .i64 0,.int .i64 0]),
 q2 (.store 2 (.t 7) (.t 19)),
 q1 8 (.asg (.t 20))] false [0,3,5,6,7,8])
 (.seq (.seq (.reg [q4 21 8,
 q1 22 (.bin .neq (.t 21) (.k (.int .i64 0)))] false [0,3,5,6,7,22])
 (.cond (.t 22) (.seq (.reg [q4 23 5,
 q1 4 (.asg (.t 23))] false [4])
 (.ret))
 (.skip) [0,3,5,6,7]))
 (.seq (.reg [q4 24 5,
 q4 25 6,
 q1 26 (.bsl 1 1 [.int .i64 0] [(0,1,.t 25)]),
 q1 27 (.app 1 8 (.t 24) (.t 26)),
 q1 5 (.asg (.t 27))] false [0,3,5,6,7])
 (.reg [q4 28 6,
 q1 29 (.fadr 0 (.t 7)),
 q1 30 (.load false 1 (.t 29)),
 q1 31 (.bin .add (.k (.int .i64 1)) (.t 30)),
 q1 32 (.bin .add (.t 28) (.t 31)),
 q1 6 (.asg (.t 32))] false [0,3,5,6])))) [0,3,5,6])
def h76:HF:=⟨2,[.tmp 4],
 .seq (.reg [q1 3 (.box (.t 1)),
 q1 4 (.asg (.k (.nils)))] false [0,3])
 (.seq (.reg [q1 5 (.asg (.k (.nils)))] false [0,3,5])
 (.seq (.seq (.reg [q1 9 (.fadr 0 (.t 3)),
 q1 10 (.load false 1 (.t 9)),
 q1 6 (.asg (.t 10))] false [0,3,5,6])
 (.block 0 (.loop h76l0 [0,3,5,6]) [5]))
 (.seq (.reg [q4 33 5,
 q1 4 (.asg (.t 33))] false [4])
 (.ret))))⟩
def h77:HF:=⟨6,[],
 .seq (.reg [q1 6 (.box (.t 0))] false [1,2,3,4,5,6])
 (.seq (.seq (.reg [q1 9 (.load false 1 (.t 1)),
 q1 10 (.mkfn 79 [.t 6]),
 q1 11 (.call 78 [.t 9,.t 10] []),
 q1 12 (.un .not (.t 11)),
 q4 13 12,
 q3 14 (.load false 1 (.t 2)) 13 false,
 q3 15 (.load false 1 (.t 6)) 13 false,
 q3 16 (.iadr 1 .none (.t 14) (.t 15)) 13 false,
 q3 17 (.load false 1 (.t 16)) 13 false,
 q3 18 (.bin .gtr (.t 17) (.k (.int .i64 0))) 13 false,
 q1 19 (.pick (.t 13) (.k (.bool true)) (.t 18))] false [2,3,4,5,6,19])
 (.cond (.t 19) (.ret)
 (.skip) [2,3,4,5,6]))
 (.seq (.reg [q1 20 (.load false 1 (.t 2)),
 q1 21 (.load false 1 (.t 6)),
 q1 22 (.iadr 1 .none (.t 20) (.t 21)),
 q2 (.store 1 (.t 22) (.k (.int .i64 1)))] false [3,4,5,6])
 (.seq (.reg [q1 23 (.load false 1 (.t 3)),
 q1 24 (.load false 1 (.t 6)),
 q1 25 (.bsl 1 1 [.int .i64 0] [(0,1,.t 24)]),
 q1 26 (.app 1 8 (.t 23) (.t 25)),
 q2 (.store 1 (.t 3) (.t 26))] false [4,5,6])
 (.seq (.reg [q1 28 (.load false 1 (.t 4)),
 q1 29 (.load false 1 (.t 6)),
 q1 30 (.call 22 [.t 28,.t 29] []),
 q4 27 30,
 q1 31 (.ext (.t 27) 0),
 q1 32 (.ext (.t 27) 1),
 q1 7 (.alloc [.int .i64 0,.int .i64 0]),
 q2 (.store 2 (.t 7) (.t 31)),
 q1 8 (.asg (.t 32))] false [5,7])
 (.reg [q1 33 (.load false 1 (.t 5)),
 q1 34 (.fadr 0 (.t 7)),
 q1 35 (.load false 1 (.t 34)),
 q1 36 (.bin .add (.k (.int .i64 1)) (.t 35)),
 q1 37 (.bin .add (.t 33) (.t 36)),
 q2 (.store 1 (.t 5) (.t 37))] false [])))))⟩
def h78:HF:=⟨2,[.tmp 4],
 .seq (.reg [q1 4 (.asg (.k (.bool false)))] false [0,1])
 (.seq (.reg [q4 5 0,
 q4 6 1,
 q1 7 (.call 116 [.t 5,.t 6] []),
 q1 8 (.bin .geq (.t 7) (.k (.int .i64 0))),
 q1 4 (.asg (.t 8))] false [4])
 (.ret))⟩
def h79:HF:=⟨2,[.tmp 3],
 .seq (.reg [q1 2 (.box (.t 0)),
 q1 3 (.asg (.k (.bool false)))] false [1,2])
 (.seq (.reg [q1 4 (.load true 3 (.t 2)),
 q1 5 (.load false 1 (.t 1)),
 q1 6 (.call 67 [.t 4,.t 5] []),
 q1 3 (.asg (.t 6))] false [3])
 (.ret))⟩
def h80:HF:=⟨2,[],
 .reg [q1 3 (.load false 1 (.t 1)),
 q4 4 0,
 q1 5 (.nilck (.t 4)),
 q1 6 (.load false 1 (.t 5)),
 ⟨some 7,.x (.callv (.t 3) [.t 6]),.none,true,[]⟩] true []⟩
def h81:HF:=⟨2,[],
 .reg [q1 3 (.load false 1 (.t 1)),
 q4 4 0,
 q1 5 (.nilck (.t 4)),
 q1 6 (.load false 1 (.t 5)),
 ⟨some 7,.x (.callv (.t 3) [.t 6]),.none,true,[]⟩] true []⟩
def h86:HF:=⟨2,[.tmp 4],
 .seq (.reg [q1 4 (.asg (.k (.bool false)))] false [0,1])
 (.seq (.seq (.reg [q4 6 0,
 q1 7 (.len false (.t 6)),
 q4 8 1,
 q1 9 (.len false (.t 8)),
 q1 10 (.bin .gtr (.t 7) (.t 9))] false [0,1,10])
 (.cond (.t 10) (.seq (.reg [q1 4 (.asg (.k (.bool false)))] false [4])
 (.ret))
 (.skip) [0,1]))
 (.seq (.seq (.reg [q1 5 (.asg (.k (.int .i64 0)))] false [0,1,5])
 (.block 0 (.loop (.seq (.seq (.reg [q4 11 5,
 q4 12 0,
 q1 13 (.len false (.t 12)),
 q1 14 (.bin .lss (.t 11) (.t 13))] false [0,1,5,14])
 (.cond (.t 14) (.skip)
 (.exit 0 []) [0,1,5]))
 (.seq (.block 1 (.seq (.reg [q4 17 0,
 q4 18 5,
 q1 19 (.iadr 1 .none (.t 17) (.t 18)),
 q1 20 (.load false 1 (.t 19)),
 q4 21 1,
 q4 22 5,
 q1 23 (.iadr 1 .none (.t 21) (.t 22)),
 q1 24 (.load false 1 (.t 23)),
 q1 25 (.bin .neq (.t 20) (.t 24))] true [0,1,5,25])
 (.cond (.t 25) (.seq (.reg [q1 4 (.asg (.k (.bool false)))] false [4])
 (.ret))
 (.skip) [0,1,5])) [0,1,5])
 (.reg [q4 15 5,
 q1 16 (.bin .add (.t 15) (.k (.int .i64 1))),
 q1 5 (.asg (.t 16))] false [0,1,5]))) [0,1,5]) []))
 (.seq (.reg [q1 4 (.asg (.k (.bool true)))] false [4])
 (.ret))))⟩
def h97:HF:=⟨1,[.tmp 2],
 .seq (.reg [q1 1 (.box (.t 0)),
 q1 2 (.asg (.k (.int .i64 0)))] false [1])
 (.seq (.seq (.reg [q1 3 (.fadr 0 (.t 1)),
 q1 4 (.load false 1 (.t 3)),
 q1 5 (.bin .lss (.t 4) (.k (.int .i64 0))),
 q4 6 5,
 q3 7 (.fadr 0 (.t 1)) 6 false,
 q3 8 (.load false 1 (.t 7)) 6 false,
 q3 9 (.bin .gtr (.t 8) (.k (.int .i64 16))) 6 false,
 q1 10 (.pick (.t 6) (.k (.bool true)) (.t 9)),
 q4 11 10,
 q3 12 (.fadr 1 (.t 1)) 11 false,
 q3 13 (.load false 1 (.t 12)) 11 false,
 q3 14 (.bin .lss (.t 13) (.k (.int .i64 0))) 11 false,
 q1 15 (.pick (.t 11) (.k (.bool true)) (.t 14)),
 q4 16 15,
 q3 17 (.fadr 1 (.t 1)) 16 false,
 q3 18 (.load false 1 (.t 17)) 16 false,
 q3 19 (.fadr 0 (.t 1)) 16 false,
 q3 20 (.load false 1 (.t 19)) 16 false,
 q3 21 (.bin .shl (.k (.int .i64 1)) (.t 20)) 16 false,
 q3 22 (.bin .geq (.t 18) (.t 21)) 16 false,
 q1 23 (.pick (.t 16) (.k (.bool true)) (.t 22))] true [23])
 (.cond (.t 23) (.seq (.reg [q1 2 (.asg (.k (.int .i64 16)))] false [2])
 (.ret))
 (.skip) []))
 (.seq (.reg [q1 2 (.asg (.k (.int .i64 0)))] false [2])
 (.ret)))⟩
def h98:HF:=⟨2,[.tmp 4],
 .seq (.reg [q1 2 (.box (.t 0)),
 q1 4 (.asg (.k (.bool false)))] false [1,2])
 (.seq (.reg [q4 5 1,
 q1 6 (.bin .geq (.t 5) (.k (.int .i64 0))),
 q4 7 6,
 q3 8 (.mv (.t 1)) 7 true,
 q3 9 (.fadr 0 (.t 2)) 7 true,
 q3 10 (.load false 1 (.t 9)) 7 true,
 q3 11 (.bin .lss (.t 8) (.t 10)) 7 true,
 q1 12 (.pick (.t 7) (.t 11) (.k (.bool false))),
 q4 13 12,
 q3 14 (.fadr 1 (.t 2)) 13 true,
 ⟨some 15,.x (.load false 1 (.t 14)),some (13,true),false,[11]⟩,
 ⟨some 16,.x (.call 120 [] []),some (13,true),true,[]⟩,
 q3 17 (.mv (.t 1)) 13 true,
 q3 18 (.idx false 1 16 (.t 16) (.t 17)) 13 true,
 q3 19 (.bin .and (.t 15) (.t 18)) 13 true,
 q3 20 (.bin .neq (.t 19) (.k (.int .i64 0))) 13 true,
 q1 21 (.pick (.t 13) (.t 20) (.k (.bool false))),
 q1 4 (.asg (.t 21))] true [4])
 (.ret))⟩
def h113:HF:=⟨1,[.tmp 2],
 .seq (.reg [q1 1 (.box (.t 0)),
 q1 2 (.asg (.k (.int .i64 0)))] false [1])
 (.seq (.reg [q1 3 (.fadr 1 (.t 1)),
 q1 4 (.load false 1 (.t 3)),
 q1 5 (.bin .shl (.t 4) (.k (.int .u64 5))),
 q1 6 (.fadr 0 (.t 1)),
 q1 7 (.load false 1 (.t 6)),
 q1 8 (.bin .or (.t 5) (.t 7)),
 q1 2 (.asg (.t 8))] false [2])
 (.ret))⟩
def h114:HF:=⟨3,[.tmp 6,.cell 7 true 3,.tmp 8],
 .seq (.reg [q1 4 (.box (.t 1)),
 q1 5 (.box (.t 2)),
 q1 6 (.asg (.k (.nils))),
 q1 7 (.alloc [.int .i64 0,.int .i64 0,.int .i64 0]),
 q1 8 (.asg (.k (.bool false)))] false [0,4,5,7])
 (.seq (.seq (.reg [q1 11 (.fadr 2 (.t 4)),
 q1 12 (.load false 1 (.t 11)),
 q1 13 (.bin .add (.t 12) (.k (.int .i64 1))),
 q1 14 (.fadr 0 (.t 5)),
 q1 15 (.load false 1 (.t 14)),
 q1 16 (.bin .add (.t 13) (.t 15)),
 q1 17 (.fadr 1 (.t 4)),
 q1 18 (.load false 1 (.t 17)),
 q1 19 (.bin .gtr (.t 16) (.t 18))] false [0,4,5,7,19])
 (.cond (.t 19) (.seq (.reg [q4 20 0,
 q1 21 (.load true 3 (.t 4)),
 q1 6 (.asg (.t 20)),
 ⟨.none,.x (.store 3 (.t 7) (.t 21)),.none,true,[]⟩,
 q1 8 (.asg (.k (.bool false)))] true [6,7,8])
 (.ret))
 (.skip) [0,4,5,7]))
 (.seq (.reg [q1 9 (.asg (.k (.nils)))] false [0,4,5,7,9])
 (.seq (.reg [q4 22 9,
 q4 23 0,
 q1 24 (.app 4 48 (.t 22) (.t 23)),
 q1 9 (.asg (.t 24))] false [4,5,7,9])
 (.seq (.reg [q4 25 9,
 q1 26 (.fadr 2 (.t 4)),
 q1 27 (.load false 1 (.t 26)),
 q1 28 (.load true 2 (.t 5)),
 q1 29 (.fadr 0 (.t 5)),
 q1 30 (.load false 1 (.t 29)),
 q1 31 (.mksl 1 8 [.int .i64 0] (.t 30) (.t 30)),
 ⟨some 32,.x (.build [.int .i64 0,.int .i64 0,.int .i64 0,.nils] [(0,1,.t 27),(1,2,.t 28),(3,1,.t 31)]),.none,true,[]⟩,
 q1 33 (.bsl 4 1 [.int .i64 0,.int .i64 0,.int .i64 0,.nils] [(0,4,.t 32)]),
 ⟨some 34,.x (.app 4 48 (.t 25) (.t 33)),.none,true,[]⟩,
 q1 9 (.asg (.t 34))] true [4,5,7,9])
 (.seq (.reg [q1 35 (.load true 3 (.t 4)),
 q1 10 (.alloc [.int .i64 0,.int .i64 0,.int .i64 0]),
 q2 (.store 3 (.t 10) (.t 35))] false [4,5,7,9,10])
 (.seq (.reg [q1 36 (.fadr 2 (.t 4)),
 q1 37 (.load false 1 (.t 36)),
 q1 38 (.bin .add (.t 37) (.k (.int .i64 1))),
 q1 39 (.fadr 0 (.t 5)),
 q1 40 (.load false 1 (.t 39)),
 q1 41 (.bin .add (.t 38) (.t 40)),
 q1 42 (.fadr 2 (.t 10)),
 q2 (.store 1 (.t 42) (.t 41))] false [7,9,10])
 (.seq (.reg [q4 43 9,
 q1 44 (.load true 3 (.t 10)),
 q1 6 (.asg (.t 43)),
 ⟨.none,.x (.store 3 (.t 7) (.t 44)),.none,true,[]⟩,
 q1 8 (.asg (.k (.bool true)))] true [6,7,8])
 (.ret))))))))⟩
def h115:HF:=⟨2,[.tmp 3],
 .seq (.reg [q1 2 (.box (.t 0)),
 q1 3 (.asg (.k (.bool false)))] false [1,2])
 (.seq (.reg [q1 4 (.load true 3 (.t 2)),
 q1 5 (.load false 1 (.t 1)),
 q1 6 (.call 67 [.t 4,.t 5] []),
 q1 3 (.asg (.t 6))] false [3])
 (.ret))⟩
def h116l0:HC :=
 .seq (.reg [q1 9 (.bin .lss (.t 8) (.t 7))] false [0,1,7,8,9])
 (.seq (.cond (.t 9) (.skip)
 (.exit 0 []) [0,1,7,8])
 (.seq (.block 1 (.seq (.reg [q4 10 8,
 q1 5 (.asg (.t 10))] false [0,1,5,7,8])
 (.seq (.reg [q4 11 1,
 q4 12 0,
 q4 13 5,
 q1 14 (.iadr 3 .none (.t 12) (.t 13)),
 q1 15 (.load true 3 (.t 14)),
 q1 16 (.callv (.t 11) [.t 15])] false [0,1,5,7,8,16])
 (.cond (.t 16) (.seq (.reg [q4 17 5,
 q1 4 (.asg (.t 17))] false [4])
 (.ret))
 (.skip) [0,1,7,8]))) [0,1,7,8])
 (.reg [q1 18 (.bin .add (.t 8) (.k (.int .i64 1))),
 q4 8 18] false [0,1,7,8])))
def h116:HF:=⟨2,[.tmp 4],
 .seq (.reg [q1 4 (.asg (.k (.int .i64 0)))] false [0,1])
 (.seq (.seq (.reg [q4 6 0,
 q1 7 (.len false (.t 6)),
 q1 8 (.mv (.k (.int .i64 0)))] false [0,1,7,8])
 (.block 0 (.loop h116l0 [0,1,7,8]) []))
 (.seq (.reg [q1 4 (.asg (.k (.int .i64 (-1))))] false [4])
 (.ret)))⟩
def h120:HF:=⟨0,[.cell 0 true 16],
 .seq (.reg [q1 0 (.alloc [.int .i64 0,.int .i64 0,.int .i64 0,.int .i64 0,.int .i64 0,.int .i64 0,.int .i64 0,.int .i64 0,.int .i64 0,.int .i64 0,.int .i64 0,.int .i64 0,.int .i64 0,.int .i64 0,.int .i64 0,.int .i64 0])] false [0])
 (.seq (.reg [q1 1 (.build [.int .i64 0,.int .i64 0,.int .i64 0,.int .i64 0,.int .i64 0,.int .i64 0,.int .i64 0,.int .i64 0,.int .i64 0,.int .i64 0,.int .i64 0,.int .i64 0,.int .i64 0,.int .i64 0,.int .i64 0,.int .i64 0] [(0,1,.k (.int .i64 1)),(1,1,.k (.int .i64 2)),(2,1,.k (.int .i64 4)),(3,1,.k (.int .i64 8)),(4,1,.k (.int .i64 16)),(5,1,.k (.int .i64 32)),(6,1,.k (.int .i64 64)),(7,1,.k (.int .i64 128)),(8,1,.k (.int .i64 256)),(9,1,.k (.int .i64 512)),(10,1,.k (.int .i64 1024)),(11,1,.k (.int .i64 2048)),(12,1,.k (.int .i64 4096)),(13,1,.k (.int .i64 8192)),(14,1,.k (.int .i64 16384)),(15,1,.k (.int .i64 32768))]),
 q2 (.store 16 (.t 0) (.t 1))] false [0])
 (.ret))⟩
def TL:List (Nat × HF):=[(3,h3),(15,h15),(16,h16),(17,h17),(18,h18),(19,h19),(20,h20),(21,h21),(22,h22),(23,h23),(24,h24),(27,h27),(29,h29),(32,h32),(35,h35),(64,h64),(65,h65),(66,h66),(67,h67),(68,h68),(69,h69),(70,h70),(71,h71),(72,h72),(73,h73),(74,h74),(75,h75),(76,h76),(77,h77),(78,h78),(79,h79),(80,h80),(81,h81),(86,h86),(97,h97),(98,h98),(113,h113),(114,h114),(115,h115),(116,h116),(120,h120)]
def TH:Nat→Option HF:=fun f=>lookH f TL
end Go.Ab
namespace Go.Ab
open Go
set_option linter.unusedVariables false
set_option maxRecDepth 100000
theorem hsb0:type_of% (And.intro (And.intro (And.intro (And.intro (And.intro @oel_some (And.intro @oel_none @bel_true)) (And.intro (And.intro @bel_false @hvel_true) (And.intro @hvel_false @exel_norm))) (And.intro (And.intro (And.intro @exel_ret @exel_exit) (And.intro @retel_norm @retel_ret)) (And.intro (And.intro @fgtH_norm @fgtH_ret) (And.intro @fgtH_exit @blkel_norm)))) (And.intro (And.intro (And.intro @blkel_ret (And.intro @blkel_exit @get_nil)) (And.intro (And.intro @get_cons @set_nil) (And.intro @set_cons @keep_nil))) (And.intro (And.intro (And.intro @keep_cons @params_nil) (And.intro @params_cons @lookHG_t)) (And.intro (And.intro @lookHG_k @lookHG_f) (And.intro @alG.eq_1 @alG.eq_2))))) (And.intro (And.intro (And.intro (And.intro @alG.eq_3 (And.intro @lookPG_t @lookPG_k)) (And.intro (And.intro @lookPG_f @wantsE_none) (And.intro @wantsE_some @wantB_bool))) (And.intro (And.intro (And.intro @wantB_skip @stepsH_nil) (And.intro @stepsH_cons @stepH_eq)) (And.intro (And.intro @stepHL_eq @evHP_x) (And.intro @evHP_bm @evHP_snil)))) (And.intro (And.intro (And.intro @evHP_slc0 (And.intro @evHP_copy @evHC_skip)) (And.intro (And.intro @evHC_ret @evHC_exit) (And.intro @evHC_reg @evHC_regD))) (And.intro (And.intro (And.intro @evHC_seq @evHC_cond) (And.intro @evHC_block @HOp.temps.eq_1)) (And.intro (And.intro @HOp.opds.eq_1 @HOp.opds.eq_2) (And.intro @HOp.opds.eq_3 @HOp.opds.eq_4)))))):=(And.intro (And.intro (And.intro (And.intro (And.intro @oel_some (And.intro @oel_none @bel_true)) (And.intro (And.intro @bel_false @hvel_true) (And.intro @hvel_false @exel_norm))) (And.intro (And.intro (And.intro @exel_ret @exel_exit) (And.intro @retel_norm @retel_ret)) (And.intro (And.intro @fgtH_norm @fgtH_ret) (And.intro @fgtH_exit @blkel_norm)))) (And.intro (And.intro (And.intro @blkel_ret (And.intro @blkel_exit @get_nil)) (And.intro (And.intro @get_cons @set_nil) (And.intro @set_cons @keep_nil))) (And.intro (And.intro (And.intro @keep_cons @params_nil) (And.intro @params_cons @lookHG_t)) (And.intro (And.intro @lookHG_k @lookHG_f) (And.intro @alG.eq_1 @alG.eq_2))))) (And.intro (And.intro (And.intro (And.intro @alG.eq_3 (And.intro @lookPG_t @lookPG_k)) (And.intro (And.intro @lookPG_f @wantsE_none) (And.intro @wantsE_some @wantB_bool))) (And.intro (And.intro (And.intro @wantB_skip @stepsH_nil) (And.intro @stepsH_cons @stepH_eq)) (And.intro (And.intro @stepHL_eq @evHP_x) (And.intro @evHP_bm @evHP_snil)))) (And.intro (And.intro (And.intro @evHP_slc0 (And.intro @evHP_copy @evHC_skip)) (And.intro (And.intro @evHC_ret @evHC_exit) (And.intro @evHC_reg @evHC_regD))) (And.intro (And.intro (And.intro @evHC_seq @evHC_cond) (And.intro @evHC_block @HOp.temps.eq_1)) (And.intro (And.intro @HOp.opds.eq_1 @HOp.opds.eq_2) (And.intro @HOp.opds.eq_3 @HOp.opds.eq_4))))))
theorem hsb1:type_of% (And.intro (And.intro (And.intro (And.intro (And.intro @HOp.opds.eq_5 (And.intro @XOp.opds.eq_1 @XOp.opds.eq_2)) (And.intro (And.intro @XOp.opds.eq_3 @XOp.opds.eq_4) (And.intro @XOp.opds.eq_5 @XOp.opds.eq_6))) (And.intro (And.intro (And.intro @XOp.opds.eq_7 @XOp.opds.eq_8) (And.intro @XOp.opds.eq_9 @XOp.opds.eq_10)) (And.intro (And.intro @XOp.opds.eq_11 @XOp.opds.eq_12) (And.intro @XOp.opds.eq_13 @XOp.opds.eq_14)))) (And.intro (And.intro (And.intro @XOp.opds.eq_15 (And.intro @XOp.opds.eq_16 @XOp.opds.eq_17)) (And.intro (And.intro @XOp.opds.eq_18 @XOp.opds.eq_19) (And.intro @XOp.opds.eq_20 @XOp.opds.eq_21))) (And.intro (And.intro (And.intro @XOp.opds.eq_22 @XOp.opds.eq_23) (And.intro @XOp.opds.eq_24 @XOp.opds.eq_25)) (And.intro (And.intro @XOp.opds.eq_26 @XOp.opds.eq_27) (And.intro @XOp.opds.eq_28 @XOp.opds.eq_29))))) (And.intro (And.intro (And.intro (And.intro @XOp.opds.eq_30 (And.intro @XOp.opds.eq_31 @XOp.opds.eq_32)) (And.intro (And.intro @XOp.opds.eq_33 @optO.eq_1) (And.intro @optO.eq_2 @tempsO.eq_1))) (And.intro (And.intro (And.intro @tempsO.eq_2 @tempsO.eq_3) (And.intro @hland.eq_1 @hland.eq_2)) (And.intro (And.intro @land1.eq_1 @evHX.eq_1) (And.intro @evHX.eq_2 @evHX.eq_3)))) (And.intro (And.intro (And.intro @evHX.eq_4 (And.intro @evHX.eq_5 @evHX.eq_6)) (And.intro (And.intro @evHX.eq_7 @evHX.eq_8) (And.intro @evHX.eq_9 @evHX.eq_10))) (And.intro (And.intro (And.intro @evHX.eq_11 @evHX.eq_12) (And.intro @evHX.eq_13 @evHX.eq_14)) (And.intro (And.intro @evHX.eq_15 @evHV.eq_1) (And.intro @evHV.eq_2 @evHV.eq_3)))))):=(And.intro (And.intro (And.intro (And.intro (And.intro @HOp.opds.eq_5 (And.intro @XOp.opds.eq_1 @XOp.opds.eq_2)) (And.intro (And.intro @XOp.opds.eq_3 @XOp.opds.eq_4) (And.intro @XOp.opds.eq_5 @XOp.opds.eq_6))) (And.intro (And.intro (And.intro @XOp.opds.eq_7 @XOp.opds.eq_8) (And.intro @XOp.opds.eq_9 @XOp.opds.eq_10)) (And.intro (And.intro @XOp.opds.eq_11 @XOp.opds.eq_12) (And.intro @XOp.opds.eq_13 @XOp.opds.eq_14)))) (And.intro (And.intro (And.intro @XOp.opds.eq_15 (And.intro @XOp.opds.eq_16 @XOp.opds.eq_17)) (And.intro (And.intro @XOp.opds.eq_18 @XOp.opds.eq_19) (And.intro @XOp.opds.eq_20 @XOp.opds.eq_21))) (And.intro (And.intro (And.intro @XOp.opds.eq_22 @XOp.opds.eq_23) (And.intro @XOp.opds.eq_24 @XOp.opds.eq_25)) (And.intro (And.intro @XOp.opds.eq_26 @XOp.opds.eq_27) (And.intro @XOp.opds.eq_28 @XOp.opds.eq_29))))) (And.intro (And.intro (And.intro (And.intro @XOp.opds.eq_30 (And.intro @XOp.opds.eq_31 @XOp.opds.eq_32)) (And.intro (And.intro @XOp.opds.eq_33 @optO.eq_1) (And.intro @optO.eq_2 @tempsO.eq_1))) (And.intro (And.intro (And.intro @tempsO.eq_2 @tempsO.eq_3) (And.intro @hland.eq_1 @hland.eq_2)) (And.intro (And.intro @land1.eq_1 @evHX.eq_1) (And.intro @evHX.eq_2 @evHX.eq_3)))) (And.intro (And.intro (And.intro @evHX.eq_4 (And.intro @evHX.eq_5 @evHX.eq_6)) (And.intro (And.intro @evHX.eq_7 @evHX.eq_8) (And.intro @evHX.eq_9 @evHX.eq_10))) (And.intro (And.intro (And.intro @evHX.eq_11 @evHX.eq_12) (And.intro @evHX.eq_13 @evHX.eq_14)) (And.intro (And.intro @evHX.eq_15 @evHV.eq_1) (And.intro @evHV.eq_2 @evHV.eq_3))))))
theorem hsb2:type_of% (And.intro (And.intro (And.intro (And.intro (And.intro @evHV.eq_4 (And.intro @evHV.eq_5 @evHN.eq_1)) (And.intro (And.intro @evHN.eq_2 @evHN.eq_3) (And.intro @evP.eq_1 @evP.eq_2))) (And.intro (And.intro (And.intro @evP.eq_3 @evP.eq_4) (And.intro @evP.eq_5 @evP.eq_6)) (And.intro (And.intro @evP.eq_7 @evP.eq_8) (And.intro @evP.eq_9 @evP.eq_10)))) (And.intro (And.intro (And.intro @evP.eq_11 (And.intro @evP.eq_12 @evP.eq_13)) (And.intro (And.intro @evP.eq_14 @evP.eq_15) (And.intro @evP.eq_16 @evP.eq_17))) (And.intro (And.intro (And.intro @evP.eq_18 @evP.eq_19) (And.intro @evP.eq_20 @evP.eq_21)) (And.intro (And.intro @evP.eq_22 @evP.eq_23) (And.intro @evP.eq_24 @evP.eq_25))))) (And.intro (And.intro (And.intro (And.intro @evP.eq_26 (And.intro @evP.eq_27 @evP.eq_28)) (And.intro (And.intro @evP.eq_29 @evP.eq_30) (And.intro @evP.eq_31 @evP.eq_32))) (And.intro (And.intro (And.intro @evHS.eq_1 @evHS.eq_2) (And.intro @evHS.eq_3 @evHS.eq_4)) (And.intro (And.intro @evHS.eq_5 @evHS.eq_6) (And.intro @toP.eq_1 @toP.eq_2)))) (And.intro (And.intro (And.intro @vis.eq_1 (And.intro @vis.eq_2 @vis.eq_3)) (And.intro (And.intro @vis.eq_4 @PV.loose.eq_1) (And.intro @noOwn.eq_1 @noOwn.eq_2))) (And.intro (And.intro (And.intro @noOwn.eq_3 @noOwn.eq_4) (And.intro @noOwn.eq_5 @noOwn.eq_6)) (And.intro (And.intro @noOwnL.eq_1 @noOwnL.eq_2) (And.intro @refs.eq_1 @refs.eq_2)))))):=(And.intro (And.intro (And.intro (And.intro (And.intro @evHV.eq_4 (And.intro @evHV.eq_5 @evHN.eq_1)) (And.intro (And.intro @evHN.eq_2 @evHN.eq_3) (And.intro @evP.eq_1 @evP.eq_2))) (And.intro (And.intro (And.intro @evP.eq_3 @evP.eq_4) (And.intro @evP.eq_5 @evP.eq_6)) (And.intro (And.intro @evP.eq_7 @evP.eq_8) (And.intro @evP.eq_9 @evP.eq_10)))) (And.intro (And.intro (And.intro @evP.eq_11 (And.intro @evP.eq_12 @evP.eq_13)) (And.intro (And.intro @evP.eq_14 @evP.eq_15) (And.intro @evP.eq_16 @evP.eq_17))) (And.intro (And.intro (And.intro @evP.eq_18 @evP.eq_19) (And.intro @evP.eq_20 @evP.eq_21)) (And.intro (And.intro @evP.eq_22 @evP.eq_23) (And.intro @evP.eq_24 @evP.eq_25))))) (And.intro (And.intro (And.intro (And.intro @evP.eq_26 (And.intro @evP.eq_27 @evP.eq_28)) (And.intro (And.intro @evP.eq_29 @evP.eq_30) (And.intro @evP.eq_31 @evP.eq_32))) (And.intro (And.intro (And.intro @evHS.eq_1 @evHS.eq_2) (And.intro @evHS.eq_3 @evHS.eq_4)) (And.intro (And.intro @evHS.eq_5 @evHS.eq_6) (And.intro @toP.eq_1 @toP.eq_2)))) (And.intro (And.intro (And.intro @vis.eq_1 (And.intro @vis.eq_2 @vis.eq_3)) (And.intro (And.intro @vis.eq_4 @PV.loose.eq_1) (And.intro @noOwn.eq_1 @noOwn.eq_2))) (And.intro (And.intro (And.intro @noOwn.eq_3 @noOwn.eq_4) (And.intro @noOwn.eq_5 @noOwn.eq_6)) (And.intro (And.intro @noOwnL.eq_1 @noOwnL.eq_2) (And.intro @refs.eq_1 @refs.eq_2))))))
theorem hsb3:type_of% (And.intro (And.intro (And.intro (And.intro (And.intro @refs.eq_3 (And.intro @refs.eq_4 @refs.eq_5)) (And.intro (And.intro @refs.eq_6 @refsL.eq_1) (And.intro @refsL.eq_2 @fresh.eq_1))) (And.intro (And.intro (And.intro @fresh.eq_2 @fresh.eq_3) (And.intro @al.eq_1 @al.eq_2)) (And.intro (And.intro @al.eq_3 @al.eq_4) (And.intro @al.eq_5 @al.eq_6)))) (And.intro (And.intro (And.intro @al.eq_7 (And.intro @alL.eq_1 @alL.eq_2)) (And.intro (And.intro @fr_none @fr_bool) (And.intro @fr_int @fr_str))) (And.intro (And.intro (And.intro @fr_nilp @fr_nils) (And.intro @fr_nilf @fr_sl)) (And.intro (And.intro @fr_sp @fr_ref) (And.intro @fr_view @fr_box))))) (And.intro (And.intro (And.intro (And.intro @fr_own (And.intro @fr_agg @fr_tup)) (And.intro (And.intro @fr_fn @setH.eq_1) (And.intro @setH.eq_2 @pvBin.eq_1))) (And.intro (And.intro (And.intro @pvBin.eq_2 @pvBin.eq_3) (And.intro @intBin.eq_1 @intBin.eq_2)) (And.intro (And.intro @intBin.eq_3 @intBin.eq_4) (And.intro @intBin.eq_5 @intBin.eq_6)))) (And.intro (And.intro (And.intro @intBin.eq_7 (And.intro @intBin.eq_8 @intBin.eq_9)) (And.intro (And.intro @intBin.eq_10 @intBin.eq_11) (And.intro @intBin.eq_12 @intBin.eq_13))) (And.intro (And.intro (And.intro @intBin.eq_14 @intBin.eq_15) (And.intro @intBin.eq_16 @intBin.eq_17)) (And.intro (And.intro @intBin.eq_18 @fillH.eq_1) (And.intro @fillH.eq_2 @fillP.eq_1)))))):=(And.intro (And.intro (And.intro (And.intro (And.intro @refs.eq_3 (And.intro @refs.eq_4 @refs.eq_5)) (And.intro (And.intro @refs.eq_6 @refsL.eq_1) (And.intro @refsL.eq_2 @fresh.eq_1))) (And.intro (And.intro (And.intro @fresh.eq_2 @fresh.eq_3) (And.intro @al.eq_1 @al.eq_2)) (And.intro (And.intro @al.eq_3 @al.eq_4) (And.intro @al.eq_5 @al.eq_6)))) (And.intro (And.intro (And.intro @al.eq_7 (And.intro @alL.eq_1 @alL.eq_2)) (And.intro (And.intro @fr_none @fr_bool) (And.intro @fr_int @fr_str))) (And.intro (And.intro (And.intro @fr_nilp @fr_nils) (And.intro @fr_nilf @fr_sl)) (And.intro (And.intro @fr_sp @fr_ref) (And.intro @fr_view @fr_box))))) (And.intro (And.intro (And.intro (And.intro @fr_own (And.intro @fr_agg @fr_tup)) (And.intro (And.intro @fr_fn @setH.eq_1) (And.intro @setH.eq_2 @pvBin.eq_1))) (And.intro (And.intro (And.intro @pvBin.eq_2 @pvBin.eq_3) (And.intro @intBin.eq_1 @intBin.eq_2)) (And.intro (And.intro @intBin.eq_3 @intBin.eq_4) (And.intro @intBin.eq_5 @intBin.eq_6)))) (And.intro (And.intro (And.intro @intBin.eq_7 (And.intro @intBin.eq_8 @intBin.eq_9)) (And.intro (And.intro @intBin.eq_10 @intBin.eq_11) (And.intro @intBin.eq_12 @intBin.eq_13))) (And.intro (And.intro (And.intro @intBin.eq_14 @intBin.eq_15) (And.intro @intBin.eq_16 @intBin.eq_17)) (And.intro (And.intro @intBin.eq_18 @fillH.eq_1) (And.intro @fillH.eq_2 @fillP.eq_1))))))
theorem hsb4:type_of% (And.intro (And.intro (And.intro (And.intro (And.intro @fillP.eq_2 (And.intro @PV.lok.eq_1 @PV.lok.eq_2)) (And.intro (And.intro @PV.lok.eq_3 @cellsH.eq_1) (And.intro @cellsH.eq_2 @cellsH.eq_3))) (And.intro (And.intro (And.intro @cells.eq_1 @cells.eq_2) (And.intro @HV.one.eq_1 @HV.one.eq_2)) (And.intro (And.intro @HV.one.eq_3 @HV.one.eq_4) (And.intro @HV.one.eq_5 @HV.one.eq_6)))) (And.intro (And.intro (And.intro @HV.one.eq_7 (And.intro @HV.one.eq_8 @partsO.eq_1)) (And.intro (And.intro @partsO.eq_2 @mkAgg.eq_1) (And.intro @mkTup.eq_1 @allP.eq_1))) (And.intro (And.intro (And.intro @allP.eq_2 @allP.eq_3) (And.intro @setCellsH.eq_1 @setCellsH.eq_2)) (And.intro (And.intro @blkCells.eq_1 @partH.eq_1) (And.intro @resHL.eq_1 @resHL.eq_2))))) (And.intro (And.intro (And.intro (And.intro @resH1.eq_1 (And.intro @resH1.eq_2 @resT.eq_1)) (And.intro (And.intro @resT.eq_2 @tupHOf.eq_1) (And.intro @tupHOf.eq_2 @slElems.eq_1))) (And.intro (And.intro (And.intro @slElems.eq_2 @slElems.eq_3) (And.intro @slElems.eq_4 @bnd.eq_1)) (And.intro (And.intro @bnd.eq_2 @idxOk.eq_1) (And.intro @pvPeq.eq_1 @pvPeq.eq_2)))) (And.intro (And.intro (And.intro @pvPeq.eq_3 (And.intro @pvPeq.eq_4 @pvPeq.eq_5)) (And.intro (And.intro @pvPeq.eq_6 @pvBeq.eq_1) (And.intro @pvBeq.eq_2 @pvUn.eq_1))) (And.intro (And.intro (And.intro @pvUn.eq_2 @pvUn.eq_3) (And.intro @pvUn.eq_4 @pvUn.eq_5)) (And.intro (And.intro @mkOwn.eq_1 @rep.eq_1) (And.intro @rep.eq_2 @lendL.eq_1)))))):=(And.intro (And.intro (And.intro (And.intro (And.intro @fillP.eq_2 (And.intro @PV.lok.eq_1 @PV.lok.eq_2)) (And.intro (And.intro @PV.lok.eq_3 @cellsH.eq_1) (And.intro @cellsH.eq_2 @cellsH.eq_3))) (And.intro (And.intro (And.intro @cells.eq_1 @cells.eq_2) (And.intro @HV.one.eq_1 @HV.one.eq_2)) (And.intro (And.intro @HV.one.eq_3 @HV.one.eq_4) (And.intro @HV.one.eq_5 @HV.one.eq_6)))) (And.intro (And.intro (And.intro @HV.one.eq_7 (And.intro @HV.one.eq_8 @partsO.eq_1)) (And.intro (And.intro @partsO.eq_2 @mkAgg.eq_1) (And.intro @mkTup.eq_1 @allP.eq_1))) (And.intro (And.intro (And.intro @allP.eq_2 @allP.eq_3) (And.intro @setCellsH.eq_1 @setCellsH.eq_2)) (And.intro (And.intro @blkCells.eq_1 @partH.eq_1) (And.intro @resHL.eq_1 @resHL.eq_2))))) (And.intro (And.intro (And.intro (And.intro @resH1.eq_1 (And.intro @resH1.eq_2 @resT.eq_1)) (And.intro (And.intro @resT.eq_2 @tupHOf.eq_1) (And.intro @tupHOf.eq_2 @slElems.eq_1))) (And.intro (And.intro (And.intro @slElems.eq_2 @slElems.eq_3) (And.intro @slElems.eq_4 @bnd.eq_1)) (And.intro (And.intro @bnd.eq_2 @idxOk.eq_1) (And.intro @pvPeq.eq_1 @pvPeq.eq_2)))) (And.intro (And.intro (And.intro @pvPeq.eq_3 (And.intro @pvPeq.eq_4 @pvPeq.eq_5)) (And.intro (And.intro @pvPeq.eq_6 @pvBeq.eq_1) (And.intro @pvBeq.eq_2 @pvUn.eq_1))) (And.intro (And.intro (And.intro @pvUn.eq_2 @pvUn.eq_3) (And.intro @pvUn.eq_4 @pvUn.eq_5)) (And.intro (And.intro @mkOwn.eq_1 @rep.eq_1) (And.intro @rep.eq_2 @lendL.eq_1))))))
theorem hsb5:type_of% (And.intro (And.intro (And.intro (And.intro (And.intro @lendL.eq_2 (And.intro @getElem?_len @getElem?_len0)) (And.intro (And.intro @set_len0 @set_len) (And.intro @lim.eq_1 @part.eq_1))) (And.intro (And.intro (And.intro @norm1.eq_1 @norm1.eq_2) (And.intro @slCells.eq_1 @slCells.eq_2)) (And.intro (And.intro @slCells.eq_3 @slCells.eq_4) (And.intro @lend.eq_1 @lend.eq_2)))) (And.intro (And.intro (And.intro @lend.eq_3 (And.intro @lend1.eq_1 @lend1.eq_2)) (And.intro (And.intro @lend1L.eq_1 @lend1L.eq_2) (And.intro @PV.flat.eq_1 @PV.flat.eq_2))) (And.intro (And.intro (And.intro @PV.flat.eq_3 @PV.flat1.eq_1) (And.intro @PV.flat1.eq_2 @PV.flat1.eq_3)) (And.intro (And.intro @PV.flat1.eq_4 @lent.eq_1) (And.intro @lent.eq_2 @lent.eq_3))))) (And.intro (And.intro (And.intro (And.intro @lent.eq_4 (And.intro @PV.isView.eq_1 @PV.isView.eq_2)) (And.intro (And.intro @len_app @regHD_eq) (And.intro @traceHD_nil @traceHD_cons))) (And.intro (And.intro (And.intro @stepHD_eq @isFresh.eq_1) (And.intro @isFresh.eq_2 @isFresh.eq_3)) (And.intro (And.intro @isFresh.eq_4 @stableAll.eq_1) (And.intro @stableAll.eq_2 @stableOp.eq_1)))) (And.intro (And.intro (And.intro @lastO.eq_1 (And.intro @lastO.eq_2 @lastO.eq_3)) (And.intro (And.intro @eqHO.eq_1 @eqHO.eq_2) (And.intro @eqHO.eq_3 @eqHV.eq_1))) (And.intro (And.intro (And.intro @eqHV.eq_2 @eqHV.eq_3) (And.intro @eqHV.eq_4 @eqHV.eq_5)) (And.intro (And.intro @eqHV.eq_6 @eqHV.eq_7) (And.intro @eqHV.eq_8 @eqHV.eq_9)))))):=(And.intro (And.intro (And.intro (And.intro (And.intro @lendL.eq_2 (And.intro @getElem?_len @getElem?_len0)) (And.intro (And.intro @set_len0 @set_len) (And.intro @lim.eq_1 @part.eq_1))) (And.intro (And.intro (And.intro @norm1.eq_1 @norm1.eq_2) (And.intro @slCells.eq_1 @slCells.eq_2)) (And.intro (And.intro @slCells.eq_3 @slCells.eq_4) (And.intro @lend.eq_1 @lend.eq_2)))) (And.intro (And.intro (And.intro @lend.eq_3 (And.intro @lend1.eq_1 @lend1.eq_2)) (And.intro (And.intro @lend1L.eq_1 @lend1L.eq_2) (And.intro @PV.flat.eq_1 @PV.flat.eq_2))) (And.intro (And.intro (And.intro @PV.flat.eq_3 @PV.flat1.eq_1) (And.intro @PV.flat1.eq_2 @PV.flat1.eq_3)) (And.intro (And.intro @PV.flat1.eq_4 @lent.eq_1) (And.intro @lent.eq_2 @lent.eq_3))))) (And.intro (And.intro (And.intro (And.intro @lent.eq_4 (And.intro @PV.isView.eq_1 @PV.isView.eq_2)) (And.intro (And.intro @len_app @regHD_eq) (And.intro @traceHD_nil @traceHD_cons))) (And.intro (And.intro (And.intro @stepHD_eq @isFresh.eq_1) (And.intro @isFresh.eq_2 @isFresh.eq_3)) (And.intro (And.intro @isFresh.eq_4 @stableAll.eq_1) (And.intro @stableAll.eq_2 @stableOp.eq_1)))) (And.intro (And.intro (And.intro @lastO.eq_1 (And.intro @lastO.eq_2 @lastO.eq_3)) (And.intro (And.intro @eqHO.eq_1 @eqHO.eq_2) (And.intro @eqHO.eq_3 @eqHV.eq_1))) (And.intro (And.intro (And.intro @eqHV.eq_2 @eqHV.eq_3) (And.intro @eqHV.eq_4 @eqHV.eq_5)) (And.intro (And.intro @eqHV.eq_6 @eqHV.eq_7) (And.intro @eqHV.eq_8 @eqHV.eq_9))))))
theorem hsb6:type_of% (And.intro (And.intro (And.intro (And.intro (And.intro @eqHV.eq_10 @readAt.eq_1) (And.intro @readAt.eq_2 @eqPV.eq_1)) (And.intro (And.intro @eqPV.eq_2 @eqPV.eq_3) (And.intro @eqPV.eq_4 (And.intro @eqPV.eq_5 @eqPV.eq_6)))) (And.intro (And.intro (And.intro @eqPV.eq_7 @eqPV.eq_8) (And.intro @eqPV.eq_9 @eqPV.eq_10)) (And.intro (And.intro @eqPV.eq_11 @eqPV.eq_12) (And.intro @eqPV.eq_13 (And.intro @eqPVL.eq_1 @eqPVL.eq_2))))) (And.intro (And.intro (And.intro (And.intro @eqPVL.eq_3 @eqHVL.eq_1) (And.intro @eqHVL.eq_2 @eqHVL.eq_3)) (And.intro (And.intro @q1.eq_1 @q2.eq_1) (And.intro @q3.eq_1 (And.intro @q4.eq_1 @pvAeq.eq_1)))) (And.intro (And.intro (And.intro @pvAeq.eq_2 @eqCells.eq_1) (And.intro @eqCells.eq_2 (And.intro @eqCells.eq_3 @eqCells.eq_4))) (And.intro (And.intro @eqCells.eq_5 @strBin.eq_1) (And.intro @strBin.eq_2 (And.intro @strBin.eq_3 @strBin.eq_4)))))):=(And.intro (And.intro (And.intro (And.intro (And.intro @eqHV.eq_10 @readAt.eq_1) (And.intro @readAt.eq_2 @eqPV.eq_1)) (And.intro (And.intro @eqPV.eq_2 @eqPV.eq_3) (And.intro @eqPV.eq_4 (And.intro @eqPV.eq_5 @eqPV.eq_6)))) (And.intro (And.intro (And.intro @eqPV.eq_7 @eqPV.eq_8) (And.intro @eqPV.eq_9 @eqPV.eq_10)) (And.intro (And.intro @eqPV.eq_11 @eqPV.eq_12) (And.intro @eqPV.eq_13 (And.intro @eqPVL.eq_1 @eqPVL.eq_2))))) (And.intro (And.intro (And.intro (And.intro @eqPVL.eq_3 @eqHVL.eq_1) (And.intro @eqHVL.eq_2 @eqHVL.eq_3)) (And.intro (And.intro @q1.eq_1 @q2.eq_1) (And.intro @q3.eq_1 (And.intro @q4.eq_1 @pvAeq.eq_1)))) (And.intro (And.intro (And.intro @pvAeq.eq_2 @eqCells.eq_1) (And.intro @eqCells.eq_2 (And.intro @eqCells.eq_3 @eqCells.eq_4))) (And.intro (And.intro @eqCells.eq_5 @strBin.eq_1) (And.intro @strBin.eq_2 (And.intro @strBin.eq_3 @strBin.eq_4))))))
theorem hs_eq:type_of% (And.intro (And.intro hsb0 (And.intro hsb1 hsb2)) (And.intro (And.intro hsb3 hsb4) (And.intro hsb5 hsb6))):=(And.intro (And.intro hsb0 (And.intro hsb1 hsb2)) (And.intro (And.intro hsb3 hsb4) (And.intro hsb5 hsb6)))
theorem hs_pre:type_of% (And.intro (And.intro (And.intro @oel_some @oel_none) (And.intro @bel_true (And.intro @bel_false @hvel_true))) (And.intro (And.intro @hvel_false (And.intro @exel_norm @exel_ret)) (And.intro @exel_exit (And.intro @retel_norm @retel_ret)))):=(And.intro (And.intro (And.intro @oel_some @oel_none) (And.intro @bel_true (And.intro @bel_false @hvel_true))) (And.intro (And.intro @hvel_false (And.intro @exel_norm @exel_ret)) (And.intro @exel_exit (And.intro @retel_norm @retel_ret))))
theorem evP_call0':type_of% (And.intro @evP_call0 @evP_callv0):=(And.intro @evP_call0 @evP_callv0)
end Go.Ab
namespace Go.Ab
open Go
set_option linter.unusedVariables false
section
variable {C:Calls'} {E E1 E2 E3:Env} {ex:Ex} {k:List Nat}
theorem w_seq {a b:XC} {R:Option (Ex × Env)} (h:evX C a E=some (ex,E1)) (h2:seqK (some (ex,E1)) (evX C b)=R):evX C (.seq a b) E=R:=by
  rw [evX_seq,h];exact h2
theorem w_go {f:Env→Option (Ex × Env)} {R:Option (Ex × Env)} (h:f E=R):seqK (some (.norm,E)) f=R:=h
theorem w_gox {f:Env→Option (Ex × Env)} {i:Nat}:seqK (some (.exit i,E)) f=some (.exit i,E):=rfl
theorem w_gor {f:Env→Option (Ex × Env)}:seqK (some (.ret,E)) f=some (.ret,E):=rfl
theorem w_skip:evX C .skip E=some (.norm,E):=evX_skip
theorem w_ret:evX C .ret E=some (.ret,E):=evX_ret
theorem w_exit {i:Nat} (h:E.keep k=E1):evX C (.exit i k) E=some (.exit i,E1):=by rw [evX_exit,h]
theorem w_reg {ops:List XI} (h:steps C E ops=some E1) (h2:E1.keep k=E2):evX C (.reg ops false k) E=some (.norm,E2):=by
  rw [evX_reg,h];simp [h2]
theorem w_nil:steps C E []=some E:=rfl
theorem w_cons {o:XI} {r:List XI} (h:step C E o=some E1) (h2:steps C E1 r=some E2):steps C E (o :: r)=some E2:=by
  simp only [steps,h];exact h2
theorem w_regD {ops:List XI} {ds:List Nat} (h0:dstsOf ops=ds) (h1:(E.all fun x=>noRefs ds x.2 && !ds.contains x.1)=true) (h:stepsD C E.sub ds E ops=some E1) (h2:E1.keep k=E2):evX C (.reg ops true k) E=some (.norm,E2):=by
  subst h0
  rw [evX_regD]
  simp only [regD]
  rw [if_pos h1,h];simp [h2]
theorem w_consD {S:Subs} {ds:List Nat} {o:XI} {r:List XI} {d:Nat} {v:PV} (hb:o.bar=false) (h:stepD C S ds E o=some (d,v)) (hg:E.get d = .none) (hs:E.set d v=E1) (h2:stepsD C S ds E1 r=some E2):stepsD C S ds E (o :: r)=some E2:=by
  simp only [stepsD,hb,Bool.false_eq_true,if_false,h,hg,hs];exact h2
theorem w_barD {S:Subs} {ds:List Nat} {o:XI} {r:List XI} (hb:o.bar=true) (ha:r.all (·.bar)=true) (h:steps C E (o :: r)=some E2):stepsD C S ds E (o :: r)=some E2:=by
  simp only [stepsD,hb,if_true,ha];exact h
theorem w_condt {c:XO} {a b:XC} {R:Option (Ex × Env)} (h:look E c = .bool true) (h1:evX C a E=some (ex,E1)) (h2:fgt k (some (ex,E1))=R):evX C (.cond c a b k) E=R:=by
  rw [evX_cond,h,condK,h1];exact h2
theorem w_condf {c:XO} {a b:XC} {R:Option (Ex × Env)} (h:look E c = .bool false) (h1:evX C b E=some (ex,E1)) (h2:fgt k (some (ex,E1))=R):evX C (.cond c a b k) E=R:=by
  rw [evX_cond,h,condK,h1];exact h2
theorem w_block {b:XC} {i:Nat} {R:Option (Ex × Env)} (h1:evX C b E=some (ex,E1)) (h2:fgt k (blockK i (some (ex,E1)))=R):evX C (.block i b k) E=R:=by
  rw [evX_block,h1];exact h2
theorem w_fgt {b:XC} {R:Option (Ex × Env)} (h1:evX C b E=some (ex,E1)) (h2:fgt k (some (ex,E1))=R):fgt k (evX C b E)=R:=by
  rw [h1];exact h2
theorem w_fn {x:XF} {ws:List PV} {c:XC} {r:Option (PV × List PV)} (hc:x.body=c) (hp:params 0 (argsIn x.nk ws)=E) (h:evX C c E=some (ex,E1)) (h2:retK x ws (some (ex,E1))=r):retK x ws (evX C x.body (params 0 (argsIn x.nk ws)))=r:=by
  rw [hc,hp,h];exact h2
end
end Go.Ab
namespace Go.Ab
open Go
set_option linter.unusedVariables false
set_option linter.unusedSimpArgs false
set_option maxRecDepth 100000
set_option maxHeartbeats 4000000
theorem r03_power_l1_bok (p0:Int) (out1:Int) (i2:Int):Sim (r03_power_l1_b p0 out1 i2) fun x=>fgt [0,3,4] (evX (evI T) x75_1 [(0,.int .i64 p0),(3,.int .i64 out1),(4,.int .i64 i2)])=some (stpK (fun s=>(.norm,[(0,.int .i64 p0),(3,.int .i64 s.1),(4,.int .i64 s.2)])) (fun r=>(.exit 0,[(3,.int .i64 r)])) x):=by
  unfold r03_power_l1_b
  refine sim_if (fun h1=>?_) (fun h1=>?_)
  · refine sim_some ?_
    refine' (w_fgt (w_seq (w_seq (w_reg (w_cons ?_ (w_cons ?_ (w_cons ?_ w_nil))) ?_) (w_go (w_condt ?_ w_skip ?_))) (w_go (w_seq (w_block (w_reg (w_cons ?_ (w_cons ?_ (w_cons ?_ w_nil))) ?_) ?_) (w_go (w_reg (w_cons ?_ (w_cons ?_ (w_cons ?_ w_nil))) ?_))))) ?_)
    all_goals (first | (simp only [nz,rn,h1,Int.reduceLT,Int.reduceEq,List.contains_cons,List.contains_nil,Option.map_some,Option.map_none,reduceIte,reduceCtorEq,Nat.reduceEqDiff,Nat.reduceLT,Nat.reduceBEq,Nat.reduceAdd,Nat.reduceMul,Nat.reduceLeDiff,Nat.reduceSub,Bool.false_eq_true];try rfl) | skip)
  · refine sim_some ?_
    refine' (w_fgt (w_seq (w_seq (w_reg (w_cons ?_ (w_cons ?_ (w_cons ?_ w_nil))) ?_) (w_go (w_condf ?_ (w_exit ?_) ?_))) w_gox) ?_)
    all_goals (first | (simp only [nz,rn,h1,Int.reduceLT,Int.reduceEq,List.contains_cons,List.contains_nil,Option.map_some,Option.map_none,reduceIte,reduceCtorEq,Nat.reduceEqDiff,Nat.reduceLT,Nat.reduceBEq,Nat.reduceAdd,Nat.reduceMul,Nat.reduceLeDiff,Nat.reduceSub,Bool.false_eq_true];try rfl) | skip)
theorem r03_power_l1_ok (p0:Int) (s:Int × Int):Sim (r03_power_l1 p0 s) fun r=>evX (evI T) (.loop x75_1 [0,3,4]) [(0,.int .i64 p0),(3,.int .i64 s.1),(4,.int .i64 s.2)]=some (.exit 0,[(3,.int .i64 r)]):=by
  unfold r03_power_l1
  exact loop_rule (C:=evI T) (b:=x75_1) (ks:=[0,3,4]) (σ:=Int × Int) (ρ:=Int) (body:=fun s=>r03_power_l1_b p0 s.1 s.2) (E:=fun s=>[(0,.int .i64 p0),(3,.int .i64 s.1),(4,.int .i64 s.2)]) (R:=fun r=>(.exit 0,[(3,.int .i64 r)])) (fun r h=>nomatch h) (fun s=>r03_power_l1_bok p0 s.1 s.2) s
theorem r03_power_ok (p0:Int):Sim (r03_power p0) fun r=>evI T 75 [.int .i64 p0]=some (.int .i64 r,[.none]):=by
  unfold r03_power
  refine sim_bind (fun out3 h2=>?_)
  have f3:=r03_power_l1_ok p0 (1,0) _ h2
  dsimp only at f3
  refine sim_some ?_
  refine evI_ret (x:=x75) rfl rfl rfl ?_
  try simp only [nz] at f3
  all_goals
    refine' (w_fn rfl rfl (w_seq (w_reg (w_cons ?_ w_nil) ?_) (w_go (w_seq (w_reg (w_cons ?_ w_nil) ?_) (w_go (w_seq (w_seq (w_reg (w_cons ?_ w_nil) ?_) (w_go (w_block f3 ?_))) (w_go (w_seq (w_reg (w_cons ?_ (w_cons ?_ w_nil)) ?_) (w_go w_ret)))))))) ?_)
    all_goals (first | (simp only [x75,nz,rn,Int.reduceLT,Int.reduceEq,List.contains_cons,List.contains_nil,Option.map_some,Option.map_none,reduceIte,reduceCtorEq,Nat.reduceEqDiff,Nat.reduceLT,Nat.reduceBEq,Nat.reduceAdd,Nat.reduceMul,Nat.reduceLeDiff,Nat.reduceSub,Bool.false_eq_true];try rfl) | skip)
theorem r03_power_okN (p0:Int):Sim (r03_power p0) fun r=>∀ ws,ws.map normA=[.int .i64 p0]→evI T 75 ws=some (.int .i64 r,[.none]):=fun r h=>evI_okN (x:=x75) rfl rfl rfl (r03_power_ok p0 r h)
end Go.Ab
namespace Go.Ab
open Go
set_option linter.unusedVariables false
set_option linter.unusedSimpArgs false
set_option maxRecDepth 100000
set_option maxHeartbeats 4000000
theorem r03_Pointer_j1_ok (p0:Shape) (p1:Int):evX (evI T) x23_1 [(1,.int .i64 p1),(2,.box [.int .i64 p0.Slots,.int .i64 p0.Mask])]=some (.norm,[(1,.int .i64 p1),(2,.box [.int .i64 p0.Slots,.int .i64 p0.Mask]),(12,.bool (((decide (p1 < 0)) || (decide (p0.Slots ≤ p1)))))]):=by
  rcases Bool.eq_false_or_eq_true (decide (p1 < 0)) with h1 | h1
  · refine' (w_reg (w_cons ?_ (w_cons ?_ (w_cons ?_ (w_cons ?_ (w_cons ?_ (w_cons ?_ (w_cons ?_ (w_cons ?_ w_nil)))))))) ?_)
    all_goals (first | (simp only [nz,rn,nzShape,h1,Int.reduceLT,Int.reduceEq,List.contains_cons,List.contains_nil,Option.map_some,Option.map_none,reduceIte,reduceCtorEq,Nat.reduceEqDiff,Nat.reduceLT,Nat.reduceBEq,Nat.reduceAdd,Nat.reduceMul,Nat.reduceLeDiff,Nat.reduceSub,Bool.false_eq_true];try rfl) | skip)
  · refine' (w_reg (w_cons ?_ (w_cons ?_ (w_cons ?_ (w_cons ?_ (w_cons ?_ (w_cons ?_ (w_cons ?_ (w_cons ?_ w_nil)))))))) ?_)
    all_goals (first | (simp only [nz,rn,nzShape,h1,Int.reduceLT,Int.reduceEq,List.contains_cons,List.contains_nil,Option.map_some,Option.map_none,reduceIte,reduceCtorEq,Nat.reduceEqDiff,Nat.reduceLT,Nat.reduceBEq,Nat.reduceAdd,Nat.reduceMul,Nat.reduceLeDiff,Nat.reduceSub,Bool.false_eq_true];try rfl) | skip)
theorem r03_Pointer_ok (p0:Shape) (p1:Int):Sim (r03_Pointer p0 p1) fun r=>evI T 23 [.agg [.int .i64 p0.Slots,.int .i64 p0.Mask],.int .i64 p1]=some (.bool r,[.none,.none]):=by
  unfold r03_Pointer
  have f3:=r03_Pointer_j1_ok p0 p1
  refine sim_if (fun h4=>?_) (fun h4=>?_)
  · refine sim_some ?_
    refine evI_ret (x:=x23) rfl rfl rfl ?_
    try simp only [nz,nzShape] at f3
    all_goals
      refine' (w_fn rfl rfl (w_seq (w_reg (w_cons ?_ (w_cons ?_ w_nil)) ?_) (w_go (w_seq (w_seq f3 (w_go (w_condt ?_ (w_seq (w_reg (w_cons ?_ w_nil) ?_) (w_go w_ret)) ?_))) w_gor))) ?_)
      all_goals (first | (simp only [x23,nz,rn,nzShape,h4,Int.reduceLT,Int.reduceEq,List.contains_cons,List.contains_nil,Option.map_some,Option.map_none,reduceIte,reduceCtorEq,Nat.reduceEqDiff,Nat.reduceLT,Nat.reduceBEq,Nat.reduceAdd,Nat.reduceMul,Nat.reduceLeDiff,Nat.reduceSub,Bool.false_eq_true];try rfl) | skip)
  · refine sim_bind (fun r2 h5=>?_)
    have f6:=r03_power_okN p1 _ h5
    dsimp only at f6
    refine sim_if (fun h7=>?_) (fun h7=>?_)
    · exact sim_none
    · refine sim_some ?_
      refine evI_ret (x:=x23) rfl rfl rfl ?_
      try simp only [nz,nzShape] at f3
      try simp only [nz,nzShape] at f6
      all_goals
        refine' (w_fn rfl rfl (w_seq (w_reg (w_cons ?_ (w_cons ?_ w_nil)) ?_) (w_go (w_seq (w_seq f3 (w_go (w_condf ?_ w_skip ?_))) (w_go (w_seq (w_regD ?_ ?_ (w_consD rfl ?_ ?_ ?_ (w_consD rfl ?_ ?_ ?_ (w_consD rfl ?_ ?_ ?_ (w_consD rfl ?_ ?_ ?_ (w_barD rfl rfl (w_cons ?_ (w_cons ?_ (w_cons ?_ (w_cons ?_ w_nil))))))))) ?_) (w_go w_ret)))))) ?_)
        all_goals (first | (simp only [x23,nz,rn,nzShape,h4,f6,of_decide_eq_false h7,h7,Int.reduceLT,Int.reduceEq,List.contains_cons,List.contains_nil,Option.map_some,Option.map_none,reduceIte,reduceCtorEq,Nat.reduceEqDiff,Nat.reduceLT,Nat.reduceBEq,Nat.reduceAdd,Nat.reduceMul,Nat.reduceLeDiff,Nat.reduceSub,Bool.false_eq_true];try rfl) | skip)
end Go.Ab
namespace Go.Ab
open Go
set_option linter.unusedVariables false
set_option linter.unusedSimpArgs false
set_option maxRecDepth 100000
set_option maxHeartbeats 4000000
end Go.Ab
namespace Go.Ab
open Go
set_option linter.unusedVariables false
set_option linter.unusedSimpArgs false
set_option maxRecDepth 100000
set_option maxHeartbeats 4000000
theorem l12_Shape_j4_ok (p0:Int) (m1:Int) (i2:Int) (h2:decide ((IntKind.wrap .i64 (i2 - 1)) < 0)=false):evX (evI T) x35_1 [(4,.box [.int .i64 0,.int .i64 0]),(5,.int .i64 (IntKind.wrap .i64 (Int.tmod (IntKind.wrap .u64 p0) 17))),(6,.int .i64 m1),(7,.int .i64 i2),(23,.bool (decide ((IntKind.wrap .i64 (1 * 2 ^ (min (IntKind.wrap .i64 (i2 - 1)).toNat 64))) ≤ m1)))]=some (.norm,[(4,.box [.int .i64 0,.int .i64 0]),(5,.int .i64 (IntKind.wrap .i64 (Int.tmod (IntKind.wrap .u64 p0) 17))),(6,.int .i64 ((if decide ((IntKind.wrap .i64 (1 * 2 ^ (min (IntKind.wrap .i64 (i2 - 1)).toNat 64))) ≤ m1) then IntKind.wrap .i64 (m1 - (IntKind.wrap .i64 (1 * 2 ^ (min (IntKind.wrap .i64 (i2 - 1)).toNat 64)))) else m1))),(7,.int .i64 i2)]):=by
  rcases Bool.eq_false_or_eq_true (decide ((IntKind.wrap .i64 (1 * 2 ^ (min (IntKind.wrap .i64 (i2 - 1)).toNat 64))) ≤ m1)) with h3 | h3
  · refine' (w_condt ?_ (w_reg (w_cons ?_ (w_cons ?_ (w_cons ?_ (w_cons ?_ (w_cons ?_ (w_cons ?_ w_nil)))))) ?_) ?_)
    all_goals (first | (simp only [nz,rn,h3,h2,of_decide_eq_false h2,Int.reduceLT,Int.reduceEq,List.contains_cons,List.contains_nil,Option.map_some,Option.map_none,reduceIte,reduceCtorEq,Nat.reduceEqDiff,Nat.reduceLT,Nat.reduceBEq,Nat.reduceAdd,Nat.reduceMul,Nat.reduceLeDiff,Nat.reduceSub,Bool.false_eq_true];try rfl) | skip)
  · refine' (w_condf ?_ w_skip ?_)
    all_goals (first | (simp only [nz,rn,h3,h2,of_decide_eq_false h2,Int.reduceLT,Int.reduceEq,List.contains_cons,List.contains_nil,Option.map_some,Option.map_none,reduceIte,reduceCtorEq,Nat.reduceEqDiff,Nat.reduceLT,Nat.reduceBEq,Nat.reduceAdd,Nat.reduceMul,Nat.reduceLeDiff,Nat.reduceSub,Bool.false_eq_true];try rfl) | skip)
theorem l12_Shape_l5_bok (p0:Int) (m1:Int) (i2:Int):Sim (l12_Shape_l5_b p0 m1 i2) fun x=>fgt [4,5,6,7] (evX (evI T) x35_2 [(4,.box [.int .i64 0,.int .i64 0]),(5,.int .i64 (IntKind.wrap .i64 (Int.tmod (IntKind.wrap .u64 p0) 17))),(6,.int .i64 m1),(7,.int .i64 i2)])=some (stpK (fun s=>(.norm,[(4,.box [.int .i64 0,.int .i64 0]),(5,.int .i64 (IntKind.wrap .i64 (Int.tmod (IntKind.wrap .u64 p0) 17))),(6,.int .i64 s.1),(7,.int .i64 s.2)])) (fun r=>(.exit 0,[(4,.box [.int .i64 0,.int .i64 0]),(5,.int .i64 (IntKind.wrap .i64 (Int.tmod (IntKind.wrap .u64 p0) 17))),(6,.int .i64 r)])) x):=by
  unfold l12_Shape_l5_b
  refine sim_if (fun h1=>?_) (fun h1=>?_)
  · refine sim_if (fun h2=>?_) (fun h2=>?_)
    · exact sim_none
    · have f5:=l12_Shape_j4_ok p0 m1 i2 h2
      refine sim_some ?_
      try simp only [nz] at f5
      all_goals
        refine' (w_fgt (w_seq (w_seq (w_reg (w_cons ?_ (w_cons ?_ (w_cons ?_ w_nil))) ?_) (w_go (w_condt ?_ w_skip ?_))) (w_go (w_seq (w_block (w_seq (w_reg (w_cons ?_ (w_cons ?_ (w_cons ?_ (w_cons ?_ (w_cons ?_ w_nil))))) ?_) (w_go f5)) ?_) (w_go (w_reg (w_cons ?_ (w_cons ?_ (w_cons ?_ w_nil))) ?_))))) ?_)
        all_goals (first | (simp only [nz,rn,h1,of_decide_eq_false h2,h2,Int.reduceLT,Int.reduceEq,List.contains_cons,List.contains_nil,Option.map_some,Option.map_none,reduceIte,reduceCtorEq,Nat.reduceEqDiff,Nat.reduceLT,Nat.reduceBEq,Nat.reduceAdd,Nat.reduceMul,Nat.reduceLeDiff,Nat.reduceSub,Bool.false_eq_true];try rfl) | skip)
  · refine sim_some ?_
    refine' (w_fgt (w_seq (w_seq (w_reg (w_cons ?_ (w_cons ?_ (w_cons ?_ w_nil))) ?_) (w_go (w_condf ?_ (w_exit ?_) ?_))) w_gox) ?_)
    all_goals (first | (simp only [nz,rn,h1,Int.reduceLT,Int.reduceEq,List.contains_cons,List.contains_nil,Option.map_some,Option.map_none,reduceIte,reduceCtorEq,Nat.reduceEqDiff,Nat.reduceLT,Nat.reduceBEq,Nat.reduceAdd,Nat.reduceMul,Nat.reduceLeDiff,Nat.reduceSub,Bool.false_eq_true];try rfl) | skip)
theorem l12_Shape_l5_ok (p0:Int) (s:Int × Int):Sim (l12_Shape_l5 p0 s) fun r=>evX (evI T) (.loop x35_2 [4,5,6,7]) [(4,.box [.int .i64 0,.int .i64 0]),(5,.int .i64 (IntKind.wrap .i64 (Int.tmod (IntKind.wrap .u64 p0) 17))),(6,.int .i64 s.1),(7,.int .i64 s.2)]=some (.exit 0,[(4,.box [.int .i64 0,.int .i64 0]),(5,.int .i64 (IntKind.wrap .i64 (Int.tmod (IntKind.wrap .u64 p0) 17))),(6,.int .i64 r)]):=by
  unfold l12_Shape_l5
  exact loop_rule (C:=evI T) (b:=x35_2) (ks:=[4,5,6,7]) (σ:=Int × Int) (ρ:=Int) (body:=fun s=>l12_Shape_l5_b p0 s.1 s.2) (E:=fun s=>[(4,.box [.int .i64 0,.int .i64 0]),(5,.int .i64 (IntKind.wrap .i64 (Int.tmod (IntKind.wrap .u64 p0) 17))),(6,.int .i64 s.1),(7,.int .i64 s.2)]) (R:=fun r=>(.exit 0,[(4,.box [.int .i64 0,.int .i64 0]),(5,.int .i64 (IntKind.wrap .i64 (Int.tmod (IntKind.wrap .u64 p0) 17))),(6,.int .i64 r)])) (fun r h=>nomatch h) (fun s=>l12_Shape_l5_bok p0 s.1 s.2) s
theorem l12_Shape_ok (p0:Int) (p1:Int):Sim (l12_Shape p0 p1) fun r=>evI T 35 [.int .i64 p0,.int .u16 p1]=some (.agg [.int .i64 r.Slots,.int .i64 r.Mask],[.none,.none]):=by
  unfold l12_Shape
  refine sim_bind (fun m4 h6=>?_)
  have f7:=l12_Shape_l5_ok p0 (IntKind.wrap .i64 p1,16) _ h6
  dsimp only at f7
  refine sim_some ?_
  refine evI_ret (x:=x35) rfl rfl rfl ?_
  try simp only [nz] at f7
  all_goals
    refine' (w_fn rfl rfl (w_seq (w_reg (w_cons ?_ w_nil) ?_) (w_go (w_seq (w_reg (w_cons ?_ (w_cons ?_ (w_cons ?_ (w_cons ?_ (w_cons ?_ w_nil))))) ?_) (w_go (w_seq (w_reg (w_cons ?_ (w_cons ?_ (w_cons ?_ w_nil))) ?_) (w_go (w_seq (w_seq (w_reg (w_cons ?_ w_nil) ?_) (w_go (w_block f7 ?_))) (w_go (w_seq (w_reg (w_cons ?_ (w_cons ?_ (w_cons ?_ (w_cons ?_ w_nil)))) ?_) (w_go w_ret)))))))))) ?_)
    all_goals (first | (simp only [x35,nz,rn,Int.reduceLT,Int.reduceEq,List.contains_cons,List.contains_nil,Option.map_some,Option.map_none,reduceIte,reduceCtorEq,Nat.reduceEqDiff,Nat.reduceLT,Nat.reduceBEq,Nat.reduceAdd,Nat.reduceMul,Nat.reduceLeDiff,Nat.reduceSub,Bool.false_eq_true];try rfl) | skip)
end Go.Ab
namespace Go.Ab
open Go
set_option linter.unusedVariables false
set_option linter.unusedSimpArgs false
set_option maxRecDepth 100000
set_option maxHeartbeats 4000000
theorem shape_Check_j1_ok (p0:Shape):evX (evI T) x97_1 [(1,.box [.int .i64 p0.Slots,.int .i64 p0.Mask])]=some (.norm,[(23,.bool (((decide (p0.Slots < 0)) || (((decide (16 < p0.Slots)) || (((decide (p0.Mask < 0)) || (decide ((IntKind.wrap .i64 (1 * 2 ^ (min p0.Slots.toNat 64))) ≤ p0.Mask)))))))))]):=by
  rcases Bool.eq_false_or_eq_true (decide (p0.Slots < 0)) with h1 | h1
  · refine' (w_regD ?_ ?_ (w_consD rfl ?_ ?_ ?_ (w_consD rfl ?_ ?_ ?_ (w_consD rfl ?_ ?_ ?_ (w_consD rfl ?_ ?_ ?_ (w_consD rfl ?_ ?_ ?_ (w_consD rfl ?_ ?_ ?_ (w_consD rfl ?_ ?_ ?_ (w_consD rfl ?_ ?_ ?_ (w_consD rfl ?_ ?_ ?_ (w_consD rfl ?_ ?_ ?_ (w_consD rfl ?_ ?_ ?_ (w_consD rfl ?_ ?_ ?_ (w_consD rfl ?_ ?_ ?_ (w_consD rfl ?_ ?_ ?_ (w_consD rfl ?_ ?_ ?_ (w_consD rfl ?_ ?_ ?_ (w_consD rfl ?_ ?_ ?_ (w_consD rfl ?_ ?_ ?_ (w_consD rfl ?_ ?_ ?_ (w_barD rfl rfl (w_cons ?_ (w_cons ?_ w_nil)))))))))))))))))))))) ?_)
    all_goals (first | (simp only [nz,rn,nzShape,h1,Int.reduceLT,Int.reduceEq,List.contains_cons,List.contains_nil,Option.map_some,Option.map_none,reduceIte,reduceCtorEq,Nat.reduceEqDiff,Nat.reduceLT,Nat.reduceBEq,Nat.reduceAdd,Nat.reduceMul,Nat.reduceLeDiff,Nat.reduceSub,Bool.false_eq_true];try rfl) | skip)
  · rcases Bool.eq_false_or_eq_true (decide (16 < p0.Slots)) with h2 | h2
    · refine' (w_regD ?_ ?_ (w_consD rfl ?_ ?_ ?_ (w_consD rfl ?_ ?_ ?_ (w_consD rfl ?_ ?_ ?_ (w_consD rfl ?_ ?_ ?_ (w_consD rfl ?_ ?_ ?_ (w_consD rfl ?_ ?_ ?_ (w_consD rfl ?_ ?_ ?_ (w_consD rfl ?_ ?_ ?_ (w_consD rfl ?_ ?_ ?_ (w_consD rfl ?_ ?_ ?_ (w_consD rfl ?_ ?_ ?_ (w_consD rfl ?_ ?_ ?_ (w_consD rfl ?_ ?_ ?_ (w_consD rfl ?_ ?_ ?_ (w_consD rfl ?_ ?_ ?_ (w_consD rfl ?_ ?_ ?_ (w_consD rfl ?_ ?_ ?_ (w_consD rfl ?_ ?_ ?_ (w_consD rfl ?_ ?_ ?_ (w_barD rfl rfl (w_cons ?_ (w_cons ?_ w_nil)))))))))))))))))))))) ?_)
      all_goals (first | (simp only [nz,rn,nzShape,h1,h2,Int.reduceLT,Int.reduceEq,List.contains_cons,List.contains_nil,Option.map_some,Option.map_none,reduceIte,reduceCtorEq,Nat.reduceEqDiff,Nat.reduceLT,Nat.reduceBEq,Nat.reduceAdd,Nat.reduceMul,Nat.reduceLeDiff,Nat.reduceSub,Bool.false_eq_true];try rfl) | skip)
    · rcases Bool.eq_false_or_eq_true (decide (p0.Mask < 0)) with h3 | h3
      · refine' (w_regD ?_ ?_ (w_consD rfl ?_ ?_ ?_ (w_consD rfl ?_ ?_ ?_ (w_consD rfl ?_ ?_ ?_ (w_consD rfl ?_ ?_ ?_ (w_consD rfl ?_ ?_ ?_ (w_consD rfl ?_ ?_ ?_ (w_consD rfl ?_ ?_ ?_ (w_consD rfl ?_ ?_ ?_ (w_consD rfl ?_ ?_ ?_ (w_consD rfl ?_ ?_ ?_ (w_consD rfl ?_ ?_ ?_ (w_consD rfl ?_ ?_ ?_ (w_consD rfl ?_ ?_ ?_ (w_consD rfl ?_ ?_ ?_ (w_consD rfl ?_ ?_ ?_ (w_consD rfl ?_ ?_ ?_ (w_consD rfl ?_ ?_ ?_ (w_consD rfl ?_ ?_ ?_ (w_consD rfl ?_ ?_ ?_ (w_barD rfl rfl (w_cons ?_ (w_cons ?_ w_nil)))))))))))))))))))))) ?_)
        all_goals (first | (simp only [nz,rn,nzShape,h1,h2,h3,Int.reduceLT,Int.reduceEq,List.contains_cons,List.contains_nil,Option.map_some,Option.map_none,reduceIte,reduceCtorEq,Nat.reduceEqDiff,Nat.reduceLT,Nat.reduceBEq,Nat.reduceAdd,Nat.reduceMul,Nat.reduceLeDiff,Nat.reduceSub,Bool.false_eq_true];try rfl) | skip)
      · refine' (w_regD ?_ ?_ (w_consD rfl ?_ ?_ ?_ (w_consD rfl ?_ ?_ ?_ (w_consD rfl ?_ ?_ ?_ (w_consD rfl ?_ ?_ ?_ (w_consD rfl ?_ ?_ ?_ (w_consD rfl ?_ ?_ ?_ (w_consD rfl ?_ ?_ ?_ (w_consD rfl ?_ ?_ ?_ (w_consD rfl ?_ ?_ ?_ (w_consD rfl ?_ ?_ ?_ (w_consD rfl ?_ ?_ ?_ (w_consD rfl ?_ ?_ ?_ (w_consD rfl ?_ ?_ ?_ (w_consD rfl ?_ ?_ ?_ (w_consD rfl ?_ ?_ ?_ (w_consD rfl ?_ ?_ ?_ (w_consD rfl ?_ ?_ ?_ (w_consD rfl ?_ ?_ ?_ (w_consD rfl ?_ ?_ ?_ (w_barD rfl rfl (w_cons ?_ (w_cons ?_ w_nil)))))))))))))))))))))) ?_)
        all_goals (first | (simp only [nz,rn,nzShape,h1,h2,h3,of_decide_eq_false h1,Int.reduceLT,Int.reduceEq,List.contains_cons,List.contains_nil,Option.map_some,Option.map_none,reduceIte,reduceCtorEq,Nat.reduceEqDiff,Nat.reduceLT,Nat.reduceBEq,Nat.reduceAdd,Nat.reduceMul,Nat.reduceLeDiff,Nat.reduceSub,Bool.false_eq_true];try rfl) | skip)
theorem shape_Check_ok (p0:Shape):Sim (shape_Check p0) fun r=>evI T 97 [.agg [.int .i64 p0.Slots,.int .i64 p0.Mask]]=some (.int .i64 r,[.none]):=by
  unfold shape_Check
  have f5:=shape_Check_j1_ok p0
  refine sim_if (fun h6=>?_) (fun h6=>?_)
  · refine sim_some ?_
    refine evI_ret (x:=x97) rfl rfl rfl ?_
    try simp only [nz,nzShape] at f5
    all_goals
      refine' (w_fn rfl rfl (w_seq (w_reg (w_cons ?_ (w_cons ?_ w_nil)) ?_) (w_go (w_seq (w_seq f5 (w_go (w_condt ?_ (w_seq (w_reg (w_cons ?_ w_nil) ?_) (w_go w_ret)) ?_))) w_gor))) ?_)
      all_goals (first | (simp only [x97,nz,rn,nzShape,h6,Int.reduceLT,Int.reduceEq,List.contains_cons,List.contains_nil,Option.map_some,Option.map_none,reduceIte,reduceCtorEq,Nat.reduceEqDiff,Nat.reduceLT,Nat.reduceBEq,Nat.reduceAdd,Nat.reduceMul,Nat.reduceLeDiff,Nat.reduceSub,Bool.false_eq_true];try rfl) | skip)
  · refine sim_some ?_
    refine evI_ret (x:=x97) rfl rfl rfl ?_
    try simp only [nz,nzShape] at f5
    all_goals
      refine' (w_fn rfl rfl (w_seq (w_reg (w_cons ?_ (w_cons ?_ w_nil)) ?_) (w_go (w_seq (w_seq f5 (w_go (w_condf ?_ w_skip ?_))) (w_go (w_seq (w_reg (w_cons ?_ w_nil) ?_) (w_go w_ret)))))) ?_)
      all_goals (first | (simp only [x97,nz,rn,nzShape,h6,Int.reduceLT,Int.reduceEq,List.contains_cons,List.contains_nil,Option.map_some,Option.map_none,reduceIte,reduceCtorEq,Nat.reduceEqDiff,Nat.reduceLT,Nat.reduceBEq,Nat.reduceAdd,Nat.reduceMul,Nat.reduceLeDiff,Nat.reduceSub,Bool.false_eq_true];try rfl) | skip)
theorem shape_Check_okN (p0:Shape):Sim (shape_Check p0) fun r=>∀ ws,ws.map normA=[.agg [.int .i64 p0.Slots,.int .i64 p0.Mask]]→evI T 97 ws=some (.int .i64 r,[.none]):=fun r h=>evI_okN (x:=x97) rfl rfl rfl (shape_Check_ok p0 r h)
end Go.Ab
namespace Go.Ab
open Go
set_option linter.unusedVariables false
set_option linter.unusedSimpArgs false
set_option maxRecDepth 100000
set_option maxHeartbeats 4000000
theorem shape_Of_j1_ok (p0:Int):evX (evI T) x74_1 [(0,.int .i64 p0),(2,.box [.int .i64 0,.int .i64 0])]=some (.norm,[(0,.int .i64 p0),(2,.box [.int .i64 0,.int .i64 0]),(11,.bool (((decide (p0 < 0)) || (decide (2097152 ≤ p0)))))]):=by
  rcases Bool.eq_false_or_eq_true (decide (p0 < 0)) with h1 | h1
  · refine' (w_reg (w_cons ?_ (w_cons ?_ (w_cons ?_ (w_cons ?_ (w_cons ?_ (w_cons ?_ w_nil)))))) ?_)
    all_goals (first | (simp only [nz,rn,h1,Int.reduceLT,Int.reduceEq,List.contains_cons,List.contains_nil,Option.map_some,Option.map_none,reduceIte,reduceCtorEq,Nat.reduceEqDiff,Nat.reduceLT,Nat.reduceBEq,Nat.reduceAdd,Nat.reduceMul,Nat.reduceLeDiff,Nat.reduceSub,Bool.false_eq_true];try rfl) | skip)
  · refine' (w_reg (w_cons ?_ (w_cons ?_ (w_cons ?_ (w_cons ?_ (w_cons ?_ (w_cons ?_ w_nil)))))) ?_)
    all_goals (first | (simp only [nz,rn,h1,Int.reduceLT,Int.reduceEq,List.contains_cons,List.contains_nil,Option.map_some,Option.map_none,reduceIte,reduceCtorEq,Nat.reduceEqDiff,Nat.reduceLT,Nat.reduceBEq,Nat.reduceAdd,Nat.reduceMul,Nat.reduceLeDiff,Nat.reduceSub,Bool.false_eq_true];try rfl) | skip)
theorem shape_Of_ok (p0:Int):Sim (shape_Of p0) fun r=>evI T 74 [.int .i64 p0]=some (.tup [.agg [.int .i64 r.1.Slots,.int .i64 r.1.Mask],.int .i64 r.2],[.none]):=by
  unfold shape_Of
  have f3:=shape_Of_j1_ok p0
  refine sim_if (fun h4=>?_) (fun h4=>?_)
  · refine sim_some ?_
    refine evI_ret (x:=x74) rfl rfl rfl ?_
    try simp only [nz,nzShape] at f3
    all_goals
      refine' (w_fn rfl rfl (w_seq (w_reg (w_cons ?_ (w_cons ?_ w_nil)) ?_) (w_go (w_seq (w_seq f3 (w_go (w_condt ?_ (w_seq (w_reg (w_cons ?_ (w_cons ?_ (w_cons ?_ w_nil))) ?_) (w_go w_ret)) ?_))) w_gor))) ?_)
      all_goals (first | (simp only [x74,nz,rn,nzShape,h4,Int.reduceLT,Int.reduceEq,List.contains_cons,List.contains_nil,Option.map_some,Option.map_none,reduceIte,reduceCtorEq,Nat.reduceEqDiff,Nat.reduceLT,Nat.reduceBEq,Nat.reduceAdd,Nat.reduceMul,Nat.reduceLeDiff,Nat.reduceSub,Bool.false_eq_true];try rfl) | skip)
  · refine sim_bind (fun r2 h5=>?_)
    have f6:=shape_Check_okN ((⟨bAnd .i64 p0 31,Int.fdiv p0 (2 ^ (min (5:Int).toNat 64))⟩:Shape)) _ h5
    dsimp only at f6
    refine sim_if (fun h7=>?_) (fun h7=>?_)
    · refine sim_some ?_
      refine evI_ret (x:=x74) rfl rfl rfl ?_
      try simp only [nz,nzShape] at f3
      try simp only [nz,nzShape] at f6
      all_goals
        refine' (w_fn rfl rfl (w_seq (w_reg (w_cons ?_ (w_cons ?_ w_nil)) ?_) (w_go (w_seq (w_seq f3 (w_go (w_condf ?_ w_skip ?_))) (w_go (w_seq (w_reg (w_cons ?_ (w_cons ?_ (w_cons ?_ (w_cons ?_ (w_cons ?_ (w_cons ?_ (w_cons ?_ w_nil))))))) ?_) (w_go (w_seq (w_seq (w_reg (w_cons ?_ (w_cons ?_ (w_cons ?_ w_nil))) ?_) (w_go (w_seq (w_reg (w_cons ?_ (w_cons ?_ w_nil)) ?_) (w_go (w_condt ?_ (w_seq (w_reg (w_cons ?_ (w_cons ?_ (w_cons ?_ (w_cons ?_ w_nil)))) ?_) (w_go w_ret)) ?_))))) w_gor))))))) ?_)
        all_goals (first | (simp only [x74,nz,rn,nzShape,h4,f6,h7,Int.reduceLT,Int.reduceEq,List.contains_cons,List.contains_nil,Option.map_some,Option.map_none,reduceIte,reduceCtorEq,Nat.reduceEqDiff,Nat.reduceLT,Nat.reduceBEq,Nat.reduceAdd,Nat.reduceMul,Nat.reduceLeDiff,Nat.reduceSub,Bool.false_eq_true];try rfl) | skip)
    · refine sim_some ?_
      refine evI_ret (x:=x74) rfl rfl rfl ?_
      try simp only [nz,nzShape] at f3
      try simp only [nz,nzShape] at f6
      all_goals
        refine' (w_fn rfl rfl (w_seq (w_reg (w_cons ?_ (w_cons ?_ w_nil)) ?_) (w_go (w_seq (w_seq f3 (w_go (w_condf ?_ w_skip ?_))) (w_go (w_seq (w_reg (w_cons ?_ (w_cons ?_ (w_cons ?_ (w_cons ?_ (w_cons ?_ (w_cons ?_ (w_cons ?_ w_nil))))))) ?_) (w_go (w_seq (w_seq (w_reg (w_cons ?_ (w_cons ?_ (w_cons ?_ w_nil))) ?_) (w_go (w_seq (w_reg (w_cons ?_ (w_cons ?_ w_nil)) ?_) (w_go (w_condf ?_ w_skip ?_))))) (w_go (w_seq (w_reg (w_cons ?_ (w_cons ?_ (w_cons ?_ w_nil))) ?_) (w_go w_ret)))))))))) ?_)
        all_goals (first | (simp only [x74,nz,rn,nzShape,h4,f6,h7,Int.reduceLT,Int.reduceEq,List.contains_cons,List.contains_nil,Option.map_some,Option.map_none,reduceIte,reduceCtorEq,Nat.reduceEqDiff,Nat.reduceLT,Nat.reduceBEq,Nat.reduceAdd,Nat.reduceMul,Nat.reduceLeDiff,Nat.reduceSub,Bool.false_eq_true];try rfl) | skip)
end Go.Ab
namespace Go.Ab
open Go
set_option linter.unusedVariables false
set_option linter.unusedSimpArgs false
set_option maxRecDepth 100000
set_option maxHeartbeats 4000000
theorem shape_Head_ok (p0:Shape):Sim (shape_Head p0) fun r=>evI T 113 [.agg [.int .i64 p0.Slots,.int .i64 p0.Mask]]=some (.int .i64 r,[.none]):=by
  unfold shape_Head
  refine sim_some ?_
  refine evI_ret (x:=x113) rfl rfl rfl ?_
  refine' (w_fn rfl rfl (w_seq (w_reg (w_cons ?_ (w_cons ?_ w_nil)) ?_) (w_go (w_seq (w_reg (w_cons ?_ (w_cons ?_ (w_cons ?_ (w_cons ?_ (w_cons ?_ (w_cons ?_ (w_cons ?_ w_nil))))))) ?_) (w_go w_ret)))) ?_)
  all_goals (first | (simp only [x113,nz,rn,nzShape,Int.reduceLT,Int.reduceEq,List.contains_cons,List.contains_nil,Option.map_some,Option.map_none,reduceIte,reduceCtorEq,Nat.reduceEqDiff,Nat.reduceLT,Nat.reduceBEq,Nat.reduceAdd,Nat.reduceMul,Nat.reduceLeDiff,Nat.reduceSub,Bool.false_eq_true];try rfl) | skip)
end Go.Ab
namespace Go.Ab
open Go
set_option linter.unusedVariables false
set_option linter.unusedSimpArgs false
set_option maxRecDepth 100000
set_option maxHeartbeats 4000000
theorem shape_bits_ok:Sim (shape_bits) fun r=>evI T 120 []=some (.agg (r.flatMap (cint .i64)),[]):=by
  unfold shape_bits
  refine sim_some ?_
  refine evI_ret (x:=x120) rfl rfl rfl ?_
  refine' (w_fn rfl rfl (w_seq (w_reg (w_cons ?_ w_nil) ?_) (w_go (w_seq (w_reg (w_cons ?_ (w_cons ?_ w_nil)) ?_) (w_go w_ret)))) ?_)
  all_goals (first | (simp only [x120,nz,rn,Int.reduceLT,Int.reduceEq,List.contains_cons,List.contains_nil,Option.map_some,Option.map_none,reduceIte,reduceCtorEq,Nat.reduceEqDiff,Nat.reduceLT,Nat.reduceBEq,Nat.reduceAdd,Nat.reduceMul,Nat.reduceLeDiff,Nat.reduceSub,Bool.false_eq_true];try rfl) | skip)
theorem shape_bits_okN:Sim (shape_bits) fun r=>∀ ws,ws.map normA=[]→evI T 120 ws=some (.agg (r.flatMap (cint .i64)),[]):=fun r h=>evI_okN (x:=x120) rfl rfl rfl (shape_bits_ok r h)
end Go.Ab
namespace Go.Ab
open Go
set_option linter.unusedVariables false
set_option linter.unusedSimpArgs false
set_option maxRecDepth 100000
set_option maxHeartbeats 4000000
theorem shape_Pointer_j1_ok (p0:Shape) (p1:Int):Sim (shape_Pointer_j1 p0 p1) fun r=>evX (evI T) x98_1 [(1,.int .i64 p1),(2,.box [.int .i64 p0.Slots,.int .i64 p0.Mask])]=some (.norm,[(4,.bool r)]):=by
  unfold shape_Pointer_j1
  refine sim_if (fun h1=>?_) (fun h1=>?_)
  · refine sim_if (fun h2=>?_) (fun h2=>?_)
    · refine sim_bind (fun r1 h3=>?_)
      have f4:=shape_bits_okN  _ h3
      dsimp only at f4
      refine sim_bind (fun x_2 h5=>?_)
      have f6:=ixa_ok h5
      have f6a:=ixa_int (kd:=.i64) h5
      have f6b:=ixa_le h5
      refine sim_some ?_
      try simp only [nz,nzShape] at f4
      all_goals
        refine' (w_regD ?_ ?_ (w_consD rfl ?_ ?_ ?_ (w_consD rfl ?_ ?_ ?_ (w_consD rfl ?_ ?_ ?_ (w_consD rfl ?_ ?_ ?_ (w_consD rfl ?_ ?_ ?_ (w_consD rfl ?_ ?_ ?_ (w_consD rfl ?_ ?_ ?_ (w_consD rfl ?_ ?_ ?_ (w_consD rfl ?_ ?_ ?_ (w_consD rfl ?_ ?_ ?_ (w_consD rfl ?_ ?_ ?_ (w_consD rfl ?_ ?_ ?_ (w_consD rfl ?_ ?_ ?_ (w_consD rfl ?_ ?_ ?_ (w_barD rfl rfl (w_cons ?_ (w_cons ?_ (w_cons ?_ (w_cons ?_ w_nil))))))))))))))))))) ?_)
        all_goals (first | (simp only [nz,rn,nzShape,h1,h2,f4,f6,f6a,f6b,Int.reduceLT,Int.reduceEq,List.contains_cons,List.contains_nil,Option.map_some,Option.map_none,reduceIte,reduceCtorEq,Nat.reduceEqDiff,Nat.reduceLT,Nat.reduceBEq,Nat.reduceAdd,Nat.reduceMul,Nat.reduceLeDiff,Nat.reduceSub,Bool.false_eq_true];try rfl) | skip)
    · refine sim_some ?_
      refine' (w_regD ?_ ?_ (w_consD rfl ?_ ?_ ?_ (w_consD rfl ?_ ?_ ?_ (w_consD rfl ?_ ?_ ?_ (w_consD rfl ?_ ?_ ?_ (w_consD rfl ?_ ?_ ?_ (w_consD rfl ?_ ?_ ?_ (w_consD rfl ?_ ?_ ?_ (w_consD rfl ?_ ?_ ?_ (w_consD rfl ?_ ?_ ?_ (w_consD rfl ?_ ?_ ?_ (w_consD rfl ?_ ?_ ?_ (w_consD rfl ?_ ?_ ?_ (w_consD rfl ?_ ?_ ?_ (w_consD rfl ?_ ?_ ?_ (w_barD rfl rfl (w_cons ?_ (w_cons ?_ (w_cons ?_ (w_cons ?_ w_nil))))))))))))))))))) ?_)
      all_goals (first | (simp only [nz,rn,nzShape,h1,h2,Int.reduceLT,Int.reduceEq,List.contains_cons,List.contains_nil,Option.map_some,Option.map_none,reduceIte,reduceCtorEq,Nat.reduceEqDiff,Nat.reduceLT,Nat.reduceBEq,Nat.reduceAdd,Nat.reduceMul,Nat.reduceLeDiff,Nat.reduceSub,Bool.false_eq_true];try rfl) | skip)
  · refine sim_some ?_
    refine' (w_regD ?_ ?_ (w_consD rfl ?_ ?_ ?_ (w_consD rfl ?_ ?_ ?_ (w_consD rfl ?_ ?_ ?_ (w_consD rfl ?_ ?_ ?_ (w_consD rfl ?_ ?_ ?_ (w_consD rfl ?_ ?_ ?_ (w_consD rfl ?_ ?_ ?_ (w_consD rfl ?_ ?_ ?_ (w_consD rfl ?_ ?_ ?_ (w_consD rfl ?_ ?_ ?_ (w_consD rfl ?_ ?_ ?_ (w_consD rfl ?_ ?_ ?_ (w_consD rfl ?_ ?_ ?_ (w_consD rfl ?_ ?_ ?_ (w_barD rfl rfl (w_cons ?_ (w_cons ?_ (w_cons ?_ (w_cons ?_ w_nil))))))))))))))))))) ?_)
    all_goals (first | (simp only [nz,rn,nzShape,h1,Int.reduceLT,Int.reduceEq,List.contains_cons,List.contains_nil,Option.map_some,Option.map_none,reduceIte,reduceCtorEq,Nat.reduceEqDiff,Nat.reduceLT,Nat.reduceBEq,Nat.reduceAdd,Nat.reduceMul,Nat.reduceLeDiff,Nat.reduceSub,Bool.false_eq_true];try rfl) | skip)
theorem shape_Pointer_ok (p0:Shape) (p1:Int):Sim (shape_Pointer p0 p1) fun r=>evI T 98 [.agg [.int .i64 p0.Slots,.int .i64 p0.Mask],.int .i64 p1]=some (.bool r,[.none,.none]):=by
  unfold shape_Pointer
  refine sim_bind (fun v3 h7=>?_)
  have f8:=shape_Pointer_j1_ok p0 p1 _ h7
  dsimp only at f8
  refine sim_some ?_
  refine evI_ret (x:=x98) rfl rfl rfl ?_
  try simp only [nz,nzShape] at f8
  all_goals
    refine' (w_fn rfl rfl (w_seq (w_reg (w_cons ?_ (w_cons ?_ w_nil)) ?_) (w_go (w_seq f8 (w_go w_ret)))) ?_)
    all_goals (first | (simp only [x98,nz,rn,nzShape,Int.reduceLT,Int.reduceEq,List.contains_cons,List.contains_nil,Option.map_some,Option.map_none,reduceIte,reduceCtorEq,Nat.reduceEqDiff,Nat.reduceLT,Nat.reduceBEq,Nat.reduceAdd,Nat.reduceMul,Nat.reduceLeDiff,Nat.reduceSub,Bool.false_eq_true];try rfl) | skip)
end Go.Ab
namespace Go.Ab
open Go
set_option linter.unusedVariables false
set_option linter.unusedSimpArgs false
set_option maxRecDepth 100000
set_option maxHeartbeats 4000000
theorem r26_Find_l1_bok (p0:List r26_Object) (p1:Int) (i1:Int):Sim (r26_Find_l1_b p0 p1 i1) fun x=>fgt [0,1,5] (evX (evI T) x21_1 [(0,.sl p0.length (p0.flatMap cr26_Object)),(1,.int .i64 p1),(5,.int .i64 i1)])=some (stpK (fun s=>(.norm,[(0,.sl p0.length (p0.flatMap cr26_Object)),(1,.int .i64 p1),(5,.int .i64 s)])) (fun r=>(stpK (fun t0=>(.exit 0,[])) (fun u0=>(.ret,[(4,.int .i64 u0)])) r)) x):=by
  unfold r26_Find_l1_b
  refine sim_if (fun h1=>?_) (fun h1=>?_)
  · refine sim_bind (fun x_2 h2=>?_)
    have f3:=ix_ok h2
    have f3o:=ix_own2 h2
    have f4:=ix_cells szr26_Object h2
    simp only [nz,nzr26_Object] at f4
    refine sim_if (fun h5=>?_) (fun h5=>?_)
    · refine sim_some ?_
      refine' (w_fgt (w_seq (w_seq (w_reg (w_cons ?_ (w_cons ?_ w_nil)) ?_) (w_go (w_condt ?_ w_skip ?_))) (w_go (w_seq (w_block (w_seq (w_reg (w_cons ?_ (w_cons ?_ (w_cons ?_ (w_cons ?_ (w_cons ?_ (w_cons ?_ (w_cons ?_ w_nil))))))) ?_) (w_go (w_condt ?_ (w_seq (w_reg (w_cons ?_ (w_cons ?_ w_nil)) ?_) (w_go w_ret)) ?_))) ?_) w_gor))) ?_)
      all_goals (first | (simp only [nz,rn,nzr26_Object,h1,f3,f3o,f4,h5,Int.reduceLT,Int.reduceEq,List.contains_cons,List.contains_nil,Option.map_some,Option.map_none,reduceIte,reduceCtorEq,Nat.reduceEqDiff,Nat.reduceLT,Nat.reduceBEq,Nat.reduceAdd,Nat.reduceMul,Nat.reduceLeDiff,Nat.reduceSub,Bool.false_eq_true];try rfl) | skip)
    · refine sim_some ?_
      refine' (w_fgt (w_seq (w_seq (w_reg (w_cons ?_ (w_cons ?_ w_nil)) ?_) (w_go (w_condt ?_ w_skip ?_))) (w_go (w_seq (w_block (w_seq (w_reg (w_cons ?_ (w_cons ?_ (w_cons ?_ (w_cons ?_ (w_cons ?_ (w_cons ?_ (w_cons ?_ w_nil))))))) ?_) (w_go (w_condf ?_ w_skip ?_))) ?_) (w_go (w_reg (w_cons ?_ (w_cons ?_ (w_cons ?_ w_nil))) ?_))))) ?_)
      all_goals (first | (simp only [nz,rn,nzr26_Object,h1,f3,f3o,f4,h5,Int.reduceLT,Int.reduceEq,List.contains_cons,List.contains_nil,Option.map_some,Option.map_none,reduceIte,reduceCtorEq,Nat.reduceEqDiff,Nat.reduceLT,Nat.reduceBEq,Nat.reduceAdd,Nat.reduceMul,Nat.reduceLeDiff,Nat.reduceSub,Bool.false_eq_true];try rfl) | skip)
  · refine sim_some ?_
    refine' (w_fgt (w_seq (w_seq (w_reg (w_cons ?_ (w_cons ?_ w_nil)) ?_) (w_go (w_condf ?_ (w_exit ?_) ?_))) w_gox) ?_)
    all_goals (first | (simp only [nz,rn,nzr26_Object,h1,Int.reduceLT,Int.reduceEq,List.contains_cons,List.contains_nil,Option.map_some,Option.map_none,reduceIte,reduceCtorEq,Nat.reduceEqDiff,Nat.reduceLT,Nat.reduceBEq,Nat.reduceAdd,Nat.reduceMul,Nat.reduceLeDiff,Nat.reduceSub,Bool.false_eq_true];try rfl) | skip)
theorem r26_Find_l1_ok (p0:List r26_Object) (p1:Int) (s:Int):Sim (r26_Find_l1 p0 p1 s) fun r=>evX (evI T) (.loop x21_1 [0,1,5]) [(0,.sl p0.length (p0.flatMap cr26_Object)),(1,.int .i64 p1),(5,.int .i64 s)]=some (stpK (fun t0=>(.exit 0,[])) (fun u0=>(.ret,[(4,.int .i64 u0)])) r):=by
  unfold r26_Find_l1
  exact loop_rule (C:=evI T) (b:=x21_1) (ks:=[0,1,5]) (σ:=Int) (ρ:=Stp Unit Int) (body:=fun s=>r26_Find_l1_b p0 p1 s) (E:=fun s=>[(0,.sl p0.length (p0.flatMap cr26_Object)),(1,.int .i64 p1),(5,.int .i64 s)]) (R:=fun r=>(stpK (fun t0=>(.exit 0,[])) (fun u0=>(.ret,[(4,.int .i64 u0)])) r)) (fun r h=>by rcases r with _ | _ <;> cases h) (fun s=>r26_Find_l1_bok p0 p1 s) s
theorem r26_Find_ok (p0:List r26_Object) (p1:Int):Sim (r26_Find p0 p1) fun r=>evI T 21 [.sl p0.length (p0.flatMap cr26_Object),.int .i64 p1]=some (.int .i64 r,[.none,.none]):=by
  unfold r26_Find
  refine sim_bind (fun qh6 h6=>?_)
  rcases qh6 with ⟨_⟩ | ⟨v3⟩
  · dsimp only
    have f7:=r26_Find_l1_ok p0 p1 (IntKind.wrap .i64 (((p0.length:Int)) - 1)) _ h6
    dsimp only at f7
    refine sim_some ?_
    refine evI_ret (x:=x21) rfl rfl rfl ?_
    try simp only [nz,nzr26_Object] at f7
    all_goals
      refine' (w_fn rfl rfl (w_seq (w_reg (w_cons ?_ w_nil) ?_) (w_go (w_seq (w_seq (w_reg (w_cons ?_ (w_cons ?_ (w_cons ?_ (w_cons ?_ w_nil)))) ?_) (w_go (w_block f7 ?_))) (w_go (w_seq (w_reg (w_cons ?_ w_nil) ?_) (w_go w_ret)))))) ?_)
      all_goals (first | (simp only [x21,nz,rn,nzr26_Object,Int.reduceLT,Int.reduceEq,List.contains_cons,List.contains_nil,Option.map_some,Option.map_none,reduceIte,reduceCtorEq,Nat.reduceEqDiff,Nat.reduceLT,Nat.reduceBEq,Nat.reduceAdd,Nat.reduceMul,Nat.reduceLeDiff,Nat.reduceSub,Bool.false_eq_true];try rfl) | skip)
  · dsimp only
    have f7:=r26_Find_l1_ok p0 p1 (IntKind.wrap .i64 (((p0.length:Int)) - 1)) _ h6
    dsimp only at f7
    refine sim_some ?_
    refine evI_ret (x:=x21) rfl rfl rfl ?_
    try simp only [nz,nzr26_Object] at f7
    all_goals
      refine' (w_fn rfl rfl (w_seq (w_reg (w_cons ?_ w_nil) ?_) (w_go (w_seq (w_seq (w_reg (w_cons ?_ (w_cons ?_ (w_cons ?_ (w_cons ?_ w_nil)))) ?_) (w_go (w_block f7 ?_))) w_gor))) ?_)
      all_goals (first | (simp only [x21,nz,rn,nzr26_Object,Int.reduceLT,Int.reduceEq,List.contains_cons,List.contains_nil,Option.map_some,Option.map_none,reduceIte,reduceCtorEq,Nat.reduceEqDiff,Nat.reduceLT,Nat.reduceBEq,Nat.reduceAdd,Nat.reduceMul,Nat.reduceLeDiff,Nat.reduceSub,Bool.false_eq_true];try rfl) | skip)
end Go.Ab
namespace Go.Ab
open Go
set_option linter.unusedVariables false
set_option linter.unusedSimpArgs false
set_option maxRecDepth 100000
set_option maxHeartbeats 4000000
end Go.Ab
namespace Go.Ab
open Go
set_option linter.unusedVariables false
set_option linter.unusedSimpArgs false
set_option maxRecDepth 100000
set_option maxHeartbeats 4000000
end Go.Ab
namespace Go.Ab
open Go
set_option linter.unusedVariables false
set_option linter.unusedSimpArgs false
set_option maxRecDepth 100000
set_option maxHeartbeats 4000000
end Go.Ab
namespace Go.Ab
open Go
set_option linter.unusedVariables false
set_option linter.unusedSimpArgs false
set_option maxRecDepth 100000
set_option maxHeartbeats 4000000
end Go.Ab
namespace Go.Ab
open Go
set_option linter.unusedVariables false
set_option linter.unusedSimpArgs false
set_option maxRecDepth 100000
set_option maxHeartbeats 4000000
end Go.Ab
namespace Go.Ab
open Go
set_option linter.unusedVariables false
set_option linter.unusedSimpArgs false
set_option maxRecDepth 100000
set_option maxHeartbeats 4000000
theorem r08_Has_l1_bok (p0:List Int) (p1:Int) (i1:Int):Sim (r08_Has_l1_b p0 p1 i1) fun x=>fgt [0,1,5] (evX (evI T) x19_1 [(0,.sl p0.length (p0.flatMap (cint .i64))),(1,.int .i64 p1),(5,.int .i64 i1)])=some (stpK (fun s=>(.norm,[(0,.sl p0.length (p0.flatMap (cint .i64))),(1,.int .i64 p1),(5,.int .i64 s)])) (fun r=>(stpK (fun t0=>(.exit 0,[])) (fun u0=>(.ret,[(4,.bool true)])) r)) x):=by
  unfold r08_Has_l1_b
  refine sim_if (fun h1=>?_) (fun h1=>?_)
  · refine sim_bind (fun x_2 h2=>?_)
    have f3:=ix_ok h2
    have f3o:=ix_own2 h2
    have f4:=ix_cells (sz_int .i64) h2
    simp only [nz] at f4
    refine sim_if (fun h5=>?_) (fun h5=>?_)
    · refine sim_some ?_
      refine' (w_fgt (w_seq (w_seq (w_reg (w_cons ?_ (w_cons ?_ (w_cons ?_ (w_cons ?_ w_nil)))) ?_) (w_go (w_condt ?_ w_skip ?_))) (w_go (w_seq (w_block (w_seq (w_reg (w_cons ?_ (w_cons ?_ (w_cons ?_ (w_cons ?_ (w_cons ?_ (w_cons ?_ w_nil)))))) ?_) (w_go (w_condt ?_ (w_seq (w_reg (w_cons ?_ w_nil) ?_) (w_go w_ret)) ?_))) ?_) w_gor))) ?_)
      all_goals (first | (simp only [nz,rn,h1,f3,f3o,f4,h5,Int.reduceLT,Int.reduceEq,List.contains_cons,List.contains_nil,Option.map_some,Option.map_none,reduceIte,reduceCtorEq,Nat.reduceEqDiff,Nat.reduceLT,Nat.reduceBEq,Nat.reduceAdd,Nat.reduceMul,Nat.reduceLeDiff,Nat.reduceSub,Bool.false_eq_true];try rfl) | skip)
    · refine sim_some ?_
      refine' (w_fgt (w_seq (w_seq (w_reg (w_cons ?_ (w_cons ?_ (w_cons ?_ (w_cons ?_ w_nil)))) ?_) (w_go (w_condt ?_ w_skip ?_))) (w_go (w_seq (w_block (w_seq (w_reg (w_cons ?_ (w_cons ?_ (w_cons ?_ (w_cons ?_ (w_cons ?_ (w_cons ?_ w_nil)))))) ?_) (w_go (w_condf ?_ w_skip ?_))) ?_) (w_go (w_reg (w_cons ?_ (w_cons ?_ (w_cons ?_ w_nil))) ?_))))) ?_)
      all_goals (first | (simp only [nz,rn,h1,f3,f3o,f4,h5,Int.reduceLT,Int.reduceEq,List.contains_cons,List.contains_nil,Option.map_some,Option.map_none,reduceIte,reduceCtorEq,Nat.reduceEqDiff,Nat.reduceLT,Nat.reduceBEq,Nat.reduceAdd,Nat.reduceMul,Nat.reduceLeDiff,Nat.reduceSub,Bool.false_eq_true];try rfl) | skip)
  · refine sim_some ?_
    refine' (w_fgt (w_seq (w_seq (w_reg (w_cons ?_ (w_cons ?_ (w_cons ?_ (w_cons ?_ w_nil)))) ?_) (w_go (w_condf ?_ (w_exit ?_) ?_))) w_gox) ?_)
    all_goals (first | (simp only [nz,rn,h1,Int.reduceLT,Int.reduceEq,List.contains_cons,List.contains_nil,Option.map_some,Option.map_none,reduceIte,reduceCtorEq,Nat.reduceEqDiff,Nat.reduceLT,Nat.reduceBEq,Nat.reduceAdd,Nat.reduceMul,Nat.reduceLeDiff,Nat.reduceSub,Bool.false_eq_true];try rfl) | skip)
theorem r08_Has_l1_ok (p0:List Int) (p1:Int) (s:Int):Sim (r08_Has_l1 p0 p1 s) fun r=>evX (evI T) (.loop x19_1 [0,1,5]) [(0,.sl p0.length (p0.flatMap (cint .i64))),(1,.int .i64 p1),(5,.int .i64 s)]=some (stpK (fun t0=>(.exit 0,[])) (fun u0=>(.ret,[(4,.bool true)])) r):=by
  unfold r08_Has_l1
  exact loop_rule (C:=evI T) (b:=x19_1) (ks:=[0,1,5]) (σ:=Int) (ρ:=Stp Unit Unit) (body:=fun s=>r08_Has_l1_b p0 p1 s) (E:=fun s=>[(0,.sl p0.length (p0.flatMap (cint .i64))),(1,.int .i64 p1),(5,.int .i64 s)]) (R:=fun r=>(stpK (fun t0=>(.exit 0,[])) (fun u0=>(.ret,[(4,.bool true)])) r)) (fun r h=>by rcases r with _ | _ <;> cases h) (fun s=>r08_Has_l1_bok p0 p1 s) s
theorem r08_Has_ok (p0:List Int) (p1:Int):Sim (r08_Has p0 p1) fun r=>evI T 19 [.sl p0.length (p0.flatMap (cint .i64)),.int .i64 p1]=some (.bool r,[.none,.none]):=by
  unfold r08_Has
  refine sim_bind (fun qh6 h6=>?_)
  rcases qh6 with ⟨_⟩ | ⟨_⟩
  · dsimp only
    have f7:=r08_Has_l1_ok p0 p1 0 _ h6
    dsimp only at f7
    refine sim_some ?_
    refine evI_ret (x:=x19) rfl rfl rfl ?_
    try simp only [nz] at f7
    all_goals
      refine' (w_fn rfl rfl (w_seq (w_reg (w_cons ?_ w_nil) ?_) (w_go (w_seq (w_seq (w_reg (w_cons ?_ w_nil) ?_) (w_go (w_block f7 ?_))) (w_go (w_seq (w_reg (w_cons ?_ w_nil) ?_) (w_go w_ret)))))) ?_)
      all_goals (first | (simp only [x19,nz,rn,Int.reduceLT,Int.reduceEq,List.contains_cons,List.contains_nil,Option.map_some,Option.map_none,reduceIte,reduceCtorEq,Nat.reduceEqDiff,Nat.reduceLT,Nat.reduceBEq,Nat.reduceAdd,Nat.reduceMul,Nat.reduceLeDiff,Nat.reduceSub,Bool.false_eq_true];try rfl) | skip)
  · dsimp only
    have f7:=r08_Has_l1_ok p0 p1 0 _ h6
    dsimp only at f7
    refine sim_some ?_
    refine evI_ret (x:=x19) rfl rfl rfl ?_
    try simp only [nz] at f7
    all_goals
      refine' (w_fn rfl rfl (w_seq (w_reg (w_cons ?_ w_nil) ?_) (w_go (w_seq (w_seq (w_reg (w_cons ?_ w_nil) ?_) (w_go (w_block f7 ?_))) w_gor))) ?_)
      all_goals (first | (simp only [x19,nz,rn,Int.reduceLT,Int.reduceEq,List.contains_cons,List.contains_nil,Option.map_some,Option.map_none,reduceIte,reduceCtorEq,Nat.reduceEqDiff,Nat.reduceLT,Nat.reduceBEq,Nat.reduceAdd,Nat.reduceMul,Nat.reduceLeDiff,Nat.reduceSub,Bool.false_eq_true];try rfl) | skip)
end Go.Ab
namespace Go.Ab
open Go
set_option linter.unusedVariables false
set_option linter.unusedSimpArgs false
set_option maxRecDepth 100000
set_option maxHeartbeats 4000000
end Go.Ab
namespace Go.Ab
open Go
set_option linter.unusedVariables false
set_option linter.unusedSimpArgs false
set_option maxRecDepth 100000
set_option maxHeartbeats 4000000
end Go.Ab
namespace Go.Ab
open Go
set_option linter.unusedVariables false
set_option linter.unusedSimpArgs false
set_option maxRecDepth 100000
set_option maxHeartbeats 4000000
theorem l26_roots_j4_ok (p0:List r26_Object) (p1:List Int) (out1:List Int) (i2:Int) (x_3:Int):Sim (l26_roots_j4 p0 p1 out1 i2 x_3) fun r=>evX (evI T) x17_1 [(0,.sl p0.length (p0.flatMap cr26_Object)),(1,.sl p1.length (p1.flatMap (cint .u8))),(5,mkOwn 1 out1.length (out1.flatMap (cint .i64))),(6,.int .i64 i2),(7,.int .i64 (Int.tmod (IntKind.wrap .i64 x_3) (IntKind.wrap .i64 (((p0.length:Int)) + 1)))),(26,.bool (decide ((Int.tmod (IntKind.wrap .i64 x_3) (IntKind.wrap .i64 (((p0.length:Int)) + 1))) < ((p0.length:Int)))))]=some (.norm,[(0,.sl p0.length (p0.flatMap cr26_Object)),(1,.sl p1.length (p1.flatMap (cint .u8))),(5,mkOwn 1 r.length (r.flatMap (cint .i64))),(6,.int .i64 i2)]):=by
  unfold l26_roots_j4
  refine sim_if (fun h6=>?_) (fun h6=>?_)
  · refine sim_bind (fun x_4 h7=>?_)
    have f8:=ix_ok h7
    have f8o:=ix_own2 h7
    have f9:=ix_cells szr26_Object h7
    simp only [nz,nzr26_Object] at f9
    refine sim_bind (fun l_5 h10=>?_)
    have f11:=app1_cond h10
    try simp only [nz,Nat.reduceLeDiff,Nat.reduceAdd,Nat.reduceMul,Nat.reduceSub] at f11
    have f11a:PV.own 1 (out1.length + 1) (out1.flatMap (cint .i64) ++ [.int .i64 x_4.At]) = .own 1 l_5.length (l_5.flatMap (cint .i64)):=app1_own h10 (cint .i64) 1
    have f11o:=app1_own2 h10
    refine sim_some ?_
    rcases own_cases out1 with rfl | o_out1
    · obtain rfl:=app_eq h10
      refine' (w_condt ?_ (w_reg (w_cons ?_ (w_cons ?_ (w_cons ?_ (w_cons ?_ (w_cons ?_ (w_cons ?_ (w_cons ?_ (w_cons ?_ (w_cons ?_ w_nil))))))))) ?_) ?_)
      all_goals (first | (simp only [nz,rn,nzr26_Object,h6,f8,f8o,f9,Int.reduceLT,Int.reduceEq,List.contains_cons,List.contains_nil,Option.map_some,Option.map_none,reduceIte,reduceCtorEq,Nat.reduceEqDiff,Nat.reduceLT,Nat.reduceBEq,Nat.reduceAdd,Nat.reduceMul,Nat.reduceLeDiff,Nat.reduceSub,Bool.false_eq_true];try rfl) | skip)
    · refine' (w_condt ?_ (w_reg (w_cons ?_ (w_cons ?_ (w_cons ?_ (w_cons ?_ (w_cons ?_ (w_cons ?_ (w_cons ?_ (w_cons ?_ (w_cons ?_ w_nil))))))))) ?_) ?_)
      all_goals (first | (simp only [nz,rn,nzr26_Object,h6,f8,f8o,f9,f11,f11a,f11o,o_out1,Int.reduceLT,Int.reduceEq,List.contains_cons,List.contains_nil,Option.map_some,Option.map_none,reduceIte,reduceCtorEq,Nat.reduceEqDiff,Nat.reduceLT,Nat.reduceBEq,Nat.reduceAdd,Nat.reduceMul,Nat.reduceLeDiff,Nat.reduceSub,Bool.false_eq_true];try rfl) | skip)
  · refine sim_bind (fun l_6 h12=>?_)
    have f13:=app1_cond h12
    try simp only [nz,Nat.reduceLeDiff,Nat.reduceAdd,Nat.reduceMul,Nat.reduceSub] at f13
    have f13a:PV.own 1 (out1.length + 1) (out1.flatMap (cint .i64) ++ [.int .i64 0]) = .own 1 l_6.length (l_6.flatMap (cint .i64)):=app1_own h12 (cint .i64) 1
    have f13o:=app1_own2 h12
    refine sim_some ?_
    rcases own_cases out1 with rfl | o_out1
    · obtain rfl:=app_eq h12
      refine' (w_condf ?_ (w_reg (w_cons ?_ (w_cons ?_ (w_cons ?_ (w_cons ?_ w_nil)))) ?_) ?_)
      all_goals (first | (simp only [nz,rn,nzr26_Object,h6,Int.reduceLT,Int.reduceEq,List.contains_cons,List.contains_nil,Option.map_some,Option.map_none,reduceIte,reduceCtorEq,Nat.reduceEqDiff,Nat.reduceLT,Nat.reduceBEq,Nat.reduceAdd,Nat.reduceMul,Nat.reduceLeDiff,Nat.reduceSub,Bool.false_eq_true];try rfl) | skip)
    · refine' (w_condf ?_ (w_reg (w_cons ?_ (w_cons ?_ (w_cons ?_ (w_cons ?_ w_nil)))) ?_) ?_)
      all_goals (first | (simp only [nz,rn,nzr26_Object,h6,f13,f13a,f13o,o_out1,Int.reduceLT,Int.reduceEq,List.contains_cons,List.contains_nil,Option.map_some,Option.map_none,reduceIte,reduceCtorEq,Nat.reduceEqDiff,Nat.reduceLT,Nat.reduceBEq,Nat.reduceAdd,Nat.reduceMul,Nat.reduceLeDiff,Nat.reduceSub,Bool.false_eq_true];try rfl) | skip)
theorem l26_roots_l5_bok (p0:List r26_Object) (p1:List Int) (out1:List Int) (i2:Int):Sim (l26_roots_l5_b p0 p1 out1 i2) fun x=>fgt [0,1,5,6] (evX (evI T) x17_2 [(0,.sl p0.length (p0.flatMap cr26_Object)),(1,.sl p1.length (p1.flatMap (cint .u8))),(5,mkOwn 1 out1.length (out1.flatMap (cint .i64))),(6,.int .i64 i2)])=some (stpK (fun s=>(.norm,[(0,.sl p0.length (p0.flatMap cr26_Object)),(1,.sl p1.length (p1.flatMap (cint .u8))),(5,mkOwn 1 s.1.length (s.1.flatMap (cint .i64))),(6,.int .i64 s.2)])) (fun r=>(.exit 0,[(5,mkOwn 1 r.length (r.flatMap (cint .i64)))])) x):=by
  unfold l26_roots_l5_b
  refine sim_if (fun h1=>?_) (fun h1=>?_)
  · refine sim_bind (fun x_3 h2=>?_)
    have f3:=ix_ok h2
    have f3o:=ix_own2 h2
    have f4:=ix_cells (sz_int .u8) h2
    simp only [nz,nzr26_Object] at f4
    refine sim_if (fun h5=>?_) (fun h5=>?_)
    · exact sim_none
    · refine sim_bind (fun out7 h14=>?_)
      have f15:=l26_roots_j4_ok p0 p1 out1 i2 x_3 _ h14
      dsimp only at f15
      refine sim_some ?_
      try simp only [nz,nzr26_Object,f3o] at f15
      all_goals
        refine' (w_fgt (w_seq (w_seq (w_reg (w_cons ?_ (w_cons ?_ (w_cons ?_ (w_cons ?_ w_nil)))) ?_) (w_go (w_condt ?_ w_skip ?_))) (w_go (w_seq (w_block (w_seq (w_reg (w_cons ?_ (w_cons ?_ (w_cons ?_ (w_cons ?_ (w_cons ?_ (w_cons ?_ (w_cons ?_ (w_cons ?_ (w_cons ?_ (w_cons ?_ w_nil)))))))))) ?_) (w_go (w_seq (w_reg (w_cons ?_ (w_cons ?_ (w_cons ?_ (w_cons ?_ w_nil)))) ?_) (w_go f15)))) ?_) (w_go (w_reg (w_cons ?_ (w_cons ?_ (w_cons ?_ w_nil))) ?_))))) ?_)
        all_goals (first | (simp only [nz,rn,nzr26_Object,h1,f3,f3o,f4,of_decide_eq_false h5,h5,Int.reduceLT,Int.reduceEq,List.contains_cons,List.contains_nil,Option.map_some,Option.map_none,reduceIte,reduceCtorEq,Nat.reduceEqDiff,Nat.reduceLT,Nat.reduceBEq,Nat.reduceAdd,Nat.reduceMul,Nat.reduceLeDiff,Nat.reduceSub,Bool.false_eq_true];try rfl) | skip)
  · refine sim_some ?_
    refine' (w_fgt (w_seq (w_seq (w_reg (w_cons ?_ (w_cons ?_ (w_cons ?_ (w_cons ?_ w_nil)))) ?_) (w_go (w_condf ?_ (w_exit ?_) ?_))) w_gox) ?_)
    all_goals (first | (simp only [nz,rn,nzr26_Object,h1,Int.reduceLT,Int.reduceEq,List.contains_cons,List.contains_nil,Option.map_some,Option.map_none,reduceIte,reduceCtorEq,Nat.reduceEqDiff,Nat.reduceLT,Nat.reduceBEq,Nat.reduceAdd,Nat.reduceMul,Nat.reduceLeDiff,Nat.reduceSub,Bool.false_eq_true];try rfl) | skip)
theorem l26_roots_l5_ok (p0:List r26_Object) (p1:List Int) (s:List Int × Int):Sim (l26_roots_l5 p0 p1 s) fun r=>evX (evI T) (.loop x17_2 [0,1,5,6]) [(0,.sl p0.length (p0.flatMap cr26_Object)),(1,.sl p1.length (p1.flatMap (cint .u8))),(5,mkOwn 1 s.1.length (s.1.flatMap (cint .i64))),(6,.int .i64 s.2)]=some (.exit 0,[(5,mkOwn 1 r.length (r.flatMap (cint .i64)))]):=by
  unfold l26_roots_l5
  exact loop_rule (C:=evI T) (b:=x17_2) (ks:=[0,1,5,6]) (σ:=List Int × Int) (ρ:=List Int) (body:=fun s=>l26_roots_l5_b p0 p1 s.1 s.2) (E:=fun s=>[(0,.sl p0.length (p0.flatMap cr26_Object)),(1,.sl p1.length (p1.flatMap (cint .u8))),(5,mkOwn 1 s.1.length (s.1.flatMap (cint .i64))),(6,.int .i64 s.2)]) (R:=fun r=>(.exit 0,[(5,mkOwn 1 r.length (r.flatMap (cint .i64)))])) (fun r h=>nomatch h) (fun s=>l26_roots_l5_bok p0 p1 s.1 s.2) s
theorem l26_roots_ok (p0:List r26_Object) (p1:List Int):Sim (l26_roots p0 p1) fun r=>evI T 17 [.sl p0.length (p0.flatMap cr26_Object),.sl p1.length (p1.flatMap (cint .u8))]=some (.sl r.length (r.flatMap (cint .i64)),[.none,.none]):=by
  unfold l26_roots
  refine sim_bind (fun out8 h16=>?_)
  have f17:=l26_roots_l5_ok p0 p1 ([],0) _ h16
  dsimp only at f17
  refine sim_some ?_
  refine evI_ret (x:=x17) rfl rfl rfl ?_
  rcases own_cases out8 with rfl | o_out8
  · try simp only [nz,nzr26_Object] at f17
    all_goals
      refine' (w_fn rfl rfl (w_seq (w_reg (w_cons ?_ w_nil) ?_) (w_go (w_seq (w_reg (w_cons ?_ w_nil) ?_) (w_go (w_seq (w_seq (w_reg (w_cons ?_ w_nil) ?_) (w_go (w_block f17 ?_))) (w_go (w_seq (w_reg (w_cons ?_ (w_cons ?_ w_nil)) ?_) (w_go w_ret)))))))) ?_)
      all_goals (first | (simp only [x17,nz,rn,nzr26_Object,Int.reduceLT,Int.reduceEq,List.contains_cons,List.contains_nil,Option.map_some,Option.map_none,reduceIte,reduceCtorEq,Nat.reduceEqDiff,Nat.reduceLT,Nat.reduceBEq,Nat.reduceAdd,Nat.reduceMul,Nat.reduceLeDiff,Nat.reduceSub,Bool.false_eq_true];try rfl) | skip)
  · try simp only [nz,nzr26_Object,o_out8] at f17
    all_goals
      refine' (w_fn rfl rfl (w_seq (w_reg (w_cons ?_ w_nil) ?_) (w_go (w_seq (w_reg (w_cons ?_ w_nil) ?_) (w_go (w_seq (w_seq (w_reg (w_cons ?_ w_nil) ?_) (w_go (w_block f17 ?_))) (w_go (w_seq (w_reg (w_cons ?_ (w_cons ?_ w_nil)) ?_) (w_go w_ret)))))))) ?_)
      all_goals (first | (simp only [x17,nz,rn,nzr26_Object,o_out8,Int.reduceLT,Int.reduceEq,List.contains_cons,List.contains_nil,Option.map_some,Option.map_none,reduceIte,reduceCtorEq,Nat.reduceEqDiff,Nat.reduceLT,Nat.reduceBEq,Nat.reduceAdd,Nat.reduceMul,Nat.reduceLeDiff,Nat.reduceSub,Bool.false_eq_true];try rfl) | skip)
end Go.Ab
namespace Go.Ab
open Go
set_option linter.unusedVariables false
set_option linter.unusedSimpArgs false
set_option maxRecDepth 100000
set_option maxHeartbeats 4000000
end Go.Ab
namespace Go.Ab
open Go
set_option linter.unusedVariables false
set_option linter.unusedSimpArgs false
set_option maxRecDepth 100000
set_option maxHeartbeats 4000000
theorem space_In_j1_ok (p0:Area) (p1:Int):evX (evI T) x67_1 [(1,.int .i64 p1),(2,.box [.int .i64 p0.Lo,.int .i64 p0.Hi,.int .i64 p0.Next])]=some (.norm,[(4,.bool (((decide (p0.Lo ≤ p1)) && (decide (p1 < p0.Next)))))]):=by
  rcases Bool.eq_false_or_eq_true (decide (p0.Lo ≤ p1)) with h1 | h1
  · refine' (w_reg (w_cons ?_ (w_cons ?_ (w_cons ?_ (w_cons ?_ (w_cons ?_ (w_cons ?_ (w_cons ?_ (w_cons ?_ (w_cons ?_ (w_cons ?_ (w_cons ?_ w_nil))))))))))) ?_)
    all_goals (first | (simp only [nz,rn,nzArea,h1,Int.reduceLT,Int.reduceEq,List.contains_cons,List.contains_nil,Option.map_some,Option.map_none,reduceIte,reduceCtorEq,Nat.reduceEqDiff,Nat.reduceLT,Nat.reduceBEq,Nat.reduceAdd,Nat.reduceMul,Nat.reduceLeDiff,Nat.reduceSub,Bool.false_eq_true];try rfl) | skip)
  · refine' (w_reg (w_cons ?_ (w_cons ?_ (w_cons ?_ (w_cons ?_ (w_cons ?_ (w_cons ?_ (w_cons ?_ (w_cons ?_ (w_cons ?_ (w_cons ?_ (w_cons ?_ w_nil))))))))))) ?_)
    all_goals (first | (simp only [nz,rn,nzArea,h1,Int.reduceLT,Int.reduceEq,List.contains_cons,List.contains_nil,Option.map_some,Option.map_none,reduceIte,reduceCtorEq,Nat.reduceEqDiff,Nat.reduceLT,Nat.reduceBEq,Nat.reduceAdd,Nat.reduceMul,Nat.reduceLeDiff,Nat.reduceSub,Bool.false_eq_true];try rfl) | skip)
theorem space_In_ok (p0:Area) (p1:Int):Sim (space_In p0 p1) fun r=>evI T 67 [.agg [.int .i64 p0.Lo,.int .i64 p0.Hi,.int .i64 p0.Next],.int .i64 p1]=some (.bool r,[.none,.none]):=by
  unfold space_In
  have f3:=space_In_j1_ok p0 p1
  refine sim_some ?_
  refine evI_ret (x:=x67) rfl rfl rfl ?_
  try simp only [nz,nzArea] at f3
  all_goals
    refine' (w_fn rfl rfl (w_seq (w_reg (w_cons ?_ (w_cons ?_ w_nil)) ?_) (w_go (w_seq f3 (w_go w_ret)))) ?_)
    all_goals (first | (simp only [x67,nz,rn,nzArea,Int.reduceLT,Int.reduceEq,List.contains_cons,List.contains_nil,Option.map_some,Option.map_none,reduceIte,reduceCtorEq,Nat.reduceEqDiff,Nat.reduceLT,Nat.reduceBEq,Nat.reduceAdd,Nat.reduceMul,Nat.reduceLeDiff,Nat.reduceSub,Bool.false_eq_true];try rfl) | skip)
end Go.Ab
namespace Go.Ab
open Go
set_option linter.unusedVariables false
set_option linter.unusedSimpArgs false
set_option maxRecDepth 100000
set_option maxHeartbeats 4000000
end Go.Ab
namespace Go.Ab
open Go
set_option linter.unusedVariables false
set_option linter.unusedSimpArgs false
theorem runL_inv {σ ρ:Type} {body:σ→Option (Stp σ ρ)} (I:σ→Prop) (Q:ρ→Prop) (μ:σ→Nat)
    (h:∀ s,I s→(∃ r,body s=some (.stop r)∧Q r) ∨ ∃ s',body s=some (.next s')∧I s' ∧ μ s' < μ s):∀ s,I s → ∃ r,runL body s=some r∧Q r:=by
  intro s
  induction hn:μ s using Nat.strongRecOn generalizing s with
  | ind n ih =>
    intro hs
    rw [runL_eq]
    rcases h s hs with ⟨r,hb,hq⟩ | ⟨s',hb,hi,hm⟩
    · exact ⟨r,by rw [hb];rfl,hq⟩
    · obtain ⟨r,hr,hq⟩:=ih (μ s') (by omega) s' rfl hi
      exact ⟨r,by rw [hb];exact hr,hq⟩
theorem wr64 {x:Int} (h1:-9223372036854775808 ≤ x) (h2:x ≤ 9223372036854775807):IntKind.wrap .i64 x=x:=wrap_id h1 (by omega)
theorem ofInt_toNat {a:Nat} (h:a < 9223372036854775808):(BitVec.ofInt 64 (a:Int)).toNat=a:=by
  rw [BitVec.toNat_ofInt]
  have:((a:Int) % ((2 ^ 64:Nat):Int))=a:=Int.emod_eq_of_lt (by omega) (by omega)
  rw [this];rfl
theorem bAnd64 {a b:Nat} (ha:a < 9223372036854775808) (hb:b < 9223372036854775808):bAnd .i64 a b=((a &&& b:Nat):Int):=by
  have h1:=ofInt_toNat ha
  have h2:=ofInt_toNat hb
  unfold bAnd
  show IntKind.wrap .i64 (((BitVec.ofInt 64 (a:Int)) &&& (BitVec.ofInt 64 (b:Int))).toNat:Int)=_
  rw [BitVec.toNat_and,h1,h2]
  have:a &&& b ≤ a:=Nat.and_le_left
  exact wr64 (by omega) (by omega)
theorem bOr64 {a b:Nat} (ha:a < 4611686018427387904) (hb:b < 4611686018427387904):bOr .i64 a b=((a ||| b:Nat):Int):=by
  have h1:=ofInt_toNat (a:=a) (by omega)
  have h2:=ofInt_toNat (a:=b) (by omega)
  unfold bOr
  show IntKind.wrap .i64 (((BitVec.ofInt 64 (a:Int)) ||| (BitVec.ofInt 64 (b:Int))).toNat:Int)=_
  rw [BitVec.toNat_or,h1,h2]
  have:a ||| b < 2 ^ 62:=Nat.or_lt_two_pow (by omega) (by omega)
  exact wr64 (by omega) (by omega)
end Go.Ab
namespace Go.Ab
open Go
set_option linter.unusedVariables false
set_option linter.unusedSimpArgs false
theorem power_eq {n:Int} (h:n ≤ 62):r03_power n=some (2 ^ n.toNat):=by
  unfold r03_power
  have key:∃ r,r03_power_l1 n (1,0)=some r∧r=2 ^ n.toNat:=by
    refine runL_inv (I:=fun s=>0 ≤ s.2∧(s.2 ≤ n ∨ s.2=0)∧s.1=2 ^ s.2.toNat) (Q:=fun r=>r=2 ^ n.toNat) (μ:=fun s=>(n - s.2).toNat) ?_ (1,0) (by simp)
    rintro ⟨out,i⟩ ⟨h1,h2,h3⟩
    simp only at h1 h2 h3 ⊢
    unfold r03_power_l1_b
    by_cases hi:i < n
    · right
      refine ⟨_,by rw [if_pos (by simpa using hi)],?_⟩
      have hp:(2:Int) ^ i.toNat ≤ 2 ^ 61:=by
        exact_mod_cast Nat.pow_le_pow_right (by decide) (show i.toNat ≤ 61 by omega)
      have h0:(0:Int) < 2 ^ i.toNat:=by exact_mod_cast Nat.two_pow_pos i.toNat
      have e1:IntKind.wrap .i64 (out * 2)=out * 2:=wr64 (by omega) (by omega)
      have e2:IntKind.wrap .i64 (i + 1)=i + 1:=wr64 (by omega) (by omega)
      rw [e1,e2]
      refine ⟨⟨by omega,by omega,?_⟩,by omega⟩
      simp only
      rw [h3,show (i + 1).toNat=i.toNat + 1 by omega,Int.pow_succ]
    · left
      refine ⟨out,by rw [if_neg (by simpa using hi)],?_⟩
      rw [h3]
      rcases h2 with h2 | h2
      · rw [show i=n by omega]
      · rw [h2,show n.toNat=(0:Int).toNat by omega]
  obtain ⟨r,h1,h2⟩:=key
  rw [h1,h2];rfl
theorem two_pow_le {k n:Nat} (h:k ≤ n):(2:Int) ^ k ≤ 2 ^ n:=by exact_mod_cast Nat.pow_le_pow_right (by decide) h
def OkSh (x:Shape):Prop:=0 ≤ x.Slots∧x.Slots ≤ 16∧0 ≤ x.Mask∧x.Mask < 2 ^ x.Slots.toNat
instance (x:Shape):Decidable (OkSh x):=by unfold OkSh;exact inferInstance
theorem Check_eq (x:Shape):shape_Check x=some (if OkSh x then 0 else 16):=by
  unfold shape_Check
  by_cases h:0 ≤ x.Slots∧x.Slots ≤ 16
  · have hp:=two_pow_le (show x.Slots.toNat ≤ 16 by omega)
    have h0:(0:Int) < 2 ^ x.Slots.toNat:=by exact_mod_cast Nat.two_pow_pos _
    have e:IntKind.wrap .i64 (1 * 2 ^ (min x.Slots.toNat 64))=2 ^ x.Slots.toNat:=by
      rw [show min x.Slots.toNat 64=x.Slots.toNat by omega,Int.one_mul]
      exact wr64 (by omega) (by omega)
    rw [e]
    by_cases h2:0 ≤ x.Mask∧x.Mask < 2 ^ x.Slots.toNat
    · rw [if_neg (by simp;omega),if_pos (show OkSh x from ⟨h.1,h.2,h2⟩)]
    · rw [if_pos (by simp;omega),if_neg (fun hh:OkSh x=>h2 hh.2.2)]
  · rw [if_pos (by simp;omega),if_neg (fun hh:OkSh x=>h ⟨hh.1,hh.2.1⟩)]
theorem Of_eq (n:Int):shape_Of n=some (if 0 ≤ n∧n < 2097152 then (if OkSh ⟨n % 32,n / 32⟩ then (⟨n % 32,n / 32⟩,0) else (⟨0,0⟩,16)) else (⟨0,0⟩,16)):=by
  unfold shape_Of
  by_cases h:0 ≤ n∧n < 2097152
  · have e1:bAnd .i64 n 31=n % 32:=by
      have:=bAnd64 (a:=n.toNat) (b:=31) (by omega) (by omega)
      rw [show ((n.toNat:Nat):Int)=n by omega] at this
      have e:n.toNat &&& 31=n.toNat % 32:=Nat.and_two_pow_sub_one_eq_mod n.toNat 5
      rw [e] at this
      rw [show ((31:Nat):Int)=31 from rfl] at this
      rw [this];omega
    have e2:Int.fdiv n (2 ^ (min (5:Int).toNat 64))=n / 32:=by
      show Int.fdiv n 32=n / 32
      rw [Int.fdiv_eq_ediv_of_nonneg _ (by omega)]
    rw [if_neg (by simp;omega),if_pos h,e1,e2,Check_eq]
    by_cases h2:OkSh ⟨n % 32,n / 32⟩ <;> simp [h2]
  · rw [if_pos (by simp;omega),if_neg h]
theorem bits_eq:shape_bits=some ((List.range 16).map fun i=>(2:Int) ^ i):=by rfl
theorem tb {m k:Nat} (hm:m < 65536) (hk:k < 16):(bAnd .i64 (m:Int) ((2:Int) ^ k) != 0)=m.testBit k:=by
  have h1:(2:Nat) ^ k ≤ 2 ^ 15:=Nat.pow_le_pow_right (by decide) (by omega)
  have:=bAnd64 (a:=m) (b:=2 ^ k) (by omega) (by omega)
  rw [show (((2:Nat) ^ k:Nat):Int)=(2:Int) ^ k by push_cast;rfl] at this
  rw [this]
  cases hb:m.testBit k with
  | true =>
    have:(m &&& 2 ^ k) ≠ 0:=fun h=>by
      have h2:(m &&& 2 ^ k).testBit k=true:=by rw [Nat.testBit_and,hb,Nat.testBit_two_pow];simp
      rw [h] at h2;simp at h2
    simp only [bne_iff_ne,ne_eq];omega
  | false =>
    have:(m &&& 2 ^ k)=0:=Nat.eq_of_testBit_eq fun j=>by
      rw [Nat.testBit_and,Nat.testBit_two_pow,Nat.zero_testBit]
      by_cases hj:k=j
      · subst hj;rw [hb];rfl
      · simp [hj]
    rw [this];rfl
theorem td {m k:Nat} (hm:m < 65536) (hk:k < 16):(Int.tmod (IntKind.wrap .i64 (Int.tdiv (m:Int) ((2:Int) ^ k))) 2 == 1)=m.testBit k:=by
  have e1:Int.tdiv (m:Int) ((2:Int) ^ k)=((m / 2 ^ k:Nat):Int):=by
    rw [Int.tdiv_eq_ediv_of_nonneg (by omega)];push_cast;rfl
  have h0:m / 2 ^ k ≤ m:=Nat.div_le_self _ _
  rw [e1,Nat.testBit_eq_decide_div_mod_eq]
  generalize m / 2 ^ k=q at h0 ⊢
  rw [wr64 (by omega) (by omega),Int.tmod_eq_emod_of_nonneg (by omega)]
  by_cases h:q % 2=1
  · rw [decide_eq_true h,beq_iff_eq];omega
  · rw [decide_eq_false h,beq_eq_false_iff_ne];omega
theorem Pointer_eq {x:Shape} (hx:OkSh x) (k:Int):shape_Pointer x k=some (decide (0 ≤ k) && (decide (k < x.Slots) && x.Mask.toNat.testBit k.toNat)):=by
  obtain ⟨h1,h2,h3,h4⟩:=hx
  unfold shape_Pointer shape_Pointer_j1
  have hp:=two_pow_le (show x.Slots.toNat ≤ 16 by omega)
  by_cases h:0 ≤ k
  · by_cases h':k < x.Slots
    · have hix:ixa ((List.range 16).map fun i=>(2:Int) ^ i) 16 k=some (2 ^ k.toNat):=by
        unfold ixa
        rw [if_pos (by omega)]
        simp [show k.toNat < 16 by omega]
      have e:=tb (m:=x.Mask.toNat) (k:=k.toNat) (by omega) (by omega)
      rw [show ((x.Mask.toNat:Nat):Int)=x.Mask by omega] at e
      simp only [bits_eq,h,h',decide_true,if_true,Option.bind_some,hix,e,Bool.true_and]
    · simp [h,h']
  · simp [h]
theorem rPointer_eq {x:Shape} (hx:OkSh x) (k:Int):r03_Pointer x k=shape_Pointer x k:=by
  rw [Pointer_eq hx]
  obtain ⟨h1,h2,h3,h4⟩:=hx
  unfold r03_Pointer
  have hp:=two_pow_le (show x.Slots.toNat ≤ 16 by omega)
  by_cases h:0 ≤ k∧k < x.Slots
  · have e:=td (m:=x.Mask.toNat) (k:=k.toNat) (by omega) (by omega)
    rw [show ((x.Mask.toNat:Nat):Int)=x.Mask by omega] at e
    have h0:(2:Int) ^ k.toNat ≠ 0:=by
      have:(0:Int) < 2 ^ k.toNat:=by exact_mod_cast Nat.two_pow_pos _
      omega
    rw [if_neg (by simp;omega),power_eq (by omega)]
    simp only [Option.bind_some,h0,decide_false,Bool.false_eq_true,if_false,e,h.1,h.2,decide_true,Bool.true_and]
  · rw [if_pos (by simp;omega)]
    by_cases h':0 ≤ k
    · simp [show ¬ k < x.Slots by omega]
    · simp [h']
theorem Head_eq {x:Shape} (hx:OkSh x):shape_Head x=some (x.Mask * 32 + x.Slots):=by
  obtain ⟨h1,h2,h3,h4⟩:=hx
  have hp:=two_pow_le (show x.Slots.toNat ≤ 16 by omega)
  unfold shape_Head
  have e:x.Mask * 2 ^ (min (5:Int).toNat 64)=x.Mask * 32:=rfl
  rw [e,wr64 (by omega) (by omega)]
  have:=bOr64 (a:=x.Mask.toNat * 32) (b:=x.Slots.toNat) (by omega) (by omega)
  rw [show ((x.Mask.toNat * 32:Nat):Int)=x.Mask * 32 by omega,show ((x.Slots.toNat:Nat):Int)=x.Slots by omega] at this
  have e2:=Nat.two_pow_add_eq_or_of_lt (b:=x.Slots.toNat) (i:=5) (by omega) x.Mask.toNat
  rw [show x.Mask.toNat * 32=2 ^ 5 * x.Mask.toNat by omega] at this
  rw [this,← e2]
  congr 1;omega
theorem thereW {x:Shape} (hx:OkSh x):∃ n,shape_Head x=some n∧shape_Of n=some (x,0):=by
  refine ⟨_,Head_eq hx,?_⟩
  have hx':=hx
  obtain ⟨h1,h2,h3,h4⟩:=hx
  have hp:=two_pow_le (show x.Slots.toNat ≤ 16 by omega)
  have e:(⟨(x.Mask * 32 + x.Slots) % 32,(x.Mask * 32 + x.Slots) / 32⟩:Shape)=x:=by
    cases x;simp only [Shape.mk.injEq];simp only at h1 h2 h3 h4 hp;omega
  rw [Of_eq,if_pos (by omega),e,if_pos hx']
def ptB (x:Shape) (k:Int):Bool:=decide (0 ≤ k) && (decide (k < x.Slots) && x.Mask.toNat.testBit k.toNat)
def hdB (x:Shape):Int:=x.Mask * 32 + x.Slots
theorem Of_hd {x:Shape} (hx:OkSh x):shape_Of (hdB x)=some (x,0):=by
  obtain ⟨n,h1,h2⟩:=thereW hx
  rw [Head_eq hx,Option.some.injEq] at h1
  rw [show hdB x=n from h1];exact h2
theorem hd_pos {x:Shape} (hx:OkSh x):0 ≤ hdB x∧hdB x < 2097152:=by
  obtain ⟨h1,h2,h3,h4⟩:=hx
  have hp:=two_pow_le (show x.Slots.toNat ≤ 16 by omega)
  unfold hdB;omega
theorem Shape_eq {a m:Int} (ha:0 ≤ a∧a ≤ 16) (hm:0 ≤ m∧m < 65536):∃ x,l12_Shape a m=some x∧OkSh x∧x.Slots=a:=by
  have e0:IntKind.wrap .i64 (Int.tmod (IntKind.wrap .u64 a) 17)=a:=by
    have e1:IntKind.wrap .u64 a=a:=by
      simp only [IntKind.wrap,IntKind.signed,IntKind.bits]
      simp;omega
    rw [e1,Int.tmod_eq_emod_of_nonneg (by omega),Int.emod_eq_of_lt (by omega) (by omega)]
    exact wr64 (by omega) (by omega)
  have key:∃ r,l12_Shape_l5 a (IntKind.wrap .i64 m,16)=some r∧(0 ≤ r∧r < 2 ^ a.toNat):=by
    refine runL_inv (I:=fun s=>a ≤ s.2∧s.2 ≤ 16∧0 ≤ s.1∧s.1 < 2 ^ s.2.toNat) (Q:=fun r=>0 ≤ r∧r < 2 ^ a.toNat) (μ:=fun s=>s.2.toNat) ?_ _ ⟨ha.2,by simp,?_,?_⟩
    · rintro ⟨q,i⟩ ⟨h1,h2,h3,h4⟩
      simp only at h1 h2 h3 h4 ⊢
      unfold l12_Shape_l5_b
      rw [e0]
      by_cases hi:a < i
      · right
        have w1:IntKind.wrap .i64 (i - 1)=i - 1:=wr64 (by omega) (by omega)
        have hp:(2:Int) ^ i.toNat ≤ 2 ^ 16:=two_pow_le (by omega)
        have hs:(2:Int) ^ i.toNat=2 ^ (i - 1).toNat * 2:=by rw [show i.toNat=(i - 1).toNat + 1 by omega,Int.pow_succ]
        have h0:(0:Int) < 2 ^ (i - 1).toNat:=by exact_mod_cast Nat.two_pow_pos _
        have w2:IntKind.wrap .i64 (1 * 2 ^ (min (i - 1).toNat 64))=2 ^ (i - 1).toNat:=by
          rw [show min (i - 1).toNat 64=(i - 1).toNat by omega,Int.one_mul]
          exact wr64 (by omega) (by omega)
        rw [if_pos (by simpa using hi),w1,if_neg (by simp;omega),w2]
        refine ⟨_,rfl,⟨by omega,by omega,?_⟩,by omega⟩
        simp only
        by_cases hc:(2:Int) ^ (i - 1).toNat ≤ q
        · rw [if_pos (by simpa using hc),wr64 (by omega) (by omega)]
          omega
        · rw [if_neg (by simpa using hc)]
          omega
      · left
        refine ⟨q,by rw [if_neg (by simpa using hi)],h3,?_⟩
        rwa [show a=i by omega]
    · rw [wr64 (by omega) (by omega)];exact hm.1
    · rw [wr64 (by omega) (by omega)];simpa using hm.2
  obtain ⟨r,h1,h2⟩:=key
  refine ⟨⟨a,r⟩,?_,⟨ha.1,ha.2,h2.1,h2.2⟩,rfl⟩
  unfold l12_Shape
  rw [h1,e0];rfl
end Go.Ab
namespace Go.Ab
open Go
set_option linter.unusedVariables false
set_option linter.unusedSimpArgs false
set_option maxRecDepth 10000
set_option maxHeartbeats 4000000
abbrev hI (n:Int):HV:=.p (.int .i64 n)
abbrev hA (a:Area):HV:=.p (.agg [.int .i64 a.Lo,.int .i64 a.Hi,.int .i64 a.Next])
abbrev hX (x:Shape):HV:=.p (.agg [.int .i64 x.Slots,.int .i64 x.Mask])
abbrev hL (l:List r26_Object):HV:=.p (.sl l.length (l.flatMap cr26_Object))
abbrev hN (l:List Int):HV:=.p (.sl l.length (l.flatMap (cint .i64)))
abbrev hAs (l:List Area):HV:=.p (.sl l.length (l.flatMap cArea))
def lp:List Nat:=[17,19,21,23,26,29,30,32,35,67,74,82,85,98,113,117]
def lw:List Nat:=[18,22,24,27,64,65,66,70,71,72,73,76,77,78,79,80,81,115,116]
noncomputable def KP:HCalls:=orK (pureK (pureC T lp)) (lentC (pureC T lp))
structure KPu (K:HCalls):Prop where
  pu:∀ f,lp.contains f=true→K f=KP f
structure KB (K:HCalls):Prop extends KPu K where
  no:∀ f,lw.contains f=true → ∀ ws st,K f ws st=Option.none
variable {K:HCalls}
theorem KPu.known (B:KPu K) {f:Nat} (hf:lp.contains f=true) {ws vs:List PV} {v x:PV} {outs:List PV} (hz:frzL ws=some vs) (h:evI T f vs=some (v,outs)) (hw:vs.all PV.loose=true) (hx:frz v=some x) (hl:x.loose=true) (n:Nat) (st:HSt) :
    evHF C0 K TH (n + 1) f (ws.map .p) st=some (.p x,st):=by
  have e:K f (ws.map .p) st=some (.p x,st):=by
    rw [B.pu f hf]
    have ha:∀ ws:List PV,allP (ws.map HV.p)=some ws:=fun ws=>by
      induction ws with
      | nil=>rfl
      | cons w ws ih=>simp [allP,ih]
    have hc:pureC T lp f vs=some (v,outs):=by unfold pureC;rw [if_pos hf,h]
    unfold KP orK pureK
    simp only [ha,hz,hw,if_true,hc,hx,hl]
  rw [evHF_eq,e,oel_some]
theorem k35 (B:KPu K) {a m:Int} {x:Shape} (h:l12_Shape a m=some x) (n:Nat) (st:HSt):evHF C0 K TH (n + 1) 35 [hI a,.p (.int .u16 m)] st=some (hX x,st) :=
  B.known (f:=35) rfl (ws:=[.int .i64 a,.int .u16 m]) rfl (l12_Shape_ok a m x h) rfl rfl rfl n st
theorem k23 (B:KPu K) {x:Shape} (hx:OkSh x) (i:Int) (n:Nat) (st:HSt):evHF C0 K TH (n + 1) 23 [hX x,hI i] st=some (.p (.bool (ptB x i)),st) :=
  B.known (f:=23) rfl (ws:=[.agg [.int .i64 x.Slots,.int .i64 x.Mask],.int .i64 i]) rfl (r03_Pointer_ok x i _ ((rPointer_eq hx i).trans (Pointer_eq hx i))) rfl rfl rfl n st
theorem k98 (B:KPu K) {x:Shape} (hx:OkSh x) (i:Int) (n:Nat) (st:HSt):evHF C0 K TH (n + 1) 98 [hX x,hI i] st=some (.p (.bool (ptB x i)),st) :=
  B.known (f:=98) rfl (ws:=[.agg [.int .i64 x.Slots,.int .i64 x.Mask],.int .i64 i]) rfl (shape_Pointer_ok x i _ (Pointer_eq hx i)) rfl rfl rfl n st
theorem k113 (B:KPu K) {x:Shape} (hx:OkSh x) (n:Nat) (st:HSt):evHF C0 K TH (n + 1) 113 [hX x] st=some (hI (hdB x),st) :=
  B.known (f:=113) rfl (ws:=[.agg [.int .i64 x.Slots,.int .i64 x.Mask]]) rfl (shape_Head_ok x _ (Head_eq hx)) rfl rfl rfl n st
theorem k74 (B:KPu K) {x:Shape} (hx:OkSh x) (n:Nat) (st:HSt):evHF C0 K TH (n + 1) 74 [hI (hdB x)] st=some (.p (.tup [.agg [.int .i64 x.Slots,.int .i64 x.Mask],.int .i64 0]),st) :=
  B.known (f:=74) rfl (ws:=[.int .i64 (hdB x)]) rfl (shape_Of_ok _ _ (Of_hd hx)) rfl rfl rfl n st
theorem k67 (B:KPu K) (a:Area) (p:Int) (n:Nat) (st:HSt):evHF C0 K TH (n + 1) 67 [hA a,hI p] st=some (.p (.bool (decide (a.Lo ≤ p) && decide (p < a.Next))),st) :=
  B.known (f:=67) rfl (ws:=[.agg [.int .i64 a.Lo,.int .i64 a.Hi,.int .i64 a.Next],.int .i64 p]) rfl (space_In_ok a p _ rfl) rfl rfl rfl n st
theorem wrap64 {n:Int} (h:-9223372036854775808 ≤ n∧n ≤ 9223372036854775807):IntKind.i64.wrap n=n:=wrap_id h.1 (by omega)
theorem wrN {i:Nat} (h:i < 140737488355328):IntKind.wrap .i64 ((i:Int) + 1)=((i + 1:Nat):Int):=by
  rw [wrap_id (by omega) (by omega)];omega
structure SpaceAt (st:HSt) (sp wb:Nat) (ws:List Int):Prop where
  s:st[sp]? = some (.box [.row wb 0 ws.length 1])
  w:st[wb]? = some (.row 1 ws.length (ws.map fun n=>.p (.int .i64 n)))
abbrev wRow (ws:List Int):HB:=.row 1 ws.length (ws.map fun n=>.p (.int .i64 n))
theorem SpaceAt.lt {st:HSt} {sp wb:Nat} {ws:List Int} (h:SpaceAt st sp wb ws):sp < st.length∧wb < st.length∧sp ≠ wb:=by
  refine ⟨(List.getElem?_eq_some_iff.1 h.s).1,(List.getElem?_eq_some_iff.1 h.w).1,fun e=>?_⟩
  have h1:=h.s
  have h2:=h.w
  rw [e,h2] at h1
  simp at h1
theorem SpaceAt.app {st:HSt} {sp wb:Nat} {ws:List Int} (h:SpaceAt st sp wb ws) (g:HSt):SpaceAt (st ++ g) sp wb ws:=by
  obtain ⟨h1,h2,_⟩:=h.lt
  exact ⟨by rw [List.getElem?_append_left h1];exact h.s,by rw [List.getElem?_append_left h2];exact h.w⟩
theorem SpaceAt.set {st:HSt} {sp wb:Nat} {ws:List Int} (h:SpaceAt st sp wb ws) (ws':List Int) (hl:ws'.length=ws.length):SpaceAt (st.set wb (wRow ws')) sp wb ws':=by
  obtain ⟨h1,h2,h3⟩:=h.lt
  exact ⟨by rw [List.getElem?_set_ne (by omega),h.s,hl],by rw [List.getElem?_set_self h2]⟩
structure Keeps (wb:Nat) (st st':HSt):Prop where
  len:st.length ≤ st'.length
  get:∀ i,i < st.length→i ≠ wb→st'[i]? = st[i]?
theorem Keeps.refl (wb:Nat) (st:HSt):Keeps wb st st:=⟨Nat.le_refl _,fun _ _ _=>rfl⟩
theorem Keeps.trans {wb:Nat} {a b c:HSt} (h:Keeps wb a b) (h':Keeps wb b c):Keeps wb a c :=
  ⟨Nat.le_trans h.len h'.len,fun i hi hn=>(h'.get i (Nat.lt_of_lt_of_le hi h.len) hn).trans (h.get i hi hn)⟩
theorem Keeps.app (wb:Nat) (st g:HSt):Keeps wb st (st ++ g):=⟨by simp,fun i hi _=>List.getElem?_append_left hi⟩
theorem Keeps.set (wb:Nat) (st:HSt) (x:HB):Keeps wb st (st.set wb x):=⟨by simp,fun i hi hn=>List.getElem?_set_ne (fun e=>hn e.symm)⟩
theorem Keeps.some {wb i:Nat} {st st':HSt} {x:HB} (h:Keeps wb st st') (hx:st[i]? = Option.some x) (hn:i ≠ wb):st'[i]? = Option.some x:=by
  rw [h.get i (List.getElem?_eq_some_iff.1 hx).1 hn,hx]
theorem e24 (B:KB K) {st:HSt} {sp wb:Nat} {ws:List Int} (S:SpaceAt st sp wb ws) (a s:Int) (i:Nat) (h0:0 ≤ a∧0 ≤ s) (hi:a + 1 + s=(i:Int)) (hb:i < 140737488355328) (v:Int) (hv:ws[i]? = some v) (n:Nat) :
    evHF C0 K TH (n + 20) 24 [.ptr sp 0,hI a,hI s] st=some (hI v,st):=by
  have w1:=@wrap64 (a + 1) (by omega)
  have w2:IntKind.i64.wrap (a + 1 + s)=(i:Int):=by rw [wrap64 (by omega),hi]
  have hl:i < ws.length:=(List.getElem?_eq_some_iff.1 hv).1
  have e1:=S.s
  have e2:=S.w
  have e3:ws[i]=v:=(List.getElem?_eq_some_iff.1 hv).2
  have e4:i + 1 ≤ ws.length:=by omega
  refine evHF_in (n:=n + 19) (B.no 24 rfl) (x:=h24) rfl rfl ?_
  simp (config:={ maxSteps:=4000000 }) [↓hs_pre,↓evP_call0',hs_eq,h24,w1,w2,e1,e2,hl,hv,e3,e4]
theorem e66 (B:KB K) {st:HSt} {sp wb:Nat} {ws:List Int} (S:SpaceAt st sp wb ws) (a s v:Int) (i:Nat) (h0:0 ≤ a∧0 ≤ s) (hi:a + 1 + s=(i:Int)) (hb:i < 140737488355328) (hl:i < ws.length) (n:Nat) :
    evHF C0 K TH (n + 20) 66 [.ptr sp 0,hI a,hI s,hI v] st=some (.p (.tup []),st.set wb (wRow (ws.set i v))):=by
  have w1:=@wrap64 (a + 1) (by omega)
  have w2:IntKind.i64.wrap (a + 1 + s)=(i:Int):=by rw [wrap64 (by omega),hi]
  have e1:=S.s
  have e2:=S.w
  have e3:i + 1 ≤ ws.length:=by omega
  refine evHF_in (n:=n + 19) (B.no 66 rfl) (x:=h66) rfl rfl ?_
  simp (config:={ maxSteps:=4000000 }) [↓hs_pre,↓evP_call0',hs_eq,h66,w1,w2,e1,e2,hl,e3,wRow,List.map_set,List.length_set]
theorem e22 (B:KB K) {st:HSt} {sp wb:Nat} {ws:List Int} (S:SpaceAt st sp wb ws) (i:Nat) (h0:0 < i) {x:Shape} (hx:OkSh x) (hv:ws[i]? = some (hdB x)) (n:Nat) :
    evHF C0 K TH (n + 30) 22 [.ptr sp 0,hI i] st=some (.p (.tup [.agg [.int .i64 x.Slots,.int .i64 x.Mask],.int .i64 0]),st ++ [.box [hI x.Slots,hI x.Mask]]):=by
  have hl:i < ws.length:=(List.getElem?_eq_some_iff.1 hv).1
  have e1:=S.s
  have e2:=S.w
  have f1:=fun g=>(S.app g).s
  have f2:=fun g=>(S.app g).w
  have e3:ws[i]=hdB x:=(List.getElem?_eq_some_iff.1 hv).2
  have e4:i + 1 ≤ ws.length:=by omega
  have e5:¬ (i:Int) < 1:=by omega
  have e6:¬ ws.length ≤ i:=by omega
  have e7:=fun n st=>k74 B.toKPu hx n st
  refine evHF_in (n:=n + 29) (B.no 22 rfl) (x:=h22) rfl rfl ?_
  simp (config:={ maxSteps:=4000000 }) [↓hs_pre,↓evP_call0',hs_eq,h22,e1,e2,f1,f2,hl,hv,e3,e4,e5,e6,e7]
end Go.Ab
