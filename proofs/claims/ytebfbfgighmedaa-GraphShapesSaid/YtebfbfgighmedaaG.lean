/-
  A computation in pieces. Printed by memo.py.
-/
import Derived.Test.YtebfbfgighmedaaF
import Derived.Test.YtebfbfgighmedaaE
import Derived.KernelRfl
import Derived.Test.YtebfbfgighmedaaD
import Derived.Test.YtebfbfgighmedaaC
namespace Go.Ab
open Go
set_option linter.unusedVariables false
set_option maxRecDepth 100000
def cwv0 : List PV := [.int .i64 27, .int .i64 (-1), .int .i64 0, .int .i64 0, .sl 1 [.int .i64 0], .sl 2 [.int .i64 2, .int .i64 3], .str [], .int .i64 28]
def cwv1 : List PV := [.int .i64 27, .int .i64 (-1), .int .i64 0, .int .i64 0, .sl 1 [.int .i64 0], .sl 2 [.int .i64 1, .int .i64 5], .str [], .int .i64 64]
def cwv2 : List PV := [.sl 1 [.int .i64 1], .sl 2 [.int .i64 2, .int .i64 3], .sl 1 [.int .i64 4], .sl 1 [.int .i64 4], .sl 2 [.int .i64 1, .int .i64 5], .sl 0 [], .sl 0 []]
def cwv3 : List PV := [.str [102, 117, 110, 99, 32, 102, 40, 105, 41, 32, 110, 32, 123, 32, 98, 48, 58, 32, 98, 114, 32, 98, 49, 32, 98, 49, 58, 32, 105, 102, 32, 37, 48, 32, 98, 50, 32, 98, 51, 32, 98, 50, 58, 32, 98, 114, 32, 98, 52, 32, 98, 51, 58, 32, 98, 114, 32, 98, 52, 32, 98, 52, 58, 32, 105, 102, 32, 37, 48, 32, 98, 49, 32, 98, 53, 32, 98, 53, 58, 32, 114, 101, 116, 32, 98, 54, 58, 32, 114, 101, 116, 32, 125]]
def cwv4 : List PV := [.sl 1 [.int .i64 26, .int .i64 (-1), .int .i64 0, .int .i64 0, .sl 0 [], .sl 1 [.int .i64 1], .str [], .int .i64 18], .sl 1 cwv0, .sl 1 [.int .i64 26, .int .i64 (-1), .int .i64 0, .int .i64 0, .sl 0 [], .sl 1 [.int .i64 4], .str [], .int .i64 44], .sl 1 [.int .i64 26, .int .i64 (-1), .int .i64 0, .int .i64 0, .sl 0 [], .sl 1 [.int .i64 4], .str [], .int .i64 54], .sl 1 cwv1, .sl 1 [.int .i64 28, .int .i64 (-1), .int .i64 0, .int .i64 0, .sl 0 [], .sl 0 [], .str [], .int .i64 80], .sl 1 [.int .i64 28, .int .i64 (-1), .int .i64 0, .int .i64 0, .sl 0 [], .sl 0 [], .str [], .int .i64 88]]
def cwv5 : List PV := [.str [102], .sl 1 [.int .i64 1], .int .i64 0, .sl 7 cwv4, .int .i64 0]
def cwv6 : List PV := [.sp cwv5]
def cwv7 : List PV := [.agg cwv5]
def cwv8 : List PV := [.sl 1 [.int .i64 1], .fn 30 cwv6]
def cwv9 : List PV := [.sl 1 [.int .i64 4], .fn 30 cwv6]
def cwv10 : List PV := [.sl 2 [.int .i64 2, .int .i64 3], .fn 30 cwv6]
def cwv11 : List PV := [.sl 2 [.int .i64 1, .int .i64 5], .fn 30 cwv6]
def cwv12 : List PV := [.str [102, 117, 110, 99], .int .i64 0, .str [102], .int .i64 5, .str [40], .int .i64 6, .str [105], .int .i64 7, .str [41], .int .i64 8, .str [110], .int .i64 10, .str [123], .int .i64 12, .str [98, 48], .int .i64 14, .str [58], .int .i64 16, .str [98, 114], .int .i64 18, .str [98, 49], .int .i64 21, .str [98, 49], .int .i64 24, .str [58], .int .i64 26, .str [105, 102], .int .i64 28, .str [37, 48], .int .i64 31, .str [98, 50], .int .i64 34, .str [98, 51], .int .i64 37, .str [98, 50], .int .i64 40, .str [58], .int .i64 42, .str [98, 114], .int .i64 44, .str [98, 52], .int .i64 47, .str [98, 51], .int .i64 50, .str [58], .int .i64 52, .str [98, 114], .int .i64 54, .str [98, 52], .int .i64 57, .str [98, 52], .int .i64 60, .str [58], .int .i64 62, .str [105, 102], .int .i64 64, .str [37, 48], .int .i64 67, .str [98, 49], .int .i64 70, .str [98, 53], .int .i64 73, .str [98, 53], .int .i64 76, .str [58], .int .i64 78, .str [114, 101, 116], .int .i64 80, .str [98, 54], .int .i64 84, .str [58], .int .i64 86, .str [114, 101, 116], .int .i64 88, .str [125], .int .i64 92]
def cwv13 : List PV := [.sl 38 cwv12, .int .i64 0, .int .i64 93, .int .i64 0, .int .i64 0, .int .i64 0]
def cwv14 : List PV := [.sl 38 cwv12, .int .i64 1, .int .i64 93, .int .i64 0, .int .i64 0, .int .i64 0]
def cwv15 : List PV := [.sl 38 cwv12, .int .i64 2, .int .i64 93, .int .i64 0, .int .i64 0, .int .i64 0]
def cwv16 : List PV := [.sl 38 cwv12, .int .i64 7, .int .i64 93, .int .i64 0, .int .i64 0, .int .i64 0]
def cwv17 : List PV := [.sl 38 cwv12, .int .i64 10, .int .i64 93, .int .i64 1, .int .i64 0, .int .i64 0]
def cwv18 : List PV := [.sl 38 cwv12, .int .i64 11, .int .i64 93, .int .i64 1, .int .i64 0, .int .i64 0]
def cwv19 : List PV := [.sl 38 cwv12, .int .i64 14, .int .i64 93, .int .i64 2, .int .i64 0, .int .i64 0]
def cwv20 : List PV := [.sl 38 cwv12, .int .i64 15, .int .i64 93, .int .i64 2, .int .i64 0, .int .i64 0]
def cwv21 : List PV := [.sl 38 cwv12, .int .i64 16, .int .i64 93, .int .i64 2, .int .i64 0, .int .i64 0]
def cwv22 : List PV := [.sl 38 cwv12, .int .i64 17, .int .i64 93, .int .i64 2, .int .i64 0, .int .i64 0]
def cwv23 : List PV := [.sl 38 cwv12, .int .i64 20, .int .i64 93, .int .i64 3, .int .i64 0, .int .i64 0]
def cwv24 : List PV := [.sl 38 cwv12, .int .i64 21, .int .i64 93, .int .i64 3, .int .i64 0, .int .i64 0]
def cwv25 : List PV := [.sl 38 cwv12, .int .i64 24, .int .i64 93, .int .i64 4, .int .i64 0, .int .i64 0]
def cwv26 : List PV := [.sl 38 cwv12, .int .i64 25, .int .i64 93, .int .i64 4, .int .i64 0, .int .i64 0]
def cwv27 : List PV := [.sl 38 cwv12, .int .i64 28, .int .i64 93, .int .i64 5, .int .i64 0, .int .i64 0]
def cwv28 : List PV := [.sl 38 cwv12, .int .i64 29, .int .i64 93, .int .i64 5, .int .i64 0, .int .i64 0]
def cwv29 : List PV := [.sl 38 cwv12, .int .i64 30, .int .i64 93, .int .i64 5, .int .i64 0, .int .i64 0]
def cwv30 : List PV := [.sl 38 cwv12, .int .i64 31, .int .i64 93, .int .i64 5, .int .i64 0, .int .i64 0]
def cwv31 : List PV := [.sl 38 cwv12, .int .i64 34, .int .i64 93, .int .i64 6, .int .i64 0, .int .i64 0]
def cwv32 : List PV := [.sl 38 cwv12, .int .i64 37, .int .i64 93, .int .i64 7, .int .i64 0, .int .i64 0]
def cwv33 : List PV := [.sl 38 cwv12, .int .i64 38, .int .i64 93, .int .i64 7, .int .i64 0, .int .i64 0]
def cwv34 : List PV := [.box cwv18]
def cwv35 : List PV := [.box cwv20]
def cwv36 : List PV := [.box cwv21]
def cwv37 : List PV := [.box cwv22]
def cwv38 : List PV := [.box cwv24]
def cwv39 : List PV := [.box cwv26]
def cwv40 : List PV := [.box cwv28]
def cwv41 : List PV := [.box cwv29]
def cwv42 : List PV := [.box cwv30]
def cwv43 : List PV := [.box cwv31]
def cwv44 : List PV := [.box cwv32]
def cwv45 : List PV := [.box cwv18, .none]
def cwv46 : List PV := [.box cwv22, .none]
def cwv47 : List PV := [.box cwv24, .none]
def cwv48 : List PV := [.box cwv26, .none]
def cwv49 : List PV := [.box cwv30, .none]
def cwv50 : List PV := [.box cwv31, .none]
def cwv51 : List PV := [.box cwv32, .none]
def cwa0 : List PV := [.int .u8 32]
def cwr0 : PV × List PV := (.bool false, [.none])
theorem cw0 : evI T 47 cwa0 = some cwr0 := call3_ok (M := []) (m := 200) (n := 2000) trivial (T := T) (f := 47) (x := x47) rfl (by kernel_rfl)
def cwa1 : List PV := [.int .u8 40]
def cwr1 : PV × List PV := (.bool false, [.none])
theorem cw1 : evI T 47 cwa1 = some cwr1 := call3_ok (M := []) (m := 200) (n := 2000) trivial (T := T) (f := 47) (x := x47) rfl (by kernel_rfl)
def cwa2 : List PV := [.int .u8 41]
def cwr2 : PV × List PV := (.bool false, [.none])
theorem cw2 : evI T 47 cwa2 = some cwr2 := call3_ok (M := []) (m := 200) (n := 2000) trivial (T := T) (f := 47) (x := x47) rfl (by kernel_rfl)
def cwa3 : List PV := [.int .u8 58]
def cwr3 : PV × List PV := (.bool false, [.none])
theorem cw3 : evI T 47 cwa3 = some cwr3 := call3_ok (M := []) (m := 200) (n := 2000) trivial (T := T) (f := 47) (x := x47) rfl (by kernel_rfl)
def cwa4 : List PV := [.int .u8 37]
def cwr4 : PV × List PV := (.bool true, [.none])
theorem cw4 : evI T 47 cwa4 = some cwr4 := call3_ok (M := []) (m := 200) (n := 2000) trivial (T := T) (f := 47) (x := x47) rfl (by kernel_rfl)
def cwa5 : List PV := cwv3
def cwr5 : PV × List PV := (.tup [.sl 38 cwv12, .agg [.int .i64 0, .int .i64 0]], [.none])
theorem cw5 : evI T 42 cwa5 = some cwr5 := call3_ok (M := [(47, cwa0, cwr0), (47, cwa1, cwr1), (47, cwa2, cwr2), (47, cwa3, cwr3), (47, cwa4, cwr4)]) (m := 200) (n := 2000) ⟨cw0, cw1, cw2, cw3, cw4, trivial⟩ (T := T) (f := 42) (x := x42) rfl (by kernel_rfl)
def cwa6 : List PV := [.box cwv13, .str [102, 117, 110, 99]]
def cwr6 : PV × List PV := (.tup [], [.box cwv14, .none])
theorem cw6 : evI T 48 cwa6 = some cwr6 := call3_ok (M := []) (m := 200) (n := 2000) trivial (T := T) (f := 48) (x := x48) rfl (by kernel_rfl)
def cwa7 : List PV := [.box cwv14]
def cwr7 : PV × List PV := (.str [102], [.box cwv15])
theorem cw7 : evI T 49 cwa7 = some cwr7 := call3_ok (M := []) (m := 200) (n := 2000) trivial (T := T) (f := 49) (x := x49) rfl (by kernel_rfl)
def cwa8 : List PV := [.box cwv15, .str [40]]
def cwr8 : PV × List PV := (.tup [], [.box [.sl 38 cwv12, .int .i64 3, .int .i64 93, .int .i64 0, .int .i64 0, .int .i64 0], .none])
theorem cw8 : evI T 48 cwa8 = some cwr8 := call3_ok (M := []) (m := 200) (n := 2000) trivial (T := T) (f := 48) (x := x48) rfl (by kernel_rfl)
def cwa9 : List PV := [.box [.sl 38 cwv12, .int .i64 4, .int .i64 93, .int .i64 0, .int .i64 0, .int .i64 0], .str [41]]
def cwr9 : PV × List PV := (.tup [], [.box [.sl 38 cwv12, .int .i64 5, .int .i64 93, .int .i64 0, .int .i64 0, .int .i64 0], .none])
theorem cw9 : evI T 48 cwa9 = some cwr9 := call3_ok (M := []) (m := 200) (n := 2000) trivial (T := T) (f := 48) (x := x48) rfl (by kernel_rfl)
def cwa10 : List PV := [.box [.sl 38 cwv12, .int .i64 6, .int .i64 93, .int .i64 0, .int .i64 0, .int .i64 0], .str [123]]
def cwr10 : PV × List PV := (.tup [], [.box cwv16, .none])
theorem cw10 : evI T 48 cwa10 = some cwr10 := call3_ok (M := []) (m := 200) (n := 2000) trivial (T := T) (f := 48) (x := x48) rfl (by kernel_rfl)
def cwa11 : List PV := [.box [.sl 38 cwv12, .int .i64 8, .int .i64 93, .int .i64 0, .int .i64 0, .int .i64 0], .str [58]]
def cwr11 : PV × List PV := (.tup [], [.box [.sl 38 cwv12, .int .i64 9, .int .i64 93, .int .i64 0, .int .i64 0, .int .i64 0], .none])
theorem cw11 : evI T 48 cwa11 = some cwr11 := call3_ok (M := []) (m := 200) (n := 2000) trivial (T := T) (f := 48) (x := x48) rfl (by kernel_rfl)
def cwa12 : List PV := [.agg [.int .i64 1, .int .i64 0, .int .i64 0, .int .i64 0, .nils, .nils, .str [], .int .i64 0]]
def cwr12 : PV × List PV := (.str [99, 111, 110, 115, 116], [.none])
theorem cw12 : evI T 62 cwa12 = some cwr12 := call3_ok (M := []) (m := 200) (n := 2000) trivial (T := T) (f := 62) (x := x62) rfl (by kernel_rfl)
def cwa13 : List PV := [.agg [.int .i64 2, .int .i64 0, .int .i64 0, .int .i64 0, .nils, .nils, .str [], .int .i64 0]]
def cwr13 : PV × List PV := (.str [97, 100, 100], [.none])
theorem cw13 : evI T 62 cwa13 = some cwr13 := call3_ok (M := []) (m := 200) (n := 2000) trivial (T := T) (f := 62) (x := x62) rfl (by kernel_rfl)
def cwa14 : List PV := [.agg [.int .i64 3, .int .i64 0, .int .i64 0, .int .i64 0, .nils, .nils, .str [], .int .i64 0]]
def cwr14 : PV × List PV := (.str [115, 117, 98], [.none])
theorem cw14 : evI T 62 cwa14 = some cwr14 := call3_ok (M := []) (m := 200) (n := 2000) trivial (T := T) (f := 62) (x := x62) rfl (by kernel_rfl)
def cwa15 : List PV := [.agg [.int .i64 4, .int .i64 0, .int .i64 0, .int .i64 0, .nils, .nils, .str [], .int .i64 0]]
def cwr15 : PV × List PV := (.str [109, 117, 108], [.none])
theorem cw15 : evI T 62 cwa15 = some cwr15 := call3_ok (M := []) (m := 200) (n := 2000) trivial (T := T) (f := 62) (x := x62) rfl (by kernel_rfl)
def cwa16 : List PV := [.agg [.int .i64 5, .int .i64 0, .int .i64 0, .int .i64 0, .nils, .nils, .str [], .int .i64 0]]
def cwr16 : PV × List PV := (.str [100, 105, 118], [.none])
theorem cw16 : evI T 62 cwa16 = some cwr16 := call3_ok (M := []) (m := 200) (n := 2000) trivial (T := T) (f := 62) (x := x62) rfl (by kernel_rfl)
def cwa17 : List PV := [.agg [.int .i64 6, .int .i64 0, .int .i64 0, .int .i64 0, .nils, .nils, .str [], .int .i64 0]]
def cwr17 : PV × List PV := (.str [108, 116], [.none])
theorem cw17 : evI T 62 cwa17 = some cwr17 := call3_ok (M := []) (m := 200) (n := 2000) trivial (T := T) (f := 62) (x := x62) rfl (by kernel_rfl)
def cwa18 : List PV := [.agg [.int .i64 7, .int .i64 0, .int .i64 0, .int .i64 0, .nils, .nils, .str [], .int .i64 0]]
def cwr18 : PV × List PV := (.str [101, 113], [.none])
theorem cw18 : evI T 62 cwa18 = some cwr18 := call3_ok (M := []) (m := 200) (n := 2000) trivial (T := T) (f := 62) (x := x62) rfl (by kernel_rfl)
def cwa19 : List PV := [.agg [.int .i64 8, .int .i64 0, .int .i64 0, .int .i64 0, .nils, .nils, .str [], .int .i64 0]]
def cwr19 : PV × List PV := (.str [110, 105, 108], [.none])
theorem cw19 : evI T 62 cwa19 = some cwr19 := call3_ok (M := []) (m := 200) (n := 2000) trivial (T := T) (f := 62) (x := x62) rfl (by kernel_rfl)
def cwa20 : List PV := [.agg [.int .i64 9, .int .i64 0, .int .i64 0, .int .i64 0, .nils, .nils, .str [], .int .i64 0]]
def cwr20 : PV × List PV := (.str [115, 97, 109, 101], [.none])
theorem cw20 : evI T 62 cwa20 = some cwr20 := call3_ok (M := []) (m := 200) (n := 2000) trivial (T := T) (f := 62) (x := x62) rfl (by kernel_rfl)
def cwa21 : List PV := [.agg [.int .i64 10, .int .i64 0, .int .i64 0, .int .i64 0, .nils, .nils, .str [], .int .i64 0]]
def cwr21 : PV × List PV := (.str [110, 101, 119], [.none])
theorem cw21 : evI T 62 cwa21 = some cwr21 := call3_ok (M := []) (m := 200) (n := 2000) trivial (T := T) (f := 62) (x := x62) rfl (by kernel_rfl)
def cwa22 : List PV := [.agg [.int .i64 11, .int .i64 0, .int .i64 0, .int .i64 0, .nils, .nils, .str [], .int .i64 0]]
def cwr22 : PV × List PV := (.str [108, 111, 97, 100, 46, 105], [.none])
theorem cw22 : evI T 62 cwa22 = some cwr22 := call3_ok (M := []) (m := 200) (n := 2000) trivial (T := T) (f := 62) (x := x62) rfl (by kernel_rfl)
def cwa23 : List PV := [.agg [.int .i64 12, .int .i64 0, .int .i64 0, .int .i64 0, .nils, .nils, .str [], .int .i64 0]]
def cwr23 : PV × List PV := (.str [108, 111, 97, 100, 46, 112], [.none])
theorem cw23 : evI T 62 cwa23 = some cwr23 := call3_ok (M := []) (m := 200) (n := 2000) trivial (T := T) (f := 62) (x := x62) rfl (by kernel_rfl)
def cwa24 : List PV := [.agg [.int .i64 13, .int .i64 0, .int .i64 0, .int .i64 0, .nils, .nils, .str [], .int .i64 0]]
def cwr24 : PV × List PV := (.str [115, 116, 111, 114, 101, 46, 105], [.none])
theorem cw24 : evI T 62 cwa24 = some cwr24 := call3_ok (M := []) (m := 200) (n := 2000) trivial (T := T) (f := 62) (x := x62) rfl (by kernel_rfl)
def cwa25 : List PV := [.agg [.int .i64 14, .int .i64 0, .int .i64 0, .int .i64 0, .nils, .nils, .str [], .int .i64 0]]
def cwr25 : PV × List PV := (.str [115, 116, 111, 114, 101, 46, 112], [.none])
theorem cw25 : evI T 62 cwa25 = some cwr25 := call3_ok (M := []) (m := 200) (n := 2000) trivial (T := T) (f := 62) (x := x62) rfl (by kernel_rfl)
def cwa26 : List PV := [.agg [.int .i64 15, .int .i64 0, .int .i64 0, .int .i64 0, .nils, .nils, .str [], .int .i64 0]]
def cwr26 : PV × List PV := (.str [115, 108, 111, 116], [.none])
theorem cw26 : evI T 62 cwa26 = some cwr26 := call3_ok (M := []) (m := 200) (n := 2000) trivial (T := T) (f := 62) (x := x62) rfl (by kernel_rfl)
def cwa27 : List PV := [.agg [.int .i64 16, .int .i64 0, .int .i64 0, .int .i64 0, .nils, .nils, .str [], .int .i64 0]]
def cwr27 : PV × List PV := (.str [103, 101, 116, 46, 105], [.none])
theorem cw27 : evI T 62 cwa27 = some cwr27 := call3_ok (M := []) (m := 200) (n := 2000) trivial (T := T) (f := 62) (x := x62) rfl (by kernel_rfl)
def cwa28 : List PV := [.agg [.int .i64 17, .int .i64 0, .int .i64 0, .int .i64 0, .nils, .nils, .str [], .int .i64 0]]
def cwr28 : PV × List PV := (.str [103, 101, 116, 46, 112], [.none])
theorem cw28 : evI T 62 cwa28 = some cwr28 := call3_ok (M := []) (m := 200) (n := 2000) trivial (T := T) (f := 62) (x := x62) rfl (by kernel_rfl)
def cwa29 : List PV := [.agg [.int .i64 18, .int .i64 0, .int .i64 0, .int .i64 0, .nils, .nils, .str [], .int .i64 0]]
def cwr29 : PV × List PV := (.str [112, 117, 116, 46, 105], [.none])
theorem cw29 : evI T 62 cwa29 = some cwr29 := call3_ok (M := []) (m := 200) (n := 2000) trivial (T := T) (f := 62) (x := x62) rfl (by kernel_rfl)
def cwa30 : List PV := [.agg [.int .i64 19, .int .i64 0, .int .i64 0, .int .i64 0, .nils, .nils, .str [], .int .i64 0]]
def cwr30 : PV × List PV := (.str [112, 117, 116, 46, 112], [.none])
theorem cw30 : evI T 62 cwa30 = some cwr30 := call3_ok (M := []) (m := 200) (n := 2000) trivial (T := T) (f := 62) (x := x62) rfl (by kernel_rfl)
def cwa31 : List PV := [.agg [.int .i64 20, .int .i64 0, .int .i64 0, .int .i64 1, .nils, .nils, .str [], .int .i64 0]]
def cwr31 : PV × List PV := (.str [112, 104, 105, 46, 105], [.none])
theorem cw31 : evI T 62 cwa31 = some cwr31 := call3_ok (M := []) (m := 200) (n := 2000) trivial (T := T) (f := 62) (x := x62) rfl (by kernel_rfl)
def cwa32 : List PV := [.agg [.int .i64 20, .int .i64 0, .int .i64 0, .int .i64 2, .nils, .nils, .str [], .int .i64 0]]
def cwr32 : PV × List PV := (.str [112, 104, 105, 46, 112], [.none])
theorem cw32 : evI T 62 cwa32 = some cwr32 := call3_ok (M := []) (m := 200) (n := 2000) trivial (T := T) (f := 62) (x := x62) rfl (by kernel_rfl)
def cwa33 : List PV := [.agg [.int .i64 20, .int .i64 0, .int .i64 0, .int .i64 3, .nils, .nils, .str [], .int .i64 0]]
def cwr33 : PV × List PV := (.str [112, 104, 105, 46, 100], [.none])
theorem cw33 : evI T 62 cwa33 = some cwr33 := call3_ok (M := []) (m := 200) (n := 2000) trivial (T := T) (f := 62) (x := x62) rfl (by kernel_rfl)
def cwa34 : List PV := [.agg [.int .i64 21, .int .i64 0, .int .i64 0, .int .i64 0, .nils, .nils, .str [], .int .i64 0]]
def cwr34 : PV × List PV := (.str [99, 97, 108, 108, 46, 110], [.none])
theorem cw34 : evI T 62 cwa34 = some cwr34 := call3_ok (M := []) (m := 200) (n := 2000) trivial (T := T) (f := 62) (x := x62) rfl (by kernel_rfl)
def cwa35 : List PV := [.agg [.int .i64 21, .int .i64 0, .int .i64 0, .int .i64 1, .nils, .nils, .str [], .int .i64 0]]
def cwr35 : PV × List PV := (.str [99, 97, 108, 108, 46, 105], [.none])
theorem cw35 : evI T 62 cwa35 = some cwr35 := call3_ok (M := []) (m := 200) (n := 2000) trivial (T := T) (f := 62) (x := x62) rfl (by kernel_rfl)
def cwa36 : List PV := [.agg [.int .i64 21, .int .i64 0, .int .i64 0, .int .i64 2, .nils, .nils, .str [], .int .i64 0]]
def cwr36 : PV × List PV := (.str [99, 97, 108, 108, 46, 112], [.none])
theorem cw36 : evI T 62 cwa36 = some cwr36 := call3_ok (M := []) (m := 200) (n := 2000) trivial (T := T) (f := 62) (x := x62) rfl (by kernel_rfl)
def cwa37 : List PV := [.agg [.int .i64 22, .int .i64 0, .int .i64 0, .int .i64 0, .nils, .nils, .str [], .int .i64 0]]
def cwr37 : PV × List PV := (.str [111, 117, 116], [.none])
theorem cw37 : evI T 62 cwa37 = some cwr37 := call3_ok (M := []) (m := 200) (n := 2000) trivial (T := T) (f := 62) (x := x62) rfl (by kernel_rfl)
def cwa38 : List PV := [.agg [.int .i64 23, .int .i64 0, .int .i64 0, .int .i64 0, .nils, .nils, .str [], .int .i64 0]]
def cwr38 : PV × List PV := (.str [112, 111, 108, 108], [.none])
theorem cw38 : evI T 62 cwa38 = some cwr38 := call3_ok (M := []) (m := 200) (n := 2000) trivial (T := T) (f := 62) (x := x62) rfl (by kernel_rfl)
def cwa39 : List PV := [.agg [.int .i64 24, .int .i64 0, .int .i64 0, .int .i64 2, .nils, .nils, .str [], .int .i64 0]]
def cwr39 : PV × List PV := (.str [114, 101, 108, 111, 99, 46, 112], [.none])
theorem cw39 : evI T 62 cwa39 = some cwr39 := call3_ok (M := []) (m := 200) (n := 2000) trivial (T := T) (f := 62) (x := x62) rfl (by kernel_rfl)
def cwa40 : List PV := [.agg [.int .i64 24, .int .i64 0, .int .i64 0, .int .i64 3, .nils, .nils, .str [], .int .i64 0]]
def cwr40 : PV × List PV := (.str [114, 101, 108, 111, 99, 46, 100], [.none])
theorem cw40 : evI T 62 cwa40 = some cwr40 := call3_ok (M := []) (m := 200) (n := 2000) trivial (T := T) (f := 62) (x := x62) rfl (by kernel_rfl)
def cwa41 : List PV := [.agg [.int .i64 25, .int .i64 0, .int .i64 0, .int .i64 0, .nils, .nils, .str [], .int .i64 0]]
def cwr41 : PV × List PV := (.str [109, 97, 114, 107], [.none])
theorem cw41 : evI T 62 cwa41 = some cwr41 := call3_ok (M := []) (m := 200) (n := 2000) trivial (T := T) (f := 62) (x := x62) rfl (by kernel_rfl)
def cwa42 : List PV := [.agg [.int .i64 26, .int .i64 0, .int .i64 0, .int .i64 0, .nils, .nils, .str [], .int .i64 0]]
def cwr42 : PV × List PV := (.str [98, 114], [.none])
theorem cw42 : evI T 62 cwa42 = some cwr42 := call3_ok (M := []) (m := 200) (n := 2000) trivial (T := T) (f := 62) (x := x62) rfl (by kernel_rfl)
def cwa43 : List PV := [.str [98, 114]]
def cwr43 : PV × List PV := (.tup [.int .i64 26, .int .i64 0], [.none])
theorem cw43 : evI T 57 cwa43 = some cwr43 := call3_ok (M := [(62, cwa12, cwr12), (62, cwa13, cwr13), (62, cwa14, cwr14), (62, cwa15, cwr15), (62, cwa16, cwr16), (62, cwa17, cwr17), (62, cwa18, cwr18), (62, cwa19, cwr19), (62, cwa20, cwr20), (62, cwa21, cwr21), (62, cwa22, cwr22), (62, cwa23, cwr23), (62, cwa24, cwr24), (62, cwa25, cwr25), (62, cwa26, cwr26), (62, cwa27, cwr27), (62, cwa28, cwr28), (62, cwa29, cwr29), (62, cwa30, cwr30), (62, cwa31, cwr31), (62, cwa32, cwr32), (62, cwa33, cwr33), (62, cwa34, cwr34), (62, cwa35, cwr35), (62, cwa36, cwr36), (62, cwa37, cwr37), (62, cwa38, cwr38), (62, cwa39, cwr39), (62, cwa40, cwr40), (62, cwa41, cwr41), (62, cwa42, cwr42)]) (m := 200) (n := 2000) ⟨cw12, cw13, cw14, cw15, cw16, cw17, cw18, cw19, cw20, cw21, cw22, cw23, cw24, cw25, cw26, cw27, cw28, cw29, cw30, cw31, cw32, cw33, cw34, cw35, cw36, cw37, cw38, cw39, cw40, cw41, cw42, trivial⟩ (T := T) (f := 57) (x := x57) rfl (by kernel_rfl)
def cwa44 : List PV := [.agg [.int .i64 26, .int .i64 (-1), .int .i64 0, .int .i64 0, .nils, .nils, .str [], .int .i64 18]]
def cwr44 : PV × List PV := (.int .i64 0, [.none])
theorem cw44 : evI T 58 cwa44 = some cwr44 := call3_ok (M := []) (m := 200) (n := 2000) trivial (T := T) (f := 58) (x := x58) rfl (by kernel_rfl)
def cwa45 : List PV := [.str [49]]
def cwr45 : PV × List PV := (.tup [.int .i64 1, .int .i64 0], [.none])
theorem cw45 : evI T 74 cwa45 = some cwr45 := call3_ok (M := []) (m := 200) (n := 2000) trivial (T := T) (f := 74) (x := x74) rfl (by kernel_rfl)
def cwa46 : List PV := [.str [49], .int .i64 255]
def cwr46 : PV × List PV := (.tup [.int .i64 1, .int .i64 0], [.none, .none])
theorem cw46 : evI T 71 cwa46 = some cwr46 := call3_ok (M := [(74, cwa45, cwr45)]) (m := 200) (n := 2000) ⟨cw45, trivial⟩ (T := T) (f := 71) (x := x71) rfl (by kernel_rfl)
def cwa47 : List PV := [.box cwv17, .int .u8 98, .int .i64 255, .int .i64 7]
def cwr47 : PV × List PV := (.int .i64 1, [.box cwv18, .none, .none, .none])
theorem cw47 : evI T 60 cwa47 = some cwr47 := call3_ok (M := [(71, cwa46, cwr46)]) (m := 200) (n := 2000) ⟨cw46, trivial⟩ (T := T) (f := 60) (x := x60) rfl (by kernel_rfl)
def cwa48 : List PV := [.box cwv17]
def cwr48 : PV × List PV := (.int .i64 1, cwv34)
theorem cw48 : evI T 77 cwa48 = some cwr48 := call3_ok (M := [(60, cwa47, cwr47)]) (m := 200) (n := 2000) ⟨cw47, trivial⟩ (T := T) (f := 77) (x := x77) rfl (by kernel_rfl)
def cwa49 : List PV := [.box cwv17, .agg [.int .i64 26, .int .i64 (-1), .int .i64 0, .int .i64 0, .nils, .nils, .str [], .int .i64 18], .str [108]]
def cwr49 : PV × List PV := (.agg [.int .i64 26, .int .i64 (-1), .int .i64 0, .int .i64 0, .sl 0 [], .sl 1 [.int .i64 1], .str [], .int .i64 18], [.box cwv18, .none, .none])
theorem cw49 : evI T 69 cwa49 = some cwr49 := call3_ok (M := [(77, cwa48, cwr48)]) (m := 200) (n := 2000) ⟨cw48, trivial⟩ (T := T) (f := 69) (x := x69) rfl (by kernel_rfl)
def cwa50 : List PV := [.box cwv17, .agg [.int .i64 26, .int .i64 (-1), .int .i64 0, .int .i64 0, .nils, .nils, .str [], .int .i64 18]]
def cwr50 : PV × List PV := (.agg [.int .i64 26, .int .i64 (-1), .int .i64 0, .int .i64 0, .sl 0 [], .sl 1 [.int .i64 1], .str [], .int .i64 18], cwv45)
theorem cw50 : evI T 59 cwa50 = some cwr50 := call3_ok (M := [(69, cwa49, cwr49)]) (m := 200) (n := 2000) ⟨cw49, trivial⟩ (T := T) (f := 59) (x := x59) rfl (by kernel_rfl)
def cwa51 : List PV := [.box [.sl 38 cwv12, .int .i64 9, .int .i64 93, .int .i64 1, .int .i64 0, .int .i64 0]]
def cwr51 : PV × List PV := (.agg [.int .i64 26, .int .i64 (-1), .int .i64 0, .int .i64 0, .sl 0 [], .sl 1 [.int .i64 1], .str [], .int .i64 18], cwv34)
theorem cw51 : evI T 55 cwa51 = some cwr51 := call3_ok (M := [(57, cwa43, cwr43), (58, cwa44, cwr44), (59, cwa50, cwr50)]) (m := 200) (n := 2000) ⟨cw43, cw44, cw50, trivial⟩ (T := T) (f := 55) (x := x55) rfl (by kernel_rfl)
def cwa52 : List PV := [.box cwv16, .int .i64 0]
def cwr52 : PV × List PV := (.sl 1 [.int .i64 26, .int .i64 (-1), .int .i64 0, .int .i64 0, .sl 0 [], .sl 1 [.int .i64 1], .str [], .int .i64 18], cwv45)
theorem cw52 : evI T 52 cwa52 = some cwr52 := call3_ok (M := [(48, cwa11, cwr11), (55, cwa51, cwr51)]) (m := 200) (n := 2000) ⟨cw11, cw51, trivial⟩ (T := T) (f := 52) (x := x52) rfl (by kernel_rfl)
def cwa53 : List PV := [.box [.sl 38 cwv12, .int .i64 12, .int .i64 93, .int .i64 1, .int .i64 0, .int .i64 0], .str [58]]
def cwr53 : PV × List PV := (.tup [], [.box [.sl 38 cwv12, .int .i64 13, .int .i64 93, .int .i64 1, .int .i64 0, .int .i64 0], .none])
theorem cw53 : evI T 48 cwa53 = some cwr53 := call3_ok (M := []) (m := 200) (n := 2000) trivial (T := T) (f := 48) (x := x48) rfl (by kernel_rfl)
def cwa54 : List PV := [.agg [.int .i64 27, .int .i64 0, .int .i64 0, .int .i64 0, .nils, .nils, .str [], .int .i64 0]]
def cwr54 : PV × List PV := (.str [105, 102], [.none])
theorem cw54 : evI T 62 cwa54 = some cwr54 := call3_ok (M := []) (m := 200) (n := 2000) trivial (T := T) (f := 62) (x := x62) rfl (by kernel_rfl)
def cwa55 : List PV := [.str [105, 102]]
def cwr55 : PV × List PV := (.tup [.int .i64 27, .int .i64 0], [.none])
theorem cw55 : evI T 57 cwa55 = some cwr55 := call3_ok (M := [(62, cwa12, cwr12), (62, cwa13, cwr13), (62, cwa14, cwr14), (62, cwa15, cwr15), (62, cwa16, cwr16), (62, cwa17, cwr17), (62, cwa18, cwr18), (62, cwa19, cwr19), (62, cwa20, cwr20), (62, cwa21, cwr21), (62, cwa22, cwr22), (62, cwa23, cwr23), (62, cwa24, cwr24), (62, cwa25, cwr25), (62, cwa26, cwr26), (62, cwa27, cwr27), (62, cwa28, cwr28), (62, cwa29, cwr29), (62, cwa30, cwr30), (62, cwa31, cwr31), (62, cwa32, cwr32), (62, cwa33, cwr33), (62, cwa34, cwr34), (62, cwa35, cwr35), (62, cwa36, cwr36), (62, cwa37, cwr37), (62, cwa38, cwr38), (62, cwa39, cwr39), (62, cwa40, cwr40), (62, cwa41, cwr41), (62, cwa42, cwr42), (62, cwa54, cwr54)]) (m := 200) (n := 2000) ⟨cw12, cw13, cw14, cw15, cw16, cw17, cw18, cw19, cw20, cw21, cw22, cw23, cw24, cw25, cw26, cw27, cw28, cw29, cw30, cw31, cw32, cw33, cw34, cw35, cw36, cw37, cw38, cw39, cw40, cw41, cw42, cw54, trivial⟩ (T := T) (f := 57) (x := x57) rfl (by kernel_rfl)
def cwa56 : List PV := [.agg [.int .i64 27, .int .i64 (-1), .int .i64 0, .int .i64 0, .nils, .nils, .str [], .int .i64 28]]
def cwr56 : PV × List PV := (.int .i64 0, [.none])
theorem cw56 : evI T 58 cwa56 = some cwr56 := call3_ok (M := []) (m := 200) (n := 2000) trivial (T := T) (f := 58) (x := x58) rfl (by kernel_rfl)
def cwa57 : List PV := [.str [48]]
def cwr57 : PV × List PV := (.tup [.int .i64 0, .int .i64 0], [.none])
theorem cw57 : evI T 74 cwa57 = some cwr57 := call3_ok (M := []) (m := 200) (n := 2000) trivial (T := T) (f := 74) (x := x74) rfl (by kernel_rfl)
def cwa58 : List PV := [.str [48], .int .i64 1048576]
def cwr58 : PV × List PV := (.tup [.int .i64 0, .int .i64 0], [.none, .none])
theorem cw58 : evI T 71 cwa58 = some cwr58 := call3_ok (M := [(74, cwa57, cwr57)]) (m := 200) (n := 2000) ⟨cw57, trivial⟩ (T := T) (f := 71) (x := x71) rfl (by kernel_rfl)
def cwa59 : List PV := [.box cwv19, .int .u8 37, .int .i64 1048576, .int .i64 8]
def cwr59 : PV × List PV := (.int .i64 0, [.box cwv20, .none, .none, .none])
theorem cw59 : evI T 60 cwa59 = some cwr59 := call3_ok (M := [(71, cwa58, cwr58)]) (m := 200) (n := 2000) ⟨cw58, trivial⟩ (T := T) (f := 60) (x := x60) rfl (by kernel_rfl)
def cwa60 : List PV := [.box cwv19]
def cwr60 : PV × List PV := (.int .i64 0, cwv35)
theorem cw60 : evI T 56 cwa60 = some cwr60 := call3_ok (M := [(60, cwa59, cwr59)]) (m := 200) (n := 2000) ⟨cw59, trivial⟩ (T := T) (f := 56) (x := x56) rfl (by kernel_rfl)
def cwa61 : List PV := [.str [50]]
def cwr61 : PV × List PV := (.tup [.int .i64 2, .int .i64 0], [.none])
theorem cw61 : evI T 74 cwa61 = some cwr61 := call3_ok (M := []) (m := 200) (n := 2000) trivial (T := T) (f := 74) (x := x74) rfl (by kernel_rfl)
def cwa62 : List PV := [.str [50], .int .i64 255]
def cwr62 : PV × List PV := (.tup [.int .i64 2, .int .i64 0], [.none, .none])
theorem cw62 : evI T 71 cwa62 = some cwr62 := call3_ok (M := [(74, cwa61, cwr61)]) (m := 200) (n := 2000) ⟨cw61, trivial⟩ (T := T) (f := 71) (x := x71) rfl (by kernel_rfl)
def cwa63 : List PV := [.box cwv20, .int .u8 98, .int .i64 255, .int .i64 7]
def cwr63 : PV × List PV := (.int .i64 2, [.box cwv21, .none, .none, .none])
theorem cw63 : evI T 60 cwa63 = some cwr63 := call3_ok (M := [(71, cwa62, cwr62)]) (m := 200) (n := 2000) ⟨cw62, trivial⟩ (T := T) (f := 60) (x := x60) rfl (by kernel_rfl)
def cwa64 : List PV := cwv35
def cwr64 : PV × List PV := (.int .i64 2, cwv36)
theorem cw64 : evI T 77 cwa64 = some cwr64 := call3_ok (M := [(60, cwa63, cwr63)]) (m := 200) (n := 2000) ⟨cw63, trivial⟩ (T := T) (f := 77) (x := x77) rfl (by kernel_rfl)
def cwa65 : List PV := [.str [51]]
def cwr65 : PV × List PV := (.tup [.int .i64 3, .int .i64 0], [.none])
theorem cw65 : evI T 74 cwa65 = some cwr65 := call3_ok (M := []) (m := 200) (n := 2000) trivial (T := T) (f := 74) (x := x74) rfl (by kernel_rfl)
def cwa66 : List PV := [.str [51], .int .i64 255]
def cwr66 : PV × List PV := (.tup [.int .i64 3, .int .i64 0], [.none, .none])
theorem cw66 : evI T 71 cwa66 = some cwr66 := call3_ok (M := [(74, cwa65, cwr65)]) (m := 200) (n := 2000) ⟨cw65, trivial⟩ (T := T) (f := 71) (x := x71) rfl (by kernel_rfl)
def cwa67 : List PV := [.box cwv21, .int .u8 98, .int .i64 255, .int .i64 7]
def cwr67 : PV × List PV := (.int .i64 3, [.box cwv22, .none, .none, .none])
theorem cw67 : evI T 60 cwa67 = some cwr67 := call3_ok (M := [(71, cwa66, cwr66)]) (m := 200) (n := 2000) ⟨cw66, trivial⟩ (T := T) (f := 60) (x := x60) rfl (by kernel_rfl)
def cwa68 : List PV := cwv36
def cwr68 : PV × List PV := (.int .i64 3, cwv37)
theorem cw68 : evI T 77 cwa68 = some cwr68 := call3_ok (M := [(60, cwa67, cwr67)]) (m := 200) (n := 2000) ⟨cw67, trivial⟩ (T := T) (f := 77) (x := x77) rfl (by kernel_rfl)
def cwa69 : List PV := [.box cwv19, .agg [.int .i64 27, .int .i64 (-1), .int .i64 0, .int .i64 0, .nils, .nils, .str [], .int .i64 28], .str [118, 108, 108]]
def cwr69 : PV × List PV := (.agg cwv0, [.box cwv22, .none, .none])
theorem cw69 : evI T 69 cwa69 = some cwr69 := call3_ok (M := [(56, cwa60, cwr60), (77, cwa64, cwr64), (77, cwa68, cwr68)]) (m := 200) (n := 2000) ⟨cw60, cw64, cw68, trivial⟩ (T := T) (f := 69) (x := x69) rfl (by kernel_rfl)
def cwa70 : List PV := [.box cwv19, .agg [.int .i64 27, .int .i64 (-1), .int .i64 0, .int .i64 0, .nils, .nils, .str [], .int .i64 28]]
def cwr70 : PV × List PV := (.agg cwv0, cwv46)
theorem cw70 : evI T 59 cwa70 = some cwr70 := call3_ok (M := [(69, cwa69, cwr69)]) (m := 200) (n := 2000) ⟨cw69, trivial⟩ (T := T) (f := 59) (x := x59) rfl (by kernel_rfl)
def cwa71 : List PV := [.box [.sl 38 cwv12, .int .i64 13, .int .i64 93, .int .i64 2, .int .i64 0, .int .i64 0]]
def cwr71 : PV × List PV := (.agg cwv0, cwv37)
theorem cw71 : evI T 55 cwa71 = some cwr71 := call3_ok (M := [(57, cwa55, cwr55), (58, cwa56, cwr56), (59, cwa70, cwr70)]) (m := 200) (n := 2000) ⟨cw55, cw56, cw70, trivial⟩ (T := T) (f := 55) (x := x55) rfl (by kernel_rfl)
def cwa72 : List PV := [.box cwv18, .int .i64 1]
def cwr72 : PV × List PV := (.sl 1 cwv0, cwv46)
theorem cw72 : evI T 52 cwa72 = some cwr72 := call3_ok (M := [(48, cwa53, cwr53), (55, cwa71, cwr71)]) (m := 200) (n := 2000) ⟨cw53, cw71, trivial⟩ (T := T) (f := 52) (x := x52) rfl (by kernel_rfl)
def cwa73 : List PV := [.box [.sl 38 cwv12, .int .i64 18, .int .i64 93, .int .i64 2, .int .i64 0, .int .i64 0], .str [58]]
def cwr73 : PV × List PV := (.tup [], [.box [.sl 38 cwv12, .int .i64 19, .int .i64 93, .int .i64 2, .int .i64 0, .int .i64 0], .none])
theorem cw73 : evI T 48 cwa73 = some cwr73 := call3_ok (M := []) (m := 200) (n := 2000) trivial (T := T) (f := 48) (x := x48) rfl (by kernel_rfl)
def cwa74 : List PV := [.agg [.int .i64 26, .int .i64 (-1), .int .i64 0, .int .i64 0, .nils, .nils, .str [], .int .i64 44]]
def cwr74 : PV × List PV := (.int .i64 0, [.none])
theorem cw74 : evI T 58 cwa74 = some cwr74 := call3_ok (M := []) (m := 200) (n := 2000) trivial (T := T) (f := 58) (x := x58) rfl (by kernel_rfl)
def cwa75 : List PV := [.str [52]]
def cwr75 : PV × List PV := (.tup [.int .i64 4, .int .i64 0], [.none])
theorem cw75 : evI T 74 cwa75 = some cwr75 := call3_ok (M := []) (m := 200) (n := 2000) trivial (T := T) (f := 74) (x := x74) rfl (by kernel_rfl)
def cwa76 : List PV := [.str [52], .int .i64 255]
def cwr76 : PV × List PV := (.tup [.int .i64 4, .int .i64 0], [.none, .none])
theorem cw76 : evI T 71 cwa76 = some cwr76 := call3_ok (M := [(74, cwa75, cwr75)]) (m := 200) (n := 2000) ⟨cw75, trivial⟩ (T := T) (f := 71) (x := x71) rfl (by kernel_rfl)
def cwa77 : List PV := [.box cwv23, .int .u8 98, .int .i64 255, .int .i64 7]
def cwr77 : PV × List PV := (.int .i64 4, [.box cwv24, .none, .none, .none])
theorem cw77 : evI T 60 cwa77 = some cwr77 := call3_ok (M := [(71, cwa76, cwr76)]) (m := 200) (n := 2000) ⟨cw76, trivial⟩ (T := T) (f := 60) (x := x60) rfl (by kernel_rfl)
def cwa78 : List PV := [.box cwv23]
def cwr78 : PV × List PV := (.int .i64 4, cwv38)
theorem cw78 : evI T 77 cwa78 = some cwr78 := call3_ok (M := [(60, cwa77, cwr77)]) (m := 200) (n := 2000) ⟨cw77, trivial⟩ (T := T) (f := 77) (x := x77) rfl (by kernel_rfl)
def cwa79 : List PV := [.box cwv23, .agg [.int .i64 26, .int .i64 (-1), .int .i64 0, .int .i64 0, .nils, .nils, .str [], .int .i64 44], .str [108]]
def cwr79 : PV × List PV := (.agg [.int .i64 26, .int .i64 (-1), .int .i64 0, .int .i64 0, .sl 0 [], .sl 1 [.int .i64 4], .str [], .int .i64 44], [.box cwv24, .none, .none])
theorem cw79 : evI T 69 cwa79 = some cwr79 := call3_ok (M := [(77, cwa78, cwr78)]) (m := 200) (n := 2000) ⟨cw78, trivial⟩ (T := T) (f := 69) (x := x69) rfl (by kernel_rfl)
def cwa80 : List PV := [.box cwv23, .agg [.int .i64 26, .int .i64 (-1), .int .i64 0, .int .i64 0, .nils, .nils, .str [], .int .i64 44]]
def cwr80 : PV × List PV := (.agg [.int .i64 26, .int .i64 (-1), .int .i64 0, .int .i64 0, .sl 0 [], .sl 1 [.int .i64 4], .str [], .int .i64 44], cwv47)
theorem cw80 : evI T 59 cwa80 = some cwr80 := call3_ok (M := [(69, cwa79, cwr79)]) (m := 200) (n := 2000) ⟨cw79, trivial⟩ (T := T) (f := 59) (x := x59) rfl (by kernel_rfl)
def cwa81 : List PV := [.box [.sl 38 cwv12, .int .i64 19, .int .i64 93, .int .i64 3, .int .i64 0, .int .i64 0]]
def cwr81 : PV × List PV := (.agg [.int .i64 26, .int .i64 (-1), .int .i64 0, .int .i64 0, .sl 0 [], .sl 1 [.int .i64 4], .str [], .int .i64 44], cwv38)
theorem cw81 : evI T 55 cwa81 = some cwr81 := call3_ok (M := [(57, cwa43, cwr43), (58, cwa74, cwr74), (59, cwa80, cwr80)]) (m := 200) (n := 2000) ⟨cw43, cw74, cw80, trivial⟩ (T := T) (f := 55) (x := x55) rfl (by kernel_rfl)
def cwa82 : List PV := [.box cwv22, .int .i64 2]
def cwr82 : PV × List PV := (.sl 1 [.int .i64 26, .int .i64 (-1), .int .i64 0, .int .i64 0, .sl 0 [], .sl 1 [.int .i64 4], .str [], .int .i64 44], cwv47)
theorem cw82 : evI T 52 cwa82 = some cwr82 := call3_ok (M := [(48, cwa73, cwr73), (55, cwa81, cwr81)]) (m := 200) (n := 2000) ⟨cw73, cw81, trivial⟩ (T := T) (f := 52) (x := x52) rfl (by kernel_rfl)
def cwa83 : List PV := [.box [.sl 38 cwv12, .int .i64 22, .int .i64 93, .int .i64 3, .int .i64 0, .int .i64 0], .str [58]]
def cwr83 : PV × List PV := (.tup [], [.box [.sl 38 cwv12, .int .i64 23, .int .i64 93, .int .i64 3, .int .i64 0, .int .i64 0], .none])
theorem cw83 : evI T 48 cwa83 = some cwr83 := call3_ok (M := []) (m := 200) (n := 2000) trivial (T := T) (f := 48) (x := x48) rfl (by kernel_rfl)
def cwa84 : List PV := [.agg [.int .i64 26, .int .i64 (-1), .int .i64 0, .int .i64 0, .nils, .nils, .str [], .int .i64 54]]
def cwr84 : PV × List PV := (.int .i64 0, [.none])
theorem cw84 : evI T 58 cwa84 = some cwr84 := call3_ok (M := []) (m := 200) (n := 2000) trivial (T := T) (f := 58) (x := x58) rfl (by kernel_rfl)
def cwa85 : List PV := [.box cwv25, .int .u8 98, .int .i64 255, .int .i64 7]
def cwr85 : PV × List PV := (.int .i64 4, [.box cwv26, .none, .none, .none])
theorem cw85 : evI T 60 cwa85 = some cwr85 := call3_ok (M := [(71, cwa76, cwr76)]) (m := 200) (n := 2000) ⟨cw76, trivial⟩ (T := T) (f := 60) (x := x60) rfl (by kernel_rfl)
def cwa86 : List PV := [.box cwv25]
def cwr86 : PV × List PV := (.int .i64 4, cwv39)
theorem cw86 : evI T 77 cwa86 = some cwr86 := call3_ok (M := [(60, cwa85, cwr85)]) (m := 200) (n := 2000) ⟨cw85, trivial⟩ (T := T) (f := 77) (x := x77) rfl (by kernel_rfl)
def cwa87 : List PV := [.box cwv25, .agg [.int .i64 26, .int .i64 (-1), .int .i64 0, .int .i64 0, .nils, .nils, .str [], .int .i64 54], .str [108]]
def cwr87 : PV × List PV := (.agg [.int .i64 26, .int .i64 (-1), .int .i64 0, .int .i64 0, .sl 0 [], .sl 1 [.int .i64 4], .str [], .int .i64 54], [.box cwv26, .none, .none])
theorem cw87 : evI T 69 cwa87 = some cwr87 := call3_ok (M := [(77, cwa86, cwr86)]) (m := 200) (n := 2000) ⟨cw86, trivial⟩ (T := T) (f := 69) (x := x69) rfl (by kernel_rfl)
def cwa88 : List PV := [.box cwv25, .agg [.int .i64 26, .int .i64 (-1), .int .i64 0, .int .i64 0, .nils, .nils, .str [], .int .i64 54]]
def cwr88 : PV × List PV := (.agg [.int .i64 26, .int .i64 (-1), .int .i64 0, .int .i64 0, .sl 0 [], .sl 1 [.int .i64 4], .str [], .int .i64 54], cwv48)
theorem cw88 : evI T 59 cwa88 = some cwr88 := call3_ok (M := [(69, cwa87, cwr87)]) (m := 200) (n := 2000) ⟨cw87, trivial⟩ (T := T) (f := 59) (x := x59) rfl (by kernel_rfl)
def cwa89 : List PV := [.box [.sl 38 cwv12, .int .i64 23, .int .i64 93, .int .i64 4, .int .i64 0, .int .i64 0]]
def cwr89 : PV × List PV := (.agg [.int .i64 26, .int .i64 (-1), .int .i64 0, .int .i64 0, .sl 0 [], .sl 1 [.int .i64 4], .str [], .int .i64 54], cwv39)
theorem cw89 : evI T 55 cwa89 = some cwr89 := call3_ok (M := [(57, cwa43, cwr43), (58, cwa84, cwr84), (59, cwa88, cwr88)]) (m := 200) (n := 2000) ⟨cw43, cw84, cw88, trivial⟩ (T := T) (f := 55) (x := x55) rfl (by kernel_rfl)
def cwa90 : List PV := [.box cwv24, .int .i64 3]
def cwr90 : PV × List PV := (.sl 1 [.int .i64 26, .int .i64 (-1), .int .i64 0, .int .i64 0, .sl 0 [], .sl 1 [.int .i64 4], .str [], .int .i64 54], cwv48)
theorem cw90 : evI T 52 cwa90 = some cwr90 := call3_ok (M := [(48, cwa83, cwr83), (55, cwa89, cwr89)]) (m := 200) (n := 2000) ⟨cw83, cw89, trivial⟩ (T := T) (f := 52) (x := x52) rfl (by kernel_rfl)
def cwa91 : List PV := [.box [.sl 38 cwv12, .int .i64 26, .int .i64 93, .int .i64 4, .int .i64 0, .int .i64 0], .str [58]]
def cwr91 : PV × List PV := (.tup [], [.box [.sl 38 cwv12, .int .i64 27, .int .i64 93, .int .i64 4, .int .i64 0, .int .i64 0], .none])
theorem cw91 : evI T 48 cwa91 = some cwr91 := call3_ok (M := []) (m := 200) (n := 2000) trivial (T := T) (f := 48) (x := x48) rfl (by kernel_rfl)
def cwa92 : List PV := [.agg [.int .i64 27, .int .i64 (-1), .int .i64 0, .int .i64 0, .nils, .nils, .str [], .int .i64 64]]
def cwr92 : PV × List PV := (.int .i64 0, [.none])
theorem cw92 : evI T 58 cwa92 = some cwr92 := call3_ok (M := []) (m := 200) (n := 2000) trivial (T := T) (f := 58) (x := x58) rfl (by kernel_rfl)
def cwa93 : List PV := [.box cwv27, .int .u8 37, .int .i64 1048576, .int .i64 8]
def cwr93 : PV × List PV := (.int .i64 0, [.box cwv28, .none, .none, .none])
theorem cw93 : evI T 60 cwa93 = some cwr93 := call3_ok (M := [(71, cwa58, cwr58)]) (m := 200) (n := 2000) ⟨cw58, trivial⟩ (T := T) (f := 60) (x := x60) rfl (by kernel_rfl)
def cwa94 : List PV := [.box cwv27]
def cwr94 : PV × List PV := (.int .i64 0, cwv40)
theorem cw94 : evI T 56 cwa94 = some cwr94 := call3_ok (M := [(60, cwa93, cwr93)]) (m := 200) (n := 2000) ⟨cw93, trivial⟩ (T := T) (f := 56) (x := x56) rfl (by kernel_rfl)
def cwa95 : List PV := [.box cwv28, .int .u8 98, .int .i64 255, .int .i64 7]
def cwr95 : PV × List PV := (.int .i64 1, [.box cwv29, .none, .none, .none])
theorem cw95 : evI T 60 cwa95 = some cwr95 := call3_ok (M := [(71, cwa46, cwr46)]) (m := 200) (n := 2000) ⟨cw46, trivial⟩ (T := T) (f := 60) (x := x60) rfl (by kernel_rfl)
def cwa96 : List PV := cwv40
def cwr96 : PV × List PV := (.int .i64 1, cwv41)
theorem cw96 : evI T 77 cwa96 = some cwr96 := call3_ok (M := [(60, cwa95, cwr95)]) (m := 200) (n := 2000) ⟨cw95, trivial⟩ (T := T) (f := 77) (x := x77) rfl (by kernel_rfl)
def cwa97 : List PV := [.str [53]]
def cwr97 : PV × List PV := (.tup [.int .i64 5, .int .i64 0], [.none])
theorem cw97 : evI T 74 cwa97 = some cwr97 := call3_ok (M := []) (m := 200) (n := 2000) trivial (T := T) (f := 74) (x := x74) rfl (by kernel_rfl)
def cwa98 : List PV := [.str [53], .int .i64 255]
def cwr98 : PV × List PV := (.tup [.int .i64 5, .int .i64 0], [.none, .none])
theorem cw98 : evI T 71 cwa98 = some cwr98 := call3_ok (M := [(74, cwa97, cwr97)]) (m := 200) (n := 2000) ⟨cw97, trivial⟩ (T := T) (f := 71) (x := x71) rfl (by kernel_rfl)
def cwa99 : List PV := [.box cwv29, .int .u8 98, .int .i64 255, .int .i64 7]
def cwr99 : PV × List PV := (.int .i64 5, [.box cwv30, .none, .none, .none])
theorem cw99 : evI T 60 cwa99 = some cwr99 := call3_ok (M := [(71, cwa98, cwr98)]) (m := 200) (n := 2000) ⟨cw98, trivial⟩ (T := T) (f := 60) (x := x60) rfl (by kernel_rfl)
def cwa100 : List PV := cwv41
def cwr100 : PV × List PV := (.int .i64 5, cwv42)
theorem cw100 : evI T 77 cwa100 = some cwr100 := call3_ok (M := [(60, cwa99, cwr99)]) (m := 200) (n := 2000) ⟨cw99, trivial⟩ (T := T) (f := 77) (x := x77) rfl (by kernel_rfl)
def cwa101 : List PV := [.box cwv27, .agg [.int .i64 27, .int .i64 (-1), .int .i64 0, .int .i64 0, .nils, .nils, .str [], .int .i64 64], .str [118, 108, 108]]
def cwr101 : PV × List PV := (.agg cwv1, [.box cwv30, .none, .none])
theorem cw101 : evI T 69 cwa101 = some cwr101 := call3_ok (M := [(56, cwa94, cwr94), (77, cwa96, cwr96), (77, cwa100, cwr100)]) (m := 200) (n := 2000) ⟨cw94, cw96, cw100, trivial⟩ (T := T) (f := 69) (x := x69) rfl (by kernel_rfl)
def cwa102 : List PV := [.box cwv27, .agg [.int .i64 27, .int .i64 (-1), .int .i64 0, .int .i64 0, .nils, .nils, .str [], .int .i64 64]]
def cwr102 : PV × List PV := (.agg cwv1, cwv49)
theorem cw102 : evI T 59 cwa102 = some cwr102 := call3_ok (M := [(69, cwa101, cwr101)]) (m := 200) (n := 2000) ⟨cw101, trivial⟩ (T := T) (f := 59) (x := x59) rfl (by kernel_rfl)
def cwa103 : List PV := [.box [.sl 38 cwv12, .int .i64 27, .int .i64 93, .int .i64 5, .int .i64 0, .int .i64 0]]
def cwr103 : PV × List PV := (.agg cwv1, cwv42)
theorem cw103 : evI T 55 cwa103 = some cwr103 := call3_ok (M := [(57, cwa55, cwr55), (58, cwa92, cwr92), (59, cwa102, cwr102)]) (m := 200) (n := 2000) ⟨cw55, cw92, cw102, trivial⟩ (T := T) (f := 55) (x := x55) rfl (by kernel_rfl)
def cwa104 : List PV := [.box cwv26, .int .i64 4]
def cwr104 : PV × List PV := (.sl 1 cwv1, cwv49)
theorem cw104 : evI T 52 cwa104 = some cwr104 := call3_ok (M := [(48, cwa91, cwr91), (55, cwa103, cwr103)]) (m := 200) (n := 2000) ⟨cw91, cw103, trivial⟩ (T := T) (f := 52) (x := x52) rfl (by kernel_rfl)
def cwa105 : List PV := [.box [.sl 38 cwv12, .int .i64 32, .int .i64 93, .int .i64 5, .int .i64 0, .int .i64 0], .str [58]]
def cwr105 : PV × List PV := (.tup [], [.box [.sl 38 cwv12, .int .i64 33, .int .i64 93, .int .i64 5, .int .i64 0, .int .i64 0], .none])
theorem cw105 : evI T 48 cwa105 = some cwr105 := call3_ok (M := []) (m := 200) (n := 2000) trivial (T := T) (f := 48) (x := x48) rfl (by kernel_rfl)
def cwa106 : List PV := [.agg [.int .i64 28, .int .i64 0, .int .i64 0, .int .i64 0, .nils, .nils, .str [], .int .i64 0]]
def cwr106 : PV × List PV := (.str [114, 101, 116], [.none])
theorem cw106 : evI T 62 cwa106 = some cwr106 := call3_ok (M := []) (m := 200) (n := 2000) trivial (T := T) (f := 62) (x := x62) rfl (by kernel_rfl)
def cwa107 : List PV := [.str [114, 101, 116]]
def cwr107 : PV × List PV := (.tup [.int .i64 28, .int .i64 0], [.none])
theorem cw107 : evI T 57 cwa107 = some cwr107 := call3_ok (M := [(62, cwa12, cwr12), (62, cwa13, cwr13), (62, cwa14, cwr14), (62, cwa15, cwr15), (62, cwa16, cwr16), (62, cwa17, cwr17), (62, cwa18, cwr18), (62, cwa19, cwr19), (62, cwa20, cwr20), (62, cwa21, cwr21), (62, cwa22, cwr22), (62, cwa23, cwr23), (62, cwa24, cwr24), (62, cwa25, cwr25), (62, cwa26, cwr26), (62, cwa27, cwr27), (62, cwa28, cwr28), (62, cwa29, cwr29), (62, cwa30, cwr30), (62, cwa31, cwr31), (62, cwa32, cwr32), (62, cwa33, cwr33), (62, cwa34, cwr34), (62, cwa35, cwr35), (62, cwa36, cwr36), (62, cwa37, cwr37), (62, cwa38, cwr38), (62, cwa39, cwr39), (62, cwa40, cwr40), (62, cwa41, cwr41), (62, cwa42, cwr42), (62, cwa54, cwr54), (62, cwa106, cwr106)]) (m := 200) (n := 2000) ⟨cw12, cw13, cw14, cw15, cw16, cw17, cw18, cw19, cw20, cw21, cw22, cw23, cw24, cw25, cw26, cw27, cw28, cw29, cw30, cw31, cw32, cw33, cw34, cw35, cw36, cw37, cw38, cw39, cw40, cw41, cw42, cw54, cw106, trivial⟩ (T := T) (f := 57) (x := x57) rfl (by kernel_rfl)
def cwa108 : List PV := [.agg [.int .i64 28, .int .i64 (-1), .int .i64 0, .int .i64 0, .nils, .nils, .str [], .int .i64 80]]
def cwr108 : PV × List PV := (.int .i64 0, [.none])
theorem cw108 : evI T 58 cwa108 = some cwr108 := call3_ok (M := []) (m := 200) (n := 2000) trivial (T := T) (f := 58) (x := x58) rfl (by kernel_rfl)
def cwa109 : List PV := cwv43
def cwr109 : PV × List PV := (.bool false, cwv43)
theorem cw109 : evI T 68 cwa109 = some cwr109 := call3_ok (M := []) (m := 200) (n := 2000) trivial (T := T) (f := 68) (x := x68) rfl (by kernel_rfl)
def cwa110 : List PV := [.box cwv31, .agg [.int .i64 28, .int .i64 (-1), .int .i64 0, .int .i64 0, .nils, .nils, .str [], .int .i64 80]]
def cwr110 : PV × List PV := (.agg [.int .i64 28, .int .i64 (-1), .int .i64 0, .int .i64 0, .sl 0 [], .sl 0 [], .str [], .int .i64 80], cwv50)
theorem cw110 : evI T 59 cwa110 = some cwr110 := call3_ok (M := [(68, cwa109, cwr109)]) (m := 200) (n := 2000) ⟨cw109, trivial⟩ (T := T) (f := 59) (x := x59) rfl (by kernel_rfl)
def cwa111 : List PV := [.box [.sl 38 cwv12, .int .i64 33, .int .i64 93, .int .i64 6, .int .i64 0, .int .i64 0]]
def cwr111 : PV × List PV := (.agg [.int .i64 28, .int .i64 (-1), .int .i64 0, .int .i64 0, .sl 0 [], .sl 0 [], .str [], .int .i64 80], cwv43)
theorem cw111 : evI T 55 cwa111 = some cwr111 := call3_ok (M := [(57, cwa107, cwr107), (58, cwa108, cwr108), (59, cwa110, cwr110)]) (m := 200) (n := 2000) ⟨cw107, cw108, cw110, trivial⟩ (T := T) (f := 55) (x := x55) rfl (by kernel_rfl)
def cwa112 : List PV := [.box cwv30, .int .i64 5]
def cwr112 : PV × List PV := (.sl 1 [.int .i64 28, .int .i64 (-1), .int .i64 0, .int .i64 0, .sl 0 [], .sl 0 [], .str [], .int .i64 80], cwv50)
theorem cw112 : evI T 52 cwa112 = some cwr112 := call3_ok (M := [(48, cwa105, cwr105), (55, cwa111, cwr111)]) (m := 200) (n := 2000) ⟨cw105, cw111, trivial⟩ (T := T) (f := 52) (x := x52) rfl (by kernel_rfl)
def cwa113 : List PV := [.box [.sl 38 cwv12, .int .i64 35, .int .i64 93, .int .i64 6, .int .i64 0, .int .i64 0], .str [58]]
def cwr113 : PV × List PV := (.tup [], [.box [.sl 38 cwv12, .int .i64 36, .int .i64 93, .int .i64 6, .int .i64 0, .int .i64 0], .none])
theorem cw113 : evI T 48 cwa113 = some cwr113 := call3_ok (M := []) (m := 200) (n := 2000) trivial (T := T) (f := 48) (x := x48) rfl (by kernel_rfl)
def cwa114 : List PV := [.agg [.int .i64 28, .int .i64 (-1), .int .i64 0, .int .i64 0, .nils, .nils, .str [], .int .i64 88]]
def cwr114 : PV × List PV := (.int .i64 0, [.none])
theorem cw114 : evI T 58 cwa114 = some cwr114 := call3_ok (M := []) (m := 200) (n := 2000) trivial (T := T) (f := 58) (x := x58) rfl (by kernel_rfl)
def cwa115 : List PV := cwv44
def cwr115 : PV × List PV := (.bool false, cwv44)
theorem cw115 : evI T 68 cwa115 = some cwr115 := call3_ok (M := []) (m := 200) (n := 2000) trivial (T := T) (f := 68) (x := x68) rfl (by kernel_rfl)
def cwa116 : List PV := [.box cwv32, .agg [.int .i64 28, .int .i64 (-1), .int .i64 0, .int .i64 0, .nils, .nils, .str [], .int .i64 88]]
def cwr116 : PV × List PV := (.agg [.int .i64 28, .int .i64 (-1), .int .i64 0, .int .i64 0, .sl 0 [], .sl 0 [], .str [], .int .i64 88], cwv51)
theorem cw116 : evI T 59 cwa116 = some cwr116 := call3_ok (M := [(68, cwa115, cwr115)]) (m := 200) (n := 2000) ⟨cw115, trivial⟩ (T := T) (f := 59) (x := x59) rfl (by kernel_rfl)
def cwa117 : List PV := [.box [.sl 38 cwv12, .int .i64 36, .int .i64 93, .int .i64 7, .int .i64 0, .int .i64 0]]
def cwr117 : PV × List PV := (.agg [.int .i64 28, .int .i64 (-1), .int .i64 0, .int .i64 0, .sl 0 [], .sl 0 [], .str [], .int .i64 88], cwv44)
theorem cw117 : evI T 55 cwa117 = some cwr117 := call3_ok (M := [(57, cwa107, cwr107), (58, cwa114, cwr114), (59, cwa116, cwr116)]) (m := 200) (n := 2000) ⟨cw107, cw114, cw116, trivial⟩ (T := T) (f := 55) (x := x55) rfl (by kernel_rfl)
def cwa118 : List PV := [.box cwv31, .int .i64 6]
def cwr118 : PV × List PV := (.sl 1 [.int .i64 28, .int .i64 (-1), .int .i64 0, .int .i64 0, .sl 0 [], .sl 0 [], .str [], .int .i64 88], cwv51)
theorem cw118 : evI T 52 cwa118 = some cwr118 := call3_ok (M := [(48, cwa113, cwr113), (55, cwa117, cwr117)]) (m := 200) (n := 2000) ⟨cw113, cw117, trivial⟩ (T := T) (f := 52) (x := x52) rfl (by kernel_rfl)
def cwa119 : List PV := [.box cwv32, .str [125]]
def cwr119 : PV × List PV := (.tup [], [.box cwv33, .none])
theorem cw119 : evI T 48 cwa119 = some cwr119 := call3_ok (M := []) (m := 200) (n := 2000) trivial (T := T) (f := 48) (x := x48) rfl (by kernel_rfl)
def cwa120 : List PV := [.box cwv13]
def cwr120 : PV × List PV := (.agg cwv5, [.box cwv33])
theorem cw120 : evI T 44 cwa120 = some cwr120 := call3_ok (M := [(48, cwa6, cwr6), (49, cwa7, cwr7), (48, cwa8, cwr8), (48, cwa9, cwr9), (48, cwa10, cwr10), (52, cwa52, cwr52), (52, cwa72, cwr72), (52, cwa82, cwr82), (52, cwa90, cwr90), (52, cwa104, cwr104), (52, cwa112, cwr112), (52, cwa118, cwr118), (48, cwa119, cwr119)]) (m := 200) (n := 2000) ⟨cw6, cw7, cw8, cw9, cw10, cw52, cw72, cw82, cw90, cw104, cw112, cw118, cw119, trivial⟩ (T := T) (f := 44) (x := x44) rfl (by kernel_rfl)
def cwa121 : List PV := cwv3
def cwr121 : PV × List PV := (.tup [.agg [.sl 1 cwv5], .agg [.int .i64 0, .int .i64 0]], [.none])
theorem cw121 : evI T 38 cwa121 = some cwr121 := call3_ok (M := [(42, cwa5, cwr5), (44, cwa120, cwr120)]) (m := 200) (n := 2000) ⟨cw5, cw120, trivial⟩ (T := T) (f := 38) (x := x38) rfl (by kernel_rfl)
def cwa122 : List PV := []
def cwr122 : PV × List PV := (.agg cwv5, [])
theorem cw122 : evI T 27 cwa122 = some cwr122 := call3_ok (M := [(38, cwa121, cwr121)]) (m := 200) (n := 2000) ⟨cw121, trivial⟩ (T := T) (f := 27) (x := x27) rfl (by kernel_rfl)
def cwa123 : List PV := [.int .i64 26]
def cwr123 : PV × List PV := (.agg [.str [98, 114], .int .i64 0, .int .i64 0, .int .i64 0, .bool false, .bool false, .bool false, .bool true, .bool true], [.none])
theorem cw123 : evI T 39 cwa123 = some cwr123 := call3_ok (M := []) (m := 200) (n := 2000) trivial (T := T) (f := 39) (x := x39) rfl (by kernel_rfl)
def cwa124 : List PV := [.int .i64 26]
def cwr124 : PV × List PV := (.bool true, [.none])
theorem cw124 : evI T 28 cwa124 = some cwr124 := call3_ok (M := [(39, cwa123, cwr123)]) (m := 200) (n := 2000) ⟨cw123, trivial⟩ (T := T) (f := 28) (x := x28) rfl (by kernel_rfl)
def cwa125 : List PV := cwv8
def cwr125 : PV × List PV := (.int .i64 (-1), [.none, .none])
theorem cw125 : evI T 40 cwa125 = some cwr125 := call3_ok (M := []) (m := 200) (n := 2000) trivial (T := T) (f := 40) (x := x40) rfl (by kernel_rfl)
def cwa126 : List PV := cwv8
def cwr126 : PV × List PV := (.bool false, [.none, .none])
theorem cw126 : evI T 29 cwa126 = some cwr126 := call3_ok (M := [(40, cwa125, cwr125)]) (m := 200) (n := 2000) ⟨cw125, trivial⟩ (T := T) (f := 29) (x := x29) rfl (by kernel_rfl)
def cwa127 : List PV := [.int .i64 27]
def cwr127 : PV × List PV := (.agg [.str [105, 102], .int .i64 1, .int .i64 0, .int .i64 0, .bool false, .bool false, .bool false, .bool true, .bool true], [.none])
theorem cw127 : evI T 39 cwa127 = some cwr127 := call3_ok (M := []) (m := 200) (n := 2000) trivial (T := T) (f := 39) (x := x39) rfl (by kernel_rfl)
def cwa128 : List PV := [.int .i64 27]
def cwr128 : PV × List PV := (.bool true, [.none])
theorem cw128 : evI T 28 cwa128 = some cwr128 := call3_ok (M := [(39, cwa127, cwr127)]) (m := 200) (n := 2000) ⟨cw127, trivial⟩ (T := T) (f := 28) (x := x28) rfl (by kernel_rfl)
def cwa129 : List PV := cwv10
def cwr129 : PV × List PV := (.int .i64 (-1), [.none, .none])
theorem cw129 : evI T 40 cwa129 = some cwr129 := call3_ok (M := []) (m := 200) (n := 2000) trivial (T := T) (f := 40) (x := x40) rfl (by kernel_rfl)
def cwa130 : List PV := cwv10
def cwr130 : PV × List PV := (.bool false, [.none, .none])
theorem cw130 : evI T 29 cwa130 = some cwr130 := call3_ok (M := [(40, cwa129, cwr129)]) (m := 200) (n := 2000) ⟨cw129, trivial⟩ (T := T) (f := 29) (x := x29) rfl (by kernel_rfl)
def cwa131 : List PV := cwv9
def cwr131 : PV × List PV := (.int .i64 (-1), [.none, .none])
theorem cw131 : evI T 40 cwa131 = some cwr131 := call3_ok (M := []) (m := 200) (n := 2000) trivial (T := T) (f := 40) (x := x40) rfl (by kernel_rfl)
def cwa132 : List PV := cwv9
def cwr132 : PV × List PV := (.bool false, [.none, .none])
theorem cw132 : evI T 29 cwa132 = some cwr132 := call3_ok (M := [(40, cwa131, cwr131)]) (m := 200) (n := 2000) ⟨cw131, trivial⟩ (T := T) (f := 29) (x := x29) rfl (by kernel_rfl)
def cwa133 : List PV := cwv11
def cwr133 : PV × List PV := (.int .i64 (-1), [.none, .none])
theorem cw133 : evI T 40 cwa133 = some cwr133 := call3_ok (M := []) (m := 200) (n := 2000) trivial (T := T) (f := 40) (x := x40) rfl (by kernel_rfl)
def cwa134 : List PV := cwv11
def cwr134 : PV × List PV := (.bool false, [.none, .none])
theorem cw134 : evI T 29 cwa134 = some cwr134 := call3_ok (M := [(40, cwa133, cwr133)]) (m := 200) (n := 2000) ⟨cw133, trivial⟩ (T := T) (f := 29) (x := x29) rfl (by kernel_rfl)
def cwa135 : List PV := [.int .i64 28]
def cwr135 : PV × List PV := (.agg [.str [114, 101, 116], .int .i64 0, .int .i64 0, .int .i64 0, .bool false, .bool false, .bool false, .bool true, .bool true], [.none])
theorem cw135 : evI T 39 cwa135 = some cwr135 := call3_ok (M := []) (m := 200) (n := 2000) trivial (T := T) (f := 39) (x := x39) rfl (by kernel_rfl)
def cwa136 : List PV := [.int .i64 28]
def cwr136 : PV × List PV := (.bool true, [.none])
theorem cw136 : evI T 28 cwa136 = some cwr136 := call3_ok (M := [(39, cwa135, cwr135)]) (m := 200) (n := 2000) ⟨cw135, trivial⟩ (T := T) (f := 28) (x := x28) rfl (by kernel_rfl)
def cwa137 : List PV := [.sl 0 [], .fn 30 cwv6]
def cwr137 : PV × List PV := (.bool false, [.none, .none])
theorem cw137 : evI T 29 cwa137 = some cwr137 := call3_ok (M := []) (m := 200) (n := 2000) trivial (T := T) (f := 29) (x := x29) rfl (by kernel_rfl)
def cwa138 : List PV := cwv7
def cwr138 : PV × List PV := (.agg [.int .i64 0, .int .i64 0], [.none])
theorem cw138 : evI T 9 cwa138 = some cwr138 := call3_ok (M := [(28, cwa124, cwr124), (29, cwa126, cwr126), (28, cwa128, cwr128), (29, cwa130, cwr130), (29, cwa132, cwr132), (29, cwa134, cwr134), (28, cwa136, cwr136), (29, cwa137, cwr137)]) (m := 200) (n := 2000) ⟨cw124, cw126, cw128, cw130, cw132, cw134, cw136, cw137, trivial⟩ (T := T) (f := 9) (x := x9) rfl (by kernel_rfl)
def cwa139 : List PV := [.nils, .int .i64 1]
def cwr139 : PV × List PV := (.bool false, [.none, .none])
theorem cw139 : evI T 32 cwa139 = some cwr139 := call3_ok (M := []) (m := 200) (n := 2000) trivial (T := T) (f := 32) (x := x32) rfl (by kernel_rfl)
def cwa140 : List PV := [.nils, .int .i64 2]
def cwr140 : PV × List PV := (.bool false, [.none, .none])
theorem cw140 : evI T 32 cwa140 = some cwr140 := call3_ok (M := []) (m := 200) (n := 2000) trivial (T := T) (f := 32) (x := x32) rfl (by kernel_rfl)
def cwa141 : List PV := [.sl 1 [.int .i64 2], .int .i64 3]
def cwr141 : PV × List PV := (.bool false, [.none, .none])
theorem cw141 : evI T 32 cwa141 = some cwr141 := call3_ok (M := []) (m := 200) (n := 2000) trivial (T := T) (f := 32) (x := x32) rfl (by kernel_rfl)
def cwa142 : List PV := [.nils, .int .i64 4]
def cwr142 : PV × List PV := (.bool false, [.none, .none])
theorem cw142 : evI T 32 cwa142 = some cwr142 := call3_ok (M := []) (m := 200) (n := 2000) trivial (T := T) (f := 32) (x := x32) rfl (by kernel_rfl)
def cwa143 : List PV := [.sl 1 [.int .i64 1], .int .i64 5]
def cwr143 : PV × List PV := (.bool false, [.none, .none])
theorem cw143 : evI T 32 cwa143 = some cwr143 := call3_ok (M := []) (m := 200) (n := 2000) trivial (T := T) (f := 32) (x := x32) rfl (by kernel_rfl)
def cwa144 : List PV := cwv7
def cwr144 : PV × List PV := (.sl 7 cwv2, [.none])
theorem cw144 : evI T 13 cwa144 = some cwr144 := call3_ok (M := [(32, cwa139, cwr139), (32, cwa140, cwr140), (32, cwa141, cwr141), (32, cwa142, cwr142), (32, cwa143, cwr143)]) (m := 200) (n := 2000) ⟨cw139, cw140, cw141, cw142, cw143, trivial⟩ (T := T) (f := 13) (x := x13) rfl (by kernel_rfl)
def cwa145 : List PV := cwv7
def cwr145 : PV × List PV := (.sl 7 [.sl 0 [], .sl 2 [.int .i64 0, .int .i64 4], .sl 1 [.int .i64 1], .sl 1 [.int .i64 1], .sl 2 [.int .i64 2, .int .i64 3], .sl 1 [.int .i64 4], .sl 0 []], [.none])
theorem cw145 : evI T 15 cwa145 = some cwr145 := call3_ok (M := [(13, cwa144, cwr144)]) (m := 200) (n := 2000) ⟨cw144, trivial⟩ (T := T) (f := 15) (x := x15) rfl (by kernel_rfl)
def cwa146 : List PV := [.box [.sl 7 cwv2, .own 1 7 [.bool true, .bool true, .bool true, .bool false, .bool false, .bool false, .bool false], .nils], .int .i64 4]
def cwr146 : PV × List PV := (.tup [], [.box [.sl 7 cwv2, .own 1 7 [.bool true, .bool true, .bool true, .bool false, .bool true, .bool true, .bool false], .own 1 2 [.int .i64 5, .int .i64 4]], .none])
theorem cw146 : evI T 34 cwa146 = some cwr146 := call3_ok (M := []) (m := 200) (n := 2000) trivial (T := T) (f := 34) (x := x34) rfl (by kernel_rfl)
def cwa147 : List PV := [.box [.sl 7 cwv2, .own 1 7 [.bool true, .bool true, .bool false, .bool false, .bool false, .bool false, .bool false], .nils], .int .i64 2]
def cwr147 : PV × List PV := (.tup [], [.box [.sl 7 cwv2, .own 1 7 [.bool true, .bool true, .bool true, .bool false, .bool true, .bool true, .bool false], .own 1 3 [.int .i64 5, .int .i64 4, .int .i64 2]], .none])
theorem cw147 : evI T 34 cwa147 = some cwr147 := call3_ok (M := [(34, cwa146, cwr146)]) (m := 200) (n := 2000) ⟨cw146, trivial⟩ (T := T) (f := 34) (x := x34) rfl (by kernel_rfl)
def cwa148 : List PV := [.box [.sl 7 cwv2, .own 1 7 [.bool true, .bool false, .bool false, .bool false, .bool false, .bool false, .bool false], .nils], .int .i64 1]
def cwr148 : PV × List PV := (.tup [], [.box [.sl 7 cwv2, .own 1 7 [.bool true, .bool true, .bool true, .bool true, .bool true, .bool true, .bool false], .own 1 5 [.int .i64 5, .int .i64 4, .int .i64 2, .int .i64 3, .int .i64 1]], .none])
theorem cw148 : evI T 34 cwa148 = some cwr148 := call3_ok (M := [(34, cwa147, cwr147)]) (m := 200) (n := 2000) ⟨cw147, trivial⟩ (T := T) (f := 34) (x := x34) rfl (by kernel_rfl)
def cwa149 : List PV := [.box [.sl 7 cwv2, .own 1 7 [.bool false, .bool false, .bool false, .bool false, .bool false, .bool false, .bool false], .nils], .int .i64 0]
def cwr149 : PV × List PV := (.tup [], [.box [.sl 7 cwv2, .own 1 7 [.bool true, .bool true, .bool true, .bool true, .bool true, .bool true, .bool false], .own 1 6 [.int .i64 5, .int .i64 4, .int .i64 2, .int .i64 3, .int .i64 1, .int .i64 0]], .none])
theorem cw149 : evI T 34 cwa149 = some cwr149 := call3_ok (M := [(34, cwa148, cwr148)]) (m := 200) (n := 2000) ⟨cw148, trivial⟩ (T := T) (f := 34) (x := x34) rfl (by kernel_rfl)
def cwa150 : List PV := cwv7
def cwr150 : PV × List PV := (.sl 6 [.int .i64 0, .int .i64 1, .int .i64 3, .int .i64 2, .int .i64 4, .int .i64 5], [.none])
theorem cw150 : evI T 18 cwa150 = some cwr150 := call3_ok (M := [(13, cwa144, cwr144), (34, cwa149, cwr149)]) (m := 200) (n := 2000) ⟨cw144, cw149, trivial⟩ (T := T) (f := 18) (x := x18) rfl (by kernel_rfl)
def cwa151 : List PV := cwv7
def cwr151 : PV × List PV := (.sl 7 [.int .i64 0, .int .i64 1, .int .i64 3, .int .i64 2, .int .i64 4, .int .i64 5, .int .i64 (-1)], [.none])
theorem cw151 : evI T 20 cwa151 = some cwr151 := call3_ok (M := [(18, cwa150, cwr150)]) (m := 200) (n := 2000) ⟨cw150, trivial⟩ (T := T) (f := 20) (x := x20) rfl (by kernel_rfl)
def cwa152 : List PV := cwv7
def cwr152 : PV × List PV := (.sl 1 [.int .i64 4, .int .i64 1], [.none])
theorem cw152 : evI T 22 cwa152 = some cwr152 := call3_ok (M := [(20, cwa151, cwr151), (13, cwa144, cwr144)]) (m := 200) (n := 2000) ⟨cw151, cw144, trivial⟩ (T := T) (f := 22) (x := x22) rfl (by kernel_rfl)
def cwa153 : List PV := []
def cwr153 : PV × List PV := (.bool true, [])
theorem cw153 : evI T 8 cwa153 = some cwr153 := call3_ok (M := [(27, cwa122, cwr122), (9, cwa138, cwr138), (15, cwa145, cwr145), (18, cwa150, cwr150), (22, cwa152, cwr152), (13, cwa144, cwr144), (20, cwa151, cwr151)]) (m := 200) (n := 2000) ⟨cw122, cw138, cw145, cw150, cw152, cw144, cw151, trivial⟩ (T := T) (f := 8) (x := x8) rfl (by kernel_rfl)
theorem cw_ok : evI T 8 [] = some (.bool true, []) := cw153
end Go.Ab

/-
  Printed by gen.py.
-/
namespace Go.Ab
open Go
set_option linter.unusedVariables false
set_option linter.unusedSimpArgs false
set_option maxRecDepth 100000
set_option maxHeartbeats 4000000
theorem l08_GraphShapes_j1_ok (p0 : Fun) : Sim (l08_GraphShapes_j1 p0) fun r => evX (evI T) x3_1 [(1, .box [.str p0.Name, .sl p0.Params.length (p0.Params.flatMap (cint .i64)), .int .i64 p0.Ret, .sl p0.Blocks.length (p0.Blocks.flatMap (csl cIns)), .int .i64 p0.At])] = some (.norm, [(2, .bool r)]) := by
  unfold l08_GraphShapes_j1
  refine sim_bind (fun r2 h5 => ?_)
  have f6 := graph_Shaped_okN p0 _ h5
  dsimp only at f6
  refine sim_bind (fun r3 h7 => ?_)
  have f8 := r08_Shaped_okN p0 _ h7
  dsimp only at f8
  refine sim_if (fun h9 => ?_) (fun h9 => ?_)
  · have f10 := cw_ok
    refine sim_some ?_
    try simp only [nz, nzIns, nzFun] at f6
    try simp only [nz, nzIns, nzFun] at f8
    all_goals
      refine' (w_regD ?_ ?_ (w_consD rfl ?_ ?_ ?_ (w_consD rfl ?_ ?_ ?_ (w_consD rfl ?_ ?_ ?_ (w_barD rfl rfl (w_cons ?_ (w_cons ?_ (w_cons ?_ (w_cons ?_ (w_cons ?_ (w_cons ?_ w_nil)))))))))) ?_)
      all_goals (first | (simp only [nz, rn, nzIns, nzFun, f6, f8, h9, f10, Int.reduceLT, Int.reduceEq, List.contains_cons, List.contains_nil, Option.map_some, Option.map_none, reduceIte, reduceCtorEq, Nat.reduceEqDiff, Nat.reduceLT, Nat.reduceBEq, Nat.reduceAdd, Nat.reduceMul, Nat.reduceLeDiff, Nat.reduceSub, Bool.false_eq_true]; try rfl) | skip)
  · refine sim_some ?_
    try simp only [nz, nzIns, nzFun] at f6
    try simp only [nz, nzIns, nzFun] at f8
    all_goals
      refine' (w_regD ?_ ?_ (w_consD rfl ?_ ?_ ?_ (w_consD rfl ?_ ?_ ?_ (w_consD rfl ?_ ?_ ?_ (w_barD rfl rfl (w_cons ?_ (w_cons ?_ (w_cons ?_ (w_cons ?_ (w_cons ?_ (w_cons ?_ w_nil)))))))))) ?_)
      all_goals (first | (simp only [nz, rn, nzIns, nzFun, f6, f8, h9, Int.reduceLT, Int.reduceEq, List.contains_cons, List.contains_nil, Option.map_some, Option.map_none, reduceIte, reduceCtorEq, Nat.reduceEqDiff, Nat.reduceLT, Nat.reduceBEq, Nat.reduceAdd, Nat.reduceMul, Nat.reduceLeDiff, Nat.reduceSub, Bool.false_eq_true]; try rfl) | skip)
theorem l08_GraphShapes_ok (p0 : Fun) : Sim (l08_GraphShapes p0) fun r => evI T 3 [.agg [.str p0.Name, .sl p0.Params.length (p0.Params.flatMap (cint .i64)), .int .i64 p0.Ret, .sl p0.Blocks.length (p0.Blocks.flatMap (csl cIns)), .int .i64 p0.At]] = some (.bool r, [.none]) := by
  unfold l08_GraphShapes
  refine sim_bind (fun r1 h1 => ?_)
  have f2 := r05_Size_okN ((⟨[p0]⟩ : Prg)) 300 _ h1
  dsimp only at f2
  refine sim_if (fun h3 => ?_) (fun h3 => ?_)
  · have f4 := cw_ok
    refine sim_some ?_
    refine evI_ret (x := x3) rfl rfl rfl ?_
    try simp only [nz, nzIns, nzFun, nzPrg] at f2
    all_goals
      refine' (w_fn rfl rfl (w_seq (w_reg (w_cons ?_ (w_cons ?_ w_nil)) ?_) (w_go (w_seq (w_seq (w_reg (w_cons ?_ (w_cons ?_ (w_cons ?_ (w_cons ?_ (w_cons ?_ w_nil))))) ?_) (w_go (w_condt ?_ (w_seq (w_reg (w_cons ?_ (w_cons ?_ w_nil)) ?_) (w_go w_ret)) ?_))) w_gor))) ?_)
      all_goals (first | (simp only [x3, nz, rn, nzIns, nzFun, nzPrg, f2, h3, f4, Int.reduceLT, Int.reduceEq, List.contains_cons, List.contains_nil, Option.map_some, Option.map_none, reduceIte, reduceCtorEq, Nat.reduceEqDiff, Nat.reduceLT, Nat.reduceBEq, Nat.reduceAdd, Nat.reduceMul, Nat.reduceLeDiff, Nat.reduceSub, Bool.false_eq_true]; try rfl) | skip)
  · refine sim_bind (fun v4 h11 => ?_)
    have f12 := l08_GraphShapes_j1_ok p0 _ h11
    dsimp only at f12
    refine sim_some ?_
    refine evI_ret (x := x3) rfl rfl rfl ?_
    try simp only [nz, nzIns, nzFun, nzPrg] at f2
    try simp only [nz, nzIns, nzFun, nzPrg] at f12
    all_goals
      refine' (w_fn rfl rfl (w_seq (w_reg (w_cons ?_ (w_cons ?_ w_nil)) ?_) (w_go (w_seq (w_seq (w_reg (w_cons ?_ (w_cons ?_ (w_cons ?_ (w_cons ?_ (w_cons ?_ w_nil))))) ?_) (w_go (w_condf ?_ w_skip ?_))) (w_go (w_seq f12 (w_go w_ret)))))) ?_)
      all_goals (first | (simp only [x3, nz, rn, nzIns, nzFun, nzPrg, f2, h3, Int.reduceLT, Int.reduceEq, List.contains_cons, List.contains_nil, Option.map_some, Option.map_none, reduceIte, reduceCtorEq, Nat.reduceEqDiff, Nat.reduceLT, Nat.reduceBEq, Nat.reduceAdd, Nat.reduceMul, Nat.reduceLeDiff, Nat.reduceSub, Bool.false_eq_true]; try rfl) | skip)
theorem l08_GraphShapes_okN (p0 : Fun) : Sim (l08_GraphShapes p0) fun r => ∀ ws, ws.map normA = [.agg [.str p0.Name, .sl p0.Params.length (p0.Params.flatMap (cint .i64)), .int .i64 p0.Ret, .sl p0.Blocks.length (p0.Blocks.flatMap (csl cIns)), .int .i64 p0.At]] → evI T 3 ws = some (.bool r, [.none]) := fun r h => evI_okN (x := x3) rfl rfl rfl (l08_GraphShapes_ok p0 r h)
end Go.Ab

/-
  Loops and numbers: plain laws.
-/
namespace Go.Ab
open Go
set_option linter.unusedVariables false
set_option linter.unusedSimpArgs false

/-- total correctness of a loop -/
theorem runL_inv {σ ρ : Type} {body : σ → Option (Stp σ ρ)} (I : σ → Prop) (Q : ρ → Prop) (μ : σ → Nat)
    (h : ∀ s, I s → (∃ r, body s = some (.stop r) ∧ Q r) ∨ ∃ s', body s = some (.next s') ∧ I s' ∧ μ s' < μ s) : ∀ s, I s → ∃ r, runL body s = some r ∧ Q r := by
  intro s
  induction hn : μ s using Nat.strongRecOn generalizing s with
  | ind n ih =>
    intro hs
    rw [runL_eq]
    rcases h s hs with ⟨r, hb, hq⟩ | ⟨s', hb, hi, hm⟩
    · exact ⟨r, by rw [hb]; rfl, hq⟩
    · obtain ⟨r, hr, hq⟩ := ih (μ s') (by omega) s' rfl hi
      exact ⟨r, by rw [hb]; exact hr, hq⟩

theorem wr64 {x : Int} (h1 : -9223372036854775808 ≤ x) (h2 : x ≤ 9223372036854775807) : IntKind.wrap .i64 x = x := wrap_id h1 (by omega)

theorem ofInt_toNat {a : Nat} (h : a < 9223372036854775808) : (BitVec.ofInt 64 (a : Int)).toNat = a := by
  rw [BitVec.toNat_ofInt]
  have : ((a : Int) % ((2 ^ 64 : Nat) : Int)) = a := Int.emod_eq_of_lt (by omega) (by omega)
  rw [this]; rfl

theorem bAnd64 {a b : Nat} (ha : a < 9223372036854775808) (hb : b < 9223372036854775808) : bAnd .i64 a b = ((a &&& b : Nat) : Int) := by
  have h1 := ofInt_toNat ha
  have h2 := ofInt_toNat hb
  unfold bAnd
  show IntKind.wrap .i64 (((BitVec.ofInt 64 (a : Int)) &&& (BitVec.ofInt 64 (b : Int))).toNat : Int) = _
  rw [BitVec.toNat_and, h1, h2]
  have : a &&& b ≤ a := Nat.and_le_left
  exact wr64 (by omega) (by omega)

theorem bOr64 {a b : Nat} (ha : a < 4611686018427387904) (hb : b < 4611686018427387904) : bOr .i64 a b = ((a ||| b : Nat) : Int) := by
  have h1 := ofInt_toNat (a := a) (by omega)
  have h2 := ofInt_toNat (a := b) (by omega)
  unfold bOr
  show IntKind.wrap .i64 (((BitVec.ofInt 64 (a : Int)) ||| (BitVec.ofInt 64 (b : Int))).toNat : Int) = _
  rw [BitVec.toNat_or, h1, h2]
  have : a ||| b < 2 ^ 62 := Nat.or_lt_two_pow (by omega) (by omega)
  exact wr64 (by omega) (by omega)
end Go.Ab

/-
  Loops: more plain laws.
-/
namespace Go.Ab
open Go
set_option linter.unusedVariables false
set_option linter.unusedSimpArgs false

theorem runN_congr {σ ρ : Type} {b1 b2 : σ → Option (Stp σ ρ)} (I : σ → Prop) (h : ∀ s, I s → b1 s = b2 s ∧ ∀ s', b1 s = some (.next s') → I s') : ∀ (n : Nat) (s : σ), I s → runN b1 n s = runN b2 n s
  | 0, _, _ => rfl
  | n + 1, s, hs => by
    simp only [runN]
    have := h s hs
    rw [← this.1]
    split
    · rename_i s' e; exact runN_congr I h n s' (this.2 s' e)
    · rfl
    · rfl
theorem runL_congr {σ ρ : Type} {b1 b2 : σ → Option (Stp σ ρ)} (I : σ → Prop) (h : ∀ s, I s → b1 s = b2 s ∧ ∀ s', b1 s = some (.next s') → I s') (s : σ) (hs : I s) : runL b1 s = runL b2 s := ext_some fun r => by
  rw [runL_some, runL_some]
  constructor
  · rintro ⟨n, hn⟩; exact ⟨n, by rw [← runN_congr I h n s hs]; exact hn⟩
  · rintro ⟨n, hn⟩; exact ⟨n, by rw [runN_congr I h n s hs]; exact hn⟩
/-- a loop whose number goes up to another -/
theorem runL_up {σ ρ : Type} {body : σ → Option (Stp σ ρ)} (N : Nat) (idx : σ → Int) (I : σ → Prop) (Q : ρ → Prop)
    (h : ∀ s, I s → 0 ≤ idx s → idx s ≤ N → (∃ r, body s = some (.stop r) ∧ Q r) ∨ ∃ s', body s = some (.next s') ∧ I s' ∧ idx s' = idx s + 1 ∧ idx s' ≤ N) (s : σ) (hs : I s) (h0 : 0 ≤ idx s) (h1 : idx s ≤ N) : ∃ r, runL body s = some r ∧ Q r :=
  runL_inv (fun s => I s ∧ 0 ≤ idx s ∧ idx s ≤ N) Q (fun s => (N - idx s).toNat) (fun s ⟨hI, h0, h1⟩ => by
    rcases h s hI h0 h1 with hr | ⟨s', hb, hI', hi, hN⟩
    · exact .inl hr
    · exact .inr ⟨s', hb, ⟨hI', by omega, hN⟩, by omega⟩) s ⟨hs, h0, h1⟩
theorem ix_of_lt {α : Type} {xs : List α} {i : Int} (h0 : 0 ≤ i) (h1 : i < xs.length) : ∃ x, ix xs i = some x ∧ xs[i.toNat]? = some x := by
  have : i.toNat < xs.length := by omega
  refine ⟨xs[i.toNat], ?_, by simp [this]⟩
  simp only [ix, if_pos h0, List.getElem?_eq_getElem this]
theorem wr1 {i : Int} (h0 : 0 ≤ i) (h1 : i < 140737488355328) : IntKind.wrap .i64 (i + 1) = i + 1 := wr64 (by omega) (by omega)
/-- what a list has from a place on -/
theorem drop_step {α : Type} {xs : List α} {i : Nat} {x : α} (h : xs[i]? = some x) : xs.drop i = x :: xs.drop (i + 1) := by
  obtain ⟨hl, rfl⟩ := List.getElem?_eq_some_iff.1 h
  rw [List.drop_eq_getElem_cons hl]
end Go.Ab

/-
  GraphShapes: plain laws.
-/
namespace Go.Ab
open Go
set_option linter.unusedVariables false
set_option linter.unusedSimpArgs false
set_option maxRecDepth 10000

def outOf (n : Nat) (b : Int) : Bool := decide (b < 0) || decide ((n : Int) ≤ b)
theorem Contains_eq {l : List Int} (hl : l.length < 140737488355328) (a : Str) (b : List Int) (c : Int) (bs : List (List Ins)) (d : Int) : slices_ContainsFunc_intint_s1 l a b c bs d = some (l.any (outOf bs.length)) := by
  have key : ∃ r, slices_IndexFunc_intint_s1_l1 l a b c bs d 0 = some r ∧ ((∃ u, r = .next u) ∧ l.any (outOf bs.length) = false ∨ ∃ v, r = .stop v ∧ 0 ≤ v ∧ l.any (outOf bs.length) = true) := by
    refine runL_up l.length (fun s => s) (fun s => (l.take s.toNat).any (outOf bs.length) = false) _ (fun s hI h0 h1 => ?_) 0 (by simp) (by decide) (by omega)
    unfold slices_IndexFunc_intint_s1_l1_b
    by_cases hlt : s < l.length
    · obtain ⟨x, hx, hx'⟩ := ix_of_lt h0 hlt
      have hstep : (l.take (s.toNat + 1)).any (outOf bs.length) = outOf bs.length x := by
        rw [List.take_add_one, hx', List.any_append, hI]; simp
      simp only [hlt, decide_true, if_true, hx, Option.bind_some, graph_Shaped__d1_s1]
      cases ho : outOf bs.length x with
      | true =>
        left
        refine ⟨.stop s, by rw [show (decide (x < 0) || decide ((bs.length : Int) ≤ x)) = true from ho]; rfl, .inr ⟨s, rfl, h0, ?_⟩⟩
        rw [List.any_eq_true]
        exact ⟨x, List.mem_of_getElem? hx', ho⟩
      | false =>
        right
        refine ⟨s + 1, by rw [show (decide (x < 0) || decide ((bs.length : Int) ≤ x)) = false from ho, wr1 h0 (by omega)]; rfl, ?_, rfl, by omega⟩
        rw [show (s + 1).toNat = s.toNat + 1 by omega, hstep, ho]
    · left
      have : l.take s.toNat = l := List.take_of_length_le (by omega)
      rw [this] at hI
      exact ⟨.next (), by simp [hlt], .inl ⟨⟨(), rfl⟩, hI⟩⟩
  obtain ⟨r, hr, h⟩ := key
  unfold slices_ContainsFunc_intint_s1 slices_IndexFunc_intint_s1
  rw [hr]
  rcases h with ⟨⟨u, rfl⟩, h⟩ | ⟨v, rfl, hv, h⟩
  · simp [h]
  · simp [h, hv]
theorem l115_eq {f : Fun} {k i : Int} {code : List Ins} {x : Ins} (hk : ix f.Blocks k = some code) (hi : ix code i = some x) (hl : x.To.length < 140737488355328) :
    r08_Shaped_l115 f k code i x 0 = some (if (x.Op != 20) && x.To.any (outOf f.Blocks.length) then .stop () else .next ()) := by
  have key : ∃ r, r08_Shaped_l115 f k code i x 0 = some r ∧ r = (if (x.Op != 20) && x.To.any (outOf f.Blocks.length) then .stop () else .next ()) := by
    refine runL_up x.To.length (fun s => s) (fun s => (x.Op != 20) = true → (x.To.take s.toNat).any (outOf f.Blocks.length) = false) _ (fun s hI h0 h1 => ?_) 0 (by simp) (by decide) (by omega)
    unfold r08_Shaped_l115_b r08_Shaped_j114
    cases hop : (x.Op != 20) with
    | false => left; exact ⟨.next (), by simp, by simp⟩
    | true =>
      by_cases hlt : s < x.To.length
      · obtain ⟨b, hb, hb'⟩ := ix_of_lt h0 hlt
        have hstep : (x.To.take (s.toNat + 1)).any (outOf f.Blocks.length) = outOf f.Blocks.length b := by
          rw [List.take_add_one, hb', List.any_append, hI hop]; simp
        simp only [hlt, decide_true, Bool.and_self, if_true, hb, Option.bind_some]
        have hval : (if decide (b < 0) = true then some true else some (decide ((f.Blocks.length : Int) ≤ b))) = some (outOf f.Blocks.length b) := by
          unfold outOf; by_cases h : b < 0 <;> simp [h]
        rw [hval]
        simp only [Option.bind_some]
        cases ho : outOf f.Blocks.length b with
        | true =>
          left
          refine ⟨.stop (), rfl, ?_⟩
          have : x.To.any (outOf f.Blocks.length) = true := by rw [List.any_eq_true]; exact ⟨b, List.mem_of_getElem? hb', ho⟩
          simp [this]
        | false =>
          right
          refine ⟨s + 1, by rw [wr1 h0 (by omega)]; rfl, fun _ => ?_, rfl, by omega⟩
          rw [show (s + 1).toNat = s.toNat + 1 by omega, hstep, ho]
      · left
        have h2 := hI hop
        have : x.To.take s.toNat = x.To := List.take_of_length_le (by omega)
        rw [this] at h2
        exact ⟨.next (), by simp [hlt], by simp [h2]⟩
  obtain ⟨r, hr, rfl⟩ := key
  exact hr
theorem Ends_eq (op : Int) : ops_Ends op = some (decide (26 ≤ op) && decide (op ≤ 29)) := by
  unfold ops_Ends ops_of
  by_cases h : op < 1 ∨ 29 < op
  · have e1 : (decide (op < 1) || decide (29 < op)) = true := by simpa using h
    rw [e1]
    simp only [if_true, Option.bind_some]
    rcases h with h | h
    · simp [show ¬ (26 ≤ op) by omega]
    · simp [show ¬ (op ≤ 29) by omega]
  · have e1 : (decide (op < 1) || decide (29 < op)) = false := by simp at h ⊢; omega
    rw [e1]
    simp only [Bool.false_eq_true, if_false]
    have h2 : op = 1 ∨ op = 2 ∨ op = 3 ∨ op = 4 ∨ op = 5 ∨ op = 6 ∨ op = 7 ∨ op = 8 ∨ op = 9 ∨ op = 10 ∨ op = 11 ∨ op = 12 ∨ op = 13 ∨ op = 14 ∨ op = 15 ∨ op = 16 ∨ op = 17 ∨ op = 18 ∨ op = 19 ∨ op = 20 ∨ op = 21 ∨ op = 22 ∨ op = 23 ∨ op = 24 ∨ op = 25 ∨ op = 26 ∨ op = 27 ∨ op = 28 ∨ op = 29 := by omega
    rcases h2 with rfl | rfl | rfl | rfl | rfl | rfl | rfl | rfl | rfl | rfl | rfl | rfl | rfl | rfl | rfl | rfl | rfl | rfl | rfl | rfl | rfl | rfl | rfl | rfl | rfl | rfl | rfl | rfl | rfl <;> rfl
theorem inner_eq {f : Fun} {k : Int} {code : List Ins} (hk : ix f.Blocks k = some code) (hc : code.length < 140737488355328) (hl : ∀ x ∈ code, x.To.length < 140737488355328) :
    ∃ r, graph_Shaped_l20 f k code 0 = some r ∧ r08_Shaped_l116 f k code 0 = some r := by
  have hb : ∀ s : Int, 0 ≤ s ∧ s ≤ (code.length : Int) → graph_Shaped_l20_b f k code s = r08_Shaped_l116_b f k code s ∧ (∀ s', graph_Shaped_l20_b f k code s = some (.next s') → s' = s + 1 ∧ s' ≤ code.length) ∧ ∃ y, graph_Shaped_l20_b f k code s = some y := fun s ⟨h0, h1⟩ => by
    unfold graph_Shaped_l20_b r08_Shaped_l116_b graph_Shaped_j19
    by_cases hlt : s < code.length
    · obtain ⟨x, hx, hx'⟩ := ix_of_lt h0 hlt
      have hxl := hl x (List.mem_of_getElem? hx')
      have e1 : (s == IntKind.wrap .i64 ((code.length : Int) - 1)) = (IntKind.wrap .i64 (s + 1) == (code.length : Int)) := by
        rw [wr1 h0 (by omega), wr64 (by omega) (by omega)]
        by_cases h : s = code.length - 1
        · have h2 : s + 1 = code.length := by omega
          rw [beq_iff_eq.2 h, beq_iff_eq.2 h2]
        · have h2 : ¬ s + 1 = code.length := by omega
          rw [beq_eq_false_iff_ne.2 h, beq_eq_false_iff_ne.2 h2]
      simp only [hlt, decide_true, if_true, hx, hk, Option.bind_some, Ends_eq, r05_Ends, e1, l115_eq hk hx hxl, Contains_eq hxl]
      cases (!((decide (26 ≤ x.Op) && decide (x.Op ≤ 29)) == (IntKind.wrap .i64 (s + 1) == (code.length : Int)))) with
      | true => exact ⟨by first | rfl | trivial, (fun s' h => by cases h), _, rfl⟩
      | false =>
        cases hop : (x.Op != 20) <;> cases ha : x.To.any (outOf f.Blocks.length) <;> simp <;> (rw [wr1 h0 (by omega)]) <;> omega
    · simp [hlt]
  have hcg := runL_congr (fun s => 0 ≤ s ∧ s ≤ (code.length : Int)) (fun s hs => ⟨(hb s hs).1, fun s' h => by have := (hb s hs).2.1 s' h; omega⟩) 0 ⟨by decide, by omega⟩
  have htot : ∃ r, graph_Shaped_l20 f k code 0 = some r ∧ True := by
    refine runL_up code.length (fun s => s) (fun _ => True) _ (fun s _ h0 h1 => ?_) 0 trivial (by decide) (by omega)
    obtain ⟨_, h3, y, hy⟩ := hb s ⟨h0, h1⟩
    cases y with
    | next s' => exact .inr ⟨s', hy, trivial, (h3 s' hy)⟩
    | stop r => exact .inl ⟨r, hy, trivial⟩
  obtain ⟨r, hr, _⟩ := htot
  exact ⟨r, hr, by rw [← hr]; exact hcg.symm⟩
theorem Shaped_eq {f : Fun} (r : RFun f) : ∃ e, graph_Shaped f = some e ∧ r08_Shaped f = some e := by
  obtain ⟨_, _, _, ⟨hB, hC⟩, _⟩ := r
  have hb : ∀ s : Int, 0 ≤ s ∧ s ≤ (f.Blocks.length : Int) → graph_Shaped_l21_b f s = r08_Shaped_l117_b f s ∧ (∀ s', graph_Shaped_l21_b f s = some (.next s') → s' = s + 1 ∧ s' ≤ f.Blocks.length) ∧ ∃ y, graph_Shaped_l21_b f s = some y := fun s ⟨h0, h1⟩ => by
    unfold graph_Shaped_l21_b r08_Shaped_l117_b
    by_cases hlt : s < f.Blocks.length
    · obtain ⟨code, hx, hx'⟩ := ix_of_lt h0 hlt
      obtain ⟨hcl, hci⟩ := hC code (List.mem_of_getElem? hx')
      obtain ⟨q, hq1, hq2⟩ := inner_eq hx hcl (fun x hx => (hci x hx).2.2.2.2.2.1.1)
      simp only [hlt, decide_true, if_true, hx, Option.bind_some, hq1, hq2]
      rcases q with _ | q
      · simp only [wr1 h0 (show s < 140737488355328 by omega)]
        cases ((code.length : Int) == 0) with
        | true => exact ⟨by first | rfl | trivial, (fun s' h => by cases h), _, rfl⟩
        | false => exact ⟨by first | rfl | trivial, (fun s' h => by cases h; omega), _, rfl⟩
      · exact ⟨by first | rfl | trivial, (fun s' h => by cases h), _, rfl⟩
    · simp [hlt]
  have hcg := runL_congr (fun s => 0 ≤ s ∧ s ≤ (f.Blocks.length : Int)) (fun s hs => ⟨(hb s hs).1, fun s' h => by have := (hb s hs).2.1 s' h; omega⟩) 0 ⟨by decide, by omega⟩
  have htot : ∃ r, graph_Shaped_l21 f 0 = some r ∧ True := by
    refine runL_up f.Blocks.length (fun s => s) (fun _ => True) _ (fun s _ h0 h1 => ?_) 0 trivial (by decide) (by omega)
    obtain ⟨_, h3, y, hy⟩ := hb s ⟨h0, h1⟩
    cases y with
    | next s' => exact .inr ⟨s', hy, trivial, (h3 s' hy)⟩
    | stop r => exact .inl ⟨r, hy, trivial⟩
  obtain ⟨q, hq, _⟩ := htot
  have hq2 : r08_Shaped_l117 f 0 = some q := by rw [← hq]; exact hcg.symm
  unfold graph_Shaped r08_Shaped
  rw [hq, hq2]
  cases ((f.Blocks.length : Int) == 0) with
  | true => exact ⟨_, rfl, rfl⟩
  | false =>
    rcases q with _ | q
    · exact ⟨_, rfl, rfl⟩
    · exact ⟨_, rfl, rfl⟩
theorem Size_tot {f : Fun} (r : RFun f) (top : Int) : ∃ n, r05_Size ⟨[f]⟩ top = some n := by
  obtain ⟨_, _, _, ⟨hB, hC⟩, _⟩ := r
  have h61 : ∀ (k v2 n : Int) (code : List Ins), ix f.Blocks k = some code → code.length < 140737488355328 → ∃ n', r05_Size_l61 ⟨[f]⟩ top v2 f k (n, 0) = some n' ∧ True := fun k v2 n code hk hl => by
    refine runL_up code.length (fun s => s.2) (fun _ => True) _ (fun s _ h0 h1 => ?_) (n, 0) trivial (by simp) (by simp)
    unfold r05_Size_l61_b r05_Size_j60
    simp only [hk, Option.bind_some]
    by_cases hlt : s.2 < code.length
    · obtain ⟨x, hx, _⟩ := ix_of_lt h0 hlt
      simp only [hlt, decide_true, if_true, Option.bind_some, hx]
      cases decide (s.1 ≤ top) with
      | true => right; exact ⟨_, rfl, trivial, wr1 h0 (by omega), by rw [wr1 h0 (by omega)]; omega⟩
      | false => left; exact ⟨_, rfl, trivial⟩
    · left; simp [hlt]
  have h62 : ∀ (v2 n : Int), ∃ n', r05_Size_l62 ⟨[f]⟩ top v2 f (n, 0) = some n' ∧ True := fun v2 n => by
    refine runL_up f.Blocks.length (fun s => s.2) (fun _ => True) _ (fun s _ h0 h1 => ?_) (n, 0) trivial (by simp) (by simp)
    unfold r05_Size_l62_b
    by_cases hlt : s.2 < f.Blocks.length
    · obtain ⟨code, hx, hx'⟩ := ix_of_lt h0 hlt
      obtain ⟨n', hn', _⟩ := h61 s.2 v2 s.1 code hx (hC code (List.mem_of_getElem? hx')).1
      simp only [hlt, decide_true, Bool.true_and, hn', Option.bind_some]
      cases decide (s.1 ≤ top) with
      | true => right; exact ⟨_, rfl, trivial, wr1 h0 (by omega), by rw [wr1 h0 (by omega)]; omega⟩
      | false => left; exact ⟨_, rfl, trivial⟩
    · left; simp [hlt]
  have h63 : ∃ n', r05_Size_l63 ⟨[f]⟩ top (((⟨[f]⟩ : Prg).Funcs.length : Int), 0) = some n' ∧ True := by
    refine runL_up 1 (fun s => s.2) (fun _ => True) _ (fun s _ h0 h1 => ?_) _ trivial (by simp) (by simp)
    unfold r05_Size_l63_b
    by_cases hlt : s.2 < 1
    · have hs : s.2 = 0 := by omega
      simp only [hs]
      cases h4 : decide (s.1 ≤ top) with
      | true =>
        right
        obtain ⟨n', hn', _⟩ := h62 0 (IntKind.wrap .i64 ((IntKind.wrap .i64 ((IntKind.wrap .i64 (s.1 + ((f.Blocks.length : Int)))) + ((f.Params.length : Int)))) + (IntKind.wrap .i64 (Int.tdiv ((f.Name.length : Int)) 30))))
        refine ⟨(n', 1), ?_, trivial, by simp, by simp⟩
        simp only [List.length_cons, List.length_nil, show ix [f] (0 : Int) = some f from rfl, Option.bind_some, hn']
        rfl
      | false => left; simp
    · left; refine ⟨s.1, ?_, trivial⟩
      simp [hlt]
  obtain ⟨n, hn, _⟩ := h63
  exact ⟨n, by unfold r05_Size; rw [hn]; rfl⟩
theorem graphShapes (f : Fun) (r : RFun f) : l08_GraphShapes f = some true := by
  obtain ⟨n, hn⟩ := Size_tot r 300
  obtain ⟨e, h1, h2⟩ := Shaped_eq r
  unfold l08_GraphShapes l08_GraphShapes_j1
  rw [hn, h1, h2]
  simp
end Go.Ab
