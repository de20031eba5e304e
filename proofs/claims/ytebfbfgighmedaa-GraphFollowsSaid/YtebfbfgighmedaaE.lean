/-
  Printed by gen.py.
-/
import Derived.Test.YtebfbfgighmedaaD
import Derived.Test.YtebfbfgighmedaaRows
import Derived.Test.YtebfbfgighmedaaC
namespace Go.Ab
open Go
set_option linter.unusedVariables false
set_option linter.unusedSimpArgs false
set_option maxRecDepth 100000
set_option maxHeartbeats 4000000
/-- function f of the program is x -/
def Ok1 (P : Program) (f : Nat) (x : XF) : Prop := x.ext = Option.none ∧ ∃ fn code hints, P.funcs[f]? = some fn ∧ (fn.name == "runtime.NumGoroutine") = false ∧ fn.body = some code ∧ x.np ≤ fn.ntmps ∧ trC P (fun d => decide (d < fn.ntmps) && !x.prot.contains d) code hints = some (x.body, []) ∧ trRs P fn.results.toList = some x.res
theorem tok4 : Ok1 Go.Proofs.Try.prog 4 x4 := ⟨rfl, Go.Proofs.Try.f4, _, hintsOf 4, Go.Proofs.Try.func4, by kernel_rfl, rfl, by decide, by kernel_rfl, by kernel_rfl⟩
theorem tok8 : Ok1 Go.Proofs.Try.prog 8 x8 := ⟨rfl, Go.Proofs.Try.f8, _, hintsOf 8, Go.Proofs.Try.func8, by kernel_rfl, rfl, by decide, by kernel_rfl, by kernel_rfl⟩
theorem tok9 : Ok1 Go.Proofs.Try.prog 9 x9 := ⟨rfl, Go.Proofs.Try.f9, _, hintsOf 9, Go.Proofs.Try.func9, by kernel_rfl, rfl, by decide, by kernel_rfl, by kernel_rfl⟩
theorem tok10 : Ok1 Go.Proofs.Try.prog 10 x10 := ⟨rfl, Go.Proofs.Try.f10, _, hintsOf 10, Go.Proofs.Try.func10, by kernel_rfl, rfl, by decide, by kernel_rfl, by kernel_rfl⟩
theorem tok11 : Ok1 Go.Proofs.Try.prog 11 x11 := ⟨rfl, Go.Proofs.Try.f11, _, hintsOf 11, Go.Proofs.Try.func11, by kernel_rfl, rfl, by decide, by kernel_rfl, by kernel_rfl⟩
theorem tok12 : Ok1 Go.Proofs.Try.prog 12 x12 := ⟨rfl, Go.Proofs.Try.f12, _, hintsOf 12, Go.Proofs.Try.func12, by kernel_rfl, rfl, by decide, by kernel_rfl, by kernel_rfl⟩
theorem tok13 : Ok1 Go.Proofs.Try.prog 13 x13 := ⟨rfl, Go.Proofs.Try.f13, _, hintsOf 13, Go.Proofs.Try.func13, by kernel_rfl, rfl, by decide, by kernel_rfl, by kernel_rfl⟩
theorem tok14 : Ok1 Go.Proofs.Try.prog 14 x14 := ⟨rfl, Go.Proofs.Try.f14, _, hintsOf 14, Go.Proofs.Try.func14, by kernel_rfl, rfl, by decide, by kernel_rfl, by kernel_rfl⟩
theorem tok15 : Ok1 Go.Proofs.Try.prog 15 x15 := ⟨rfl, Go.Proofs.Try.f15, _, hintsOf 15, Go.Proofs.Try.func15, by kernel_rfl, rfl, by decide, by kernel_rfl, by kernel_rfl⟩
theorem tok16 : Ok1 Go.Proofs.Try.prog 16 x16 := ⟨rfl, Go.Proofs.Try.f16, _, hintsOf 16, Go.Proofs.Try.func16, by kernel_rfl, rfl, by decide, by kernel_rfl, by kernel_rfl⟩
theorem tok17 : Ok1 Go.Proofs.Try.prog 17 x17 := ⟨rfl, Go.Proofs.Try.f17, _, hintsOf 17, Go.Proofs.Try.func17, by kernel_rfl, rfl, by decide, by kernel_rfl, by kernel_rfl⟩
theorem tok18 : Ok1 Go.Proofs.Try.prog 18 x18 := ⟨rfl, Go.Proofs.Try.f18, _, hintsOf 18, Go.Proofs.Try.func18, by kernel_rfl, rfl, by decide, by kernel_rfl, by kernel_rfl⟩
theorem tok19 : Ok1 Go.Proofs.Try.prog 19 x19 := ⟨rfl, Go.Proofs.Try.f19, _, hintsOf 19, Go.Proofs.Try.func19, by kernel_rfl, rfl, by decide, by kernel_rfl, by kernel_rfl⟩
theorem tok20 : Ok1 Go.Proofs.Try.prog 20 x20 := ⟨rfl, Go.Proofs.Try.f20, _, hintsOf 20, Go.Proofs.Try.func20, by kernel_rfl, rfl, by decide, by kernel_rfl, by kernel_rfl⟩
theorem tok21 : Ok1 Go.Proofs.Try.prog 21 x21 := ⟨rfl, Go.Proofs.Try.f21, _, hintsOf 21, Go.Proofs.Try.func21, by kernel_rfl, rfl, by decide, by kernel_rfl, by kernel_rfl⟩
theorem tok22 : Ok1 Go.Proofs.Try.prog 22 x22 := ⟨rfl, Go.Proofs.Try.f22, _, hintsOf 22, Go.Proofs.Try.func22, by kernel_rfl, rfl, by decide, by kernel_rfl, by kernel_rfl⟩
theorem tok23 : Ok1 Go.Proofs.Try.prog 23 x23 := ⟨rfl, Go.Proofs.Try.f23, _, hintsOf 23, Go.Proofs.Try.func23, by kernel_rfl, rfl, by decide, by kernel_rfl, by kernel_rfl⟩
theorem tok24 : Ok1 Go.Proofs.Try.prog 24 x24 := ⟨rfl, Go.Proofs.Try.f24, _, hintsOf 24, Go.Proofs.Try.func24, by kernel_rfl, rfl, by decide, by kernel_rfl, by kernel_rfl⟩
theorem tok26 : Ok1 Go.Proofs.Try.prog 26 x26 := ⟨rfl, Go.Proofs.Try.f26, _, hintsOf 26, Go.Proofs.Try.func26, by kernel_rfl, rfl, by decide, by kernel_rfl, by kernel_rfl⟩
theorem tok27 : Ok1 Go.Proofs.Try.prog 27 x27 := ⟨rfl, Go.Proofs.Try.f27, _, hintsOf 27, Go.Proofs.Try.func27, by kernel_rfl, rfl, by decide, by kernel_rfl, by kernel_rfl⟩
theorem tok28 : Ok1 Go.Proofs.Try.prog 28 x28 := ⟨rfl, Go.Proofs.Try.f28, _, hintsOf 28, Go.Proofs.Try.func28, by kernel_rfl, rfl, by decide, by kernel_rfl, by kernel_rfl⟩
theorem tok29 : Ok1 Go.Proofs.Try.prog 29 x29 := ⟨rfl, Go.Proofs.Try.f29, _, hintsOf 29, Go.Proofs.Try.func29, by kernel_rfl, rfl, by decide, by kernel_rfl, by kernel_rfl⟩
theorem tok30 : Ok1 Go.Proofs.Try.prog 30 x30 := ⟨rfl, Go.Proofs.Try.f30, _, hintsOf 30, Go.Proofs.Try.func30, by kernel_rfl, rfl, by decide, by kernel_rfl, by kernel_rfl⟩
theorem tok31 : Ok1 Go.Proofs.Try.prog 31 x31 := ⟨rfl, Go.Proofs.Try.f31, _, hintsOf 31, Go.Proofs.Try.func31, by kernel_rfl, rfl, by decide, by kernel_rfl, by kernel_rfl⟩
theorem tok32 : Ok1 Go.Proofs.Try.prog 32 x32 := ⟨rfl, Go.Proofs.Try.f32, _, hintsOf 32, Go.Proofs.Try.func32, by kernel_rfl, rfl, by decide, by kernel_rfl, by kernel_rfl⟩
theorem tok33 : Ok1 Go.Proofs.Try.prog 33 x33 := ⟨rfl, Go.Proofs.Try.f33, _, hintsOf 33, Go.Proofs.Try.func33, by kernel_rfl, rfl, by decide, by kernel_rfl, by kernel_rfl⟩
theorem tok34 : Ok1 Go.Proofs.Try.prog 34 x34 := ⟨rfl, Go.Proofs.Try.f34, _, hintsOf 34, Go.Proofs.Try.func34, by kernel_rfl, rfl, by decide, by kernel_rfl, by kernel_rfl⟩
theorem tok35 : CallOk1 Go.Proofs.Try.prog 35 (extSem 0) := ext_reverse Go.Proofs.Try.lays35 rfl ⟨Go.Proofs.Try.f35, Go.Proofs.Try.func35, by kernel_rfl, by kernel_rfl⟩
theorem tok36 : Ok1 Go.Proofs.Try.prog 36 x36 := ⟨rfl, Go.Proofs.Try.f36, _, hintsOf 36, Go.Proofs.Try.func36, by kernel_rfl, rfl, by decide, by kernel_rfl, by kernel_rfl⟩
theorem tok37 : Ok1 Go.Proofs.Try.prog 37 x37 := ⟨rfl, Go.Proofs.Try.f37, _, hintsOf 37, Go.Proofs.Try.func37, by kernel_rfl, rfl, by decide, by kernel_rfl, by kernel_rfl⟩
theorem tok38 : Ok1 Go.Proofs.Try.prog 38 x38 := ⟨rfl, Go.Proofs.Try.f38, _, hintsOf 38, Go.Proofs.Try.func38, by kernel_rfl, rfl, by decide, by kernel_rfl, by kernel_rfl⟩
theorem tok39 : Ok1 Go.Proofs.Try.prog 39 x39 := ⟨rfl, Go.Proofs.Try.f39, _, hintsOf 39, Go.Proofs.Try.func39, by kernel_rfl, rfl, by decide, by kernel_rfl, by kernel_rfl⟩
theorem tok40 : Ok1 Go.Proofs.Try.prog 40 x40 := ⟨rfl, Go.Proofs.Try.f40, _, hintsOf 40, Go.Proofs.Try.func40, by kernel_rfl, rfl, by decide, by kernel_rfl, by kernel_rfl⟩
theorem tok41 : Ok1 Go.Proofs.Try.prog 41 x41 := ⟨rfl, Go.Proofs.Try.f41, _, hintsOf 41, Go.Proofs.Try.func41, by kernel_rfl, rfl, by decide, by kernel_rfl, by kernel_rfl⟩
theorem tok42 : Ok1 Go.Proofs.Try.prog 42 x42 := ⟨rfl, Go.Proofs.Try.f42, _, hintsOf 42, Go.Proofs.Try.func42, by kernel_rfl, rfl, by decide, by kernel_rfl, by kernel_rfl⟩
theorem tok43 : Ok1 Go.Proofs.Try.prog 43 x43 := ⟨rfl, Go.Proofs.Try.f43, _, hintsOf 43, Go.Proofs.Try.func43, by kernel_rfl, rfl, by decide, by kernel_rfl, by kernel_rfl⟩
theorem tok44 : Ok1 Go.Proofs.Try.prog 44 x44 := ⟨rfl, Go.Proofs.Try.f44, _, hintsOf 44, Go.Proofs.Try.func44, by kernel_rfl, rfl, by decide, by kernel_rfl, by kernel_rfl⟩
theorem tok45 : Ok1 Go.Proofs.Try.prog 45 x45 := ⟨rfl, Go.Proofs.Try.f45, _, hintsOf 45, Go.Proofs.Try.func45, by kernel_rfl, rfl, by decide, by kernel_rfl, by kernel_rfl⟩
theorem tok46 : Ok1 Go.Proofs.Try.prog 46 x46 := ⟨rfl, Go.Proofs.Try.f46, _, hintsOf 46, Go.Proofs.Try.func46, by kernel_rfl, rfl, by decide, by kernel_rfl, by kernel_rfl⟩
theorem tok47 : Ok1 Go.Proofs.Try.prog 47 x47 := ⟨rfl, Go.Proofs.Try.f47, _, hintsOf 47, Go.Proofs.Try.func47, by kernel_rfl, rfl, by decide, by kernel_rfl, by kernel_rfl⟩
theorem tok48 : Ok1 Go.Proofs.Try.prog 48 x48 := ⟨rfl, Go.Proofs.Try.f48, _, hintsOf 48, Go.Proofs.Try.func48, by kernel_rfl, rfl, by decide, by kernel_rfl, by kernel_rfl⟩
theorem tok49 : Ok1 Go.Proofs.Try.prog 49 x49 := ⟨rfl, Go.Proofs.Try.f49, _, hintsOf 49, Go.Proofs.Try.func49, by kernel_rfl, rfl, by decide, by kernel_rfl, by kernel_rfl⟩
theorem tok50 : Ok1 Go.Proofs.Try.prog 50 x50 := ⟨rfl, Go.Proofs.Try.f50, _, hintsOf 50, Go.Proofs.Try.func50, by kernel_rfl, rfl, by decide, by kernel_rfl, by kernel_rfl⟩
theorem tok51 : Ok1 Go.Proofs.Try.prog 51 x51 := ⟨rfl, Go.Proofs.Try.f51, _, hintsOf 51, Go.Proofs.Try.func51, by kernel_rfl, rfl, by decide, by kernel_rfl, by kernel_rfl⟩
theorem tok52 : Ok1 Go.Proofs.Try.prog 52 x52 := ⟨rfl, Go.Proofs.Try.f52, _, hintsOf 52, Go.Proofs.Try.func52, by kernel_rfl, rfl, by decide, by kernel_rfl, by kernel_rfl⟩
theorem tok53 : Ok1 Go.Proofs.Try.prog 53 x53 := ⟨rfl, Go.Proofs.Try.f53, _, hintsOf 53, Go.Proofs.Try.func53, by kernel_rfl, rfl, by decide, by kernel_rfl, by kernel_rfl⟩
theorem tok54 : Ok1 Go.Proofs.Try.prog 54 x54 := ⟨rfl, Go.Proofs.Try.f54, _, hintsOf 54, Go.Proofs.Try.func54, by kernel_rfl, rfl, by decide, by kernel_rfl, by kernel_rfl⟩
theorem tok55 : Ok1 Go.Proofs.Try.prog 55 x55 := ⟨rfl, Go.Proofs.Try.f55, _, hintsOf 55, Go.Proofs.Try.func55, by kernel_rfl, rfl, by decide, by kernel_rfl, by kernel_rfl⟩
theorem tok56 : Ok1 Go.Proofs.Try.prog 56 x56 := ⟨rfl, Go.Proofs.Try.f56, _, hintsOf 56, Go.Proofs.Try.func56, by kernel_rfl, rfl, by decide, by kernel_rfl, by kernel_rfl⟩
theorem tok57 : Ok1 Go.Proofs.Try.prog 57 x57 := ⟨rfl, Go.Proofs.Try.f57, _, hintsOf 57, Go.Proofs.Try.func57, by kernel_rfl, rfl, by decide, by kernel_rfl, by kernel_rfl⟩
theorem tok58 : Ok1 Go.Proofs.Try.prog 58 x58 := ⟨rfl, Go.Proofs.Try.f58, _, hintsOf 58, Go.Proofs.Try.func58, by kernel_rfl, rfl, by decide, by kernel_rfl, by kernel_rfl⟩
theorem tok59 : Ok1 Go.Proofs.Try.prog 59 x59 := ⟨rfl, Go.Proofs.Try.f59, _, hintsOf 59, Go.Proofs.Try.func59, by kernel_rfl, rfl, by decide, by kernel_rfl, by kernel_rfl⟩
theorem tok60 : Ok1 Go.Proofs.Try.prog 60 x60 := ⟨rfl, Go.Proofs.Try.f60, _, hintsOf 60, Go.Proofs.Try.func60, by kernel_rfl, rfl, by decide, by kernel_rfl, by kernel_rfl⟩
theorem tok61 : Ok1 Go.Proofs.Try.prog 61 x61 := ⟨rfl, Go.Proofs.Try.f61, _, hintsOf 61, Go.Proofs.Try.func61, by kernel_rfl, rfl, by decide, by kernel_rfl, by kernel_rfl⟩
theorem tok62 : Ok1 Go.Proofs.Try.prog 62 x62 := ⟨rfl, Go.Proofs.Try.f62, _, hintsOf 62, Go.Proofs.Try.func62, by kernel_rfl, rfl, by decide, by kernel_rfl, by kernel_rfl⟩
theorem tok63 : Ok1 Go.Proofs.Try.prog 63 x63 := ⟨rfl, Go.Proofs.Try.f63, _, hintsOf 63, Go.Proofs.Try.func63, by kernel_rfl, rfl, by decide, by kernel_rfl, by kernel_rfl⟩
theorem tok64 : Ok1 Go.Proofs.Try.prog 64 x64 := ⟨rfl, Go.Proofs.Try.f64, _, hintsOf 64, Go.Proofs.Try.func64, by kernel_rfl, rfl, by decide, by kernel_rfl, by kernel_rfl⟩
theorem tok65 : Ok1 Go.Proofs.Try.prog 65 x65 := ⟨rfl, Go.Proofs.Try.f65, _, hintsOf 65, Go.Proofs.Try.func65, by kernel_rfl, rfl, by decide, by kernel_rfl, by kernel_rfl⟩
theorem tok66 : Ok1 Go.Proofs.Try.prog 66 x66 := ⟨rfl, Go.Proofs.Try.f66, _, hintsOf 66, Go.Proofs.Try.func66, by kernel_rfl, rfl, by decide, by kernel_rfl, by kernel_rfl⟩
theorem tok67 : Ok1 Go.Proofs.Try.prog 67 x67 := ⟨rfl, Go.Proofs.Try.f67, _, hintsOf 67, Go.Proofs.Try.func67, by kernel_rfl, rfl, by decide, by kernel_rfl, by kernel_rfl⟩
theorem tok68 : Ok1 Go.Proofs.Try.prog 68 x68 := ⟨rfl, Go.Proofs.Try.f68, _, hintsOf 68, Go.Proofs.Try.func68, by kernel_rfl, rfl, by decide, by kernel_rfl, by kernel_rfl⟩
theorem tok69 : Ok1 Go.Proofs.Try.prog 69 x69 := ⟨rfl, Go.Proofs.Try.f69, _, hintsOf 69, Go.Proofs.Try.func69, by kernel_rfl, rfl, by decide, by kernel_rfl, by kernel_rfl⟩
theorem tok70 : Ok1 Go.Proofs.Try.prog 70 x70 := ⟨rfl, Go.Proofs.Try.f70, _, hintsOf 70, Go.Proofs.Try.func70, by kernel_rfl, rfl, by decide, by kernel_rfl, by kernel_rfl⟩
theorem tok71 : Ok1 Go.Proofs.Try.prog 71 x71 := ⟨rfl, Go.Proofs.Try.f71, _, hintsOf 71, Go.Proofs.Try.func71, by kernel_rfl, rfl, by decide, by kernel_rfl, by kernel_rfl⟩
theorem tok72 : Ok1 Go.Proofs.Try.prog 72 x72 := ⟨rfl, Go.Proofs.Try.f72, _, hintsOf 72, Go.Proofs.Try.func72, by kernel_rfl, rfl, by decide, by kernel_rfl, by kernel_rfl⟩
theorem tok73 : Ok1 Go.Proofs.Try.prog 73 x73 := ⟨rfl, Go.Proofs.Try.f73, _, hintsOf 73, Go.Proofs.Try.func73, by kernel_rfl, rfl, by decide, by kernel_rfl, by kernel_rfl⟩
theorem tok74 : Ok1 Go.Proofs.Try.prog 74 x74 := ⟨rfl, Go.Proofs.Try.f74, _, hintsOf 74, Go.Proofs.Try.func74, by kernel_rfl, rfl, by decide, by kernel_rfl, by kernel_rfl⟩
theorem tok75 : Ok1 Go.Proofs.Try.prog 75 x75 := ⟨rfl, Go.Proofs.Try.f75, _, hintsOf 75, Go.Proofs.Try.func75, by kernel_rfl, rfl, by decide, by kernel_rfl, by kernel_rfl⟩
theorem tok76 : Ok1 Go.Proofs.Try.prog 76 x76 := ⟨rfl, Go.Proofs.Try.f76, _, hintsOf 76, Go.Proofs.Try.func76, by kernel_rfl, rfl, by decide, by kernel_rfl, by kernel_rfl⟩
theorem tok77 : Ok1 Go.Proofs.Try.prog 77 x77 := ⟨rfl, Go.Proofs.Try.f77, _, hintsOf 77, Go.Proofs.Try.func77, by kernel_rfl, rfl, by decide, by kernel_rfl, by kernel_rfl⟩
theorem tok78 : Ok1 Go.Proofs.Try.prog 78 x78 := ⟨rfl, Go.Proofs.Try.f78, _, hintsOf 78, Go.Proofs.Try.func78, by kernel_rfl, rfl, by decide, by kernel_rfl, by kernel_rfl⟩
theorem tok79 : Ok1 Go.Proofs.Try.prog 79 x79 := ⟨rfl, Go.Proofs.Try.f79, _, hintsOf 79, Go.Proofs.Try.func79, by kernel_rfl, rfl, by decide, by kernel_rfl, by kernel_rfl⟩
theorem tok80 : Ok1 Go.Proofs.Try.prog 80 x80 := ⟨rfl, Go.Proofs.Try.f80, _, hintsOf 80, Go.Proofs.Try.func80, by kernel_rfl, rfl, by decide, by kernel_rfl, by kernel_rfl⟩
theorem tok81 : Ok1 Go.Proofs.Try.prog 81 x81 := ⟨rfl, Go.Proofs.Try.f81, _, hintsOf 81, Go.Proofs.Try.func81, by kernel_rfl, rfl, by decide, by kernel_rfl, by kernel_rfl⟩
theorem tok : TOk Go.Proofs.Try.prog T := fun f x hx => TT.get_all (t := tt) (Q := fun f x => (∃ k, x.ext = some k ∧ CallOk1 Go.Proofs.Try.prog f (extSem k)) ∨ Ok1 Go.Proofs.Try.prog f x) ⟨.inr tok45, ⟨.inr tok26, ⟨.inr tok16, ⟨.inr tok11, ⟨.inr tok9, ⟨.inr tok8, ⟨.inr tok4, trivial, trivial⟩, trivial⟩, ⟨.inr tok10, trivial, trivial⟩⟩, ⟨.inr tok14, ⟨.inr tok13, ⟨.inr tok12, trivial, trivial⟩, trivial⟩, ⟨.inr tok15, trivial, trivial⟩⟩⟩, ⟨.inr tok21, ⟨.inr tok19, ⟨.inr tok18, ⟨.inr tok17, trivial, trivial⟩, trivial⟩, ⟨.inr tok20, trivial, trivial⟩⟩, ⟨.inr tok23, ⟨.inr tok22, trivial, trivial⟩, ⟨.inr tok24, trivial, trivial⟩⟩⟩⟩, ⟨.inr tok36, ⟨.inr tok31, ⟨.inr tok29, ⟨.inr tok28, ⟨.inr tok27, trivial, trivial⟩, trivial⟩, ⟨.inr tok30, trivial, trivial⟩⟩, ⟨.inr tok34, ⟨.inr tok33, ⟨.inr tok32, trivial, trivial⟩, trivial⟩, ⟨.inl ⟨_, rfl, tok35⟩, trivial, trivial⟩⟩⟩, ⟨.inr tok41, ⟨.inr tok39, ⟨.inr tok38, ⟨.inr tok37, trivial, trivial⟩, trivial⟩, ⟨.inr tok40, trivial, trivial⟩⟩, ⟨.inr tok43, ⟨.inr tok42, trivial, trivial⟩, ⟨.inr tok44, trivial, trivial⟩⟩⟩⟩⟩, ⟨.inr tok64, ⟨.inr tok55, ⟨.inr tok50, ⟨.inr tok48, ⟨.inr tok47, ⟨.inr tok46, trivial, trivial⟩, trivial⟩, ⟨.inr tok49, trivial, trivial⟩⟩, ⟨.inr tok53, ⟨.inr tok52, ⟨.inr tok51, trivial, trivial⟩, trivial⟩, ⟨.inr tok54, trivial, trivial⟩⟩⟩, ⟨.inr tok60, ⟨.inr tok58, ⟨.inr tok57, ⟨.inr tok56, trivial, trivial⟩, trivial⟩, ⟨.inr tok59, trivial, trivial⟩⟩, ⟨.inr tok62, ⟨.inr tok61, trivial, trivial⟩, ⟨.inr tok63, trivial, trivial⟩⟩⟩⟩, ⟨.inr tok73, ⟨.inr tok69, ⟨.inr tok67, ⟨.inr tok66, ⟨.inr tok65, trivial, trivial⟩, trivial⟩, ⟨.inr tok68, trivial, trivial⟩⟩, ⟨.inr tok71, ⟨.inr tok70, trivial, trivial⟩, ⟨.inr tok72, trivial, trivial⟩⟩⟩, ⟨.inr tok78, ⟨.inr tok76, ⟨.inr tok75, ⟨.inr tok74, trivial, trivial⟩, trivial⟩, ⟨.inr tok77, trivial, trivial⟩⟩, ⟨.inr tok80, ⟨.inr tok79, trivial, trivial⟩, ⟨.inr tok81, trivial, trivial⟩⟩⟩⟩⟩⟩ f x hx
theorem mixed : Go.Proofs.Try.prog.follows .mixedOrders = true := by kernel_rfl
end Go.Ab

/-
  Printed by gen.py.
-/
namespace Go.Ab
open Go
set_option linter.unusedVariables false
set_option linter.unusedSimpArgs false
set_option maxRecDepth 100000
set_option maxHeartbeats 4000000
open Go.ChangeShapes Go.WideShapes Go.ChangeAt Go.RowKit
theorem own : ownKnob Go.Proofs.Try.prog.godebug = none := by kernel_rfl
theorem laidOut : laidOutB Go.Proofs.Try.prog = true := by kernel_rfl
def RIns (x : Ins) : Prop := Rng .i64 x.Op ∧ Rng .i64 x.Id ∧ Rng .i64 x.N ∧ Rng .i64 (x.Type') ∧ (x.Args.length < 140737488355328 ∧ ∀ y ∈ x.Args, Rng .i64 y) ∧ (x.To.length < 140737488355328 ∧ ∀ y ∈ x.To, Rng .i64 y) ∧ x.Name.length < 140737488355328 ∧ Rng .i64 x.At
theorem opnIns (n : Nat) : Opn Go.Proofs.Try.prog (n + 3) 53 cIns RIns := by
  intro H d pvs h hw
  obtain ⟨ds, g0⟩ := pv_struct Go.Proofs.Try.underlying53 h hw
  clear h hw
  obtain ⟨d1, ds1, a1, b1, rfl, h1, g1, rfl⟩ := zipL_cons g0
  obtain ⟨d2, ds2, a2, b2, rfl, h2, g2, rfl⟩ := zipL_cons g1
  obtain ⟨d3, ds3, a3, b3, rfl, h3, g3, rfl⟩ := zipL_cons g2
  obtain ⟨d4, ds4, a4, b4, rfl, h4, g4, rfl⟩ := zipL_cons g3
  obtain ⟨d5, ds5, a5, b5, rfl, h5, g5, rfl⟩ := zipL_cons g4
  obtain ⟨d6, ds6, a6, b6, rfl, h6, g6, rfl⟩ := zipL_cons g5
  obtain ⟨d7, ds7, a7, b7, rfl, h7, g7, rfl⟩ := zipL_cons g6
  obtain ⟨d8, ds8, a8, b8, rfl, h8, g8, rfl⟩ := zipL_cons g7
  obtain rfl := zipL_nil g8
  obtain ⟨x1, rfl, r1⟩ := (opn_int (n := n + 1) Go.Proofs.Try.underlying3 : Opn Go.Proofs.Try.prog (n + 2) 3 (cint .i64) (Rng .i64)) H d1 a1 h1.1 h1.2
  obtain ⟨x2, rfl, r2⟩ := (opn_int (n := n + 1) Go.Proofs.Try.underlying3 : Opn Go.Proofs.Try.prog (n + 2) 3 (cint .i64) (Rng .i64)) H d2 a2 h2.1 h2.2
  obtain ⟨x3, rfl, r3⟩ := (opn_int (n := n + 1) Go.Proofs.Try.underlying2 : Opn Go.Proofs.Try.prog (n + 2) 2 (cint .i64) (Rng .i64)) H d3 a3 h3.1 h3.2
  obtain ⟨x4, rfl, r4⟩ := (opn_int (n := n + 1) Go.Proofs.Try.underlying3 : Opn Go.Proofs.Try.prog (n + 2) 3 (cint .i64) (Rng .i64)) H d4 a4 h4.1 h4.2
  obtain ⟨x5, rfl, r5⟩ := (opn_sl (n := n + 1) Go.Proofs.Try.underlying22 (by decide +kernel) (opn_int (n := n + 0) Go.Proofs.Try.underlying3) : Opn Go.Proofs.Try.prog (n + 2) 22 (csl (cint .i64)) (fun xs => xs.length < 140737488355328 ∧ ∀ x ∈ xs, (Rng .i64) x)) H d5 a5 h5.1 h5.2
  obtain ⟨x6, rfl, r6⟩ := (opn_sl (n := n + 1) Go.Proofs.Try.underlying22 (by decide +kernel) (opn_int (n := n + 0) Go.Proofs.Try.underlying3) : Opn Go.Proofs.Try.prog (n + 2) 22 (csl (cint .i64)) (fun xs => xs.length < 140737488355328 ∧ ∀ x ∈ xs, (Rng .i64) x)) H d6 a6 h6.1 h6.2
  obtain ⟨x7, rfl, r7⟩ := (opn_str (n := n + 1) Go.Proofs.Try.underlying9 : Opn Go.Proofs.Try.prog (n + 2) 9 cstr (fun s => s.length < 140737488355328)) H d7 a7 h7.1 h7.2
  obtain ⟨x8, rfl, r8⟩ := (opn_int (n := n + 1) Go.Proofs.Try.underlying3 : Opn Go.Proofs.Try.prog (n + 2) 3 (cint .i64) (Rng .i64)) H d8 a8 h8.1 h8.2
  exact ⟨⟨x1, x2, x3, x4, x5, x6, x7, x8⟩, rfl, r1, r2, r3, r4, r5, r6, r7, r8⟩
def RFun (x : Fun) : Prop := x.Name.length < 140737488355328 ∧ (x.Params.length < 140737488355328 ∧ ∀ y ∈ x.Params, Rng .i64 y) ∧ Rng .i64 x.Ret ∧ (x.Blocks.length < 140737488355328 ∧ ∀ y ∈ x.Blocks, y.length < 140737488355328 ∧ ∀ y1 ∈ y, RIns y1) ∧ Rng .i64 x.At
theorem opnFun (n : Nat) : Opn Go.Proofs.Try.prog (n + 6) 25 cFun RFun := by
  intro H d pvs h hw
  obtain ⟨ds, g0⟩ := pv_struct Go.Proofs.Try.underlying25 h hw
  clear h hw
  obtain ⟨d1, ds1, a1, b1, rfl, h1, g1, rfl⟩ := zipL_cons g0
  obtain ⟨d2, ds2, a2, b2, rfl, h2, g2, rfl⟩ := zipL_cons g1
  obtain ⟨d3, ds3, a3, b3, rfl, h3, g3, rfl⟩ := zipL_cons g2
  obtain ⟨d4, ds4, a4, b4, rfl, h4, g4, rfl⟩ := zipL_cons g3
  obtain ⟨d5, ds5, a5, b5, rfl, h5, g5, rfl⟩ := zipL_cons g4
  obtain rfl := zipL_nil g5
  obtain ⟨x1, rfl, r1⟩ := (opn_str (n := n + 4) Go.Proofs.Try.underlying9 : Opn Go.Proofs.Try.prog (n + 5) 9 cstr (fun s => s.length < 140737488355328)) H d1 a1 h1.1 h1.2
  obtain ⟨x2, rfl, r2⟩ := (opn_sl (n := n + 4) Go.Proofs.Try.underlying22 (by decide +kernel) (opn_int (n := n + 3) Go.Proofs.Try.underlying3) : Opn Go.Proofs.Try.prog (n + 5) 22 (csl (cint .i64)) (fun xs => xs.length < 140737488355328 ∧ ∀ x ∈ xs, (Rng .i64) x)) H d2 a2 h2.1 h2.2
  obtain ⟨x3, rfl, r3⟩ := (opn_int (n := n + 4) Go.Proofs.Try.underlying3 : Opn Go.Proofs.Try.prog (n + 5) 3 (cint .i64) (Rng .i64)) H d3 a3 h3.1 h3.2
  obtain ⟨x4, rfl, r4⟩ := (opn_sl (n := n + 4) Go.Proofs.Try.underlying23 (by decide +kernel) (opn_sl (n := n + 3) Go.Proofs.Try.underlying51 (by decide +kernel) (opnIns (n + 0))) : Opn Go.Proofs.Try.prog (n + 5) 23 (csl (csl cIns)) (fun xs => xs.length < 140737488355328 ∧ ∀ x ∈ xs, (fun xs => xs.length < 140737488355328 ∧ ∀ x ∈ xs, RIns x) x)) H d4 a4 h4.1 h4.2
  obtain ⟨x5, rfl, r5⟩ := (opn_int (n := n + 4) Go.Proofs.Try.underlying3 : Opn Go.Proofs.Try.prog (n + 5) 3 (cint .i64) (Rng .i64)) H d5 a5 h5.1 h5.2
  exact ⟨⟨x1, x2, x3, x4, x5⟩, rfl, r1, r2, r3, r4, r5⟩
theorem readGraphFollows (H : Type) (ds : List (DataW H)) (ws : List PV) (h : argsPV Go.Proofs.Try.prog 12 [25] ds = some ws ∧ ∀ x ∈ DataW.weightsEach Go.Proofs.Try.prog [25] ds, x ≤ reachBytes) : ∃ (x1 : Fun), (RFun x1) ∧ ws = [.agg [.str x1.Name, .sl x1.Params.length (x1.Params.flatMap (cint .i64)), .int .i64 x1.Ret, .sl x1.Blocks.length (x1.Blocks.flatMap (csl cIns)), .int .i64 x1.At]] := by
  obtain ⟨d1, ds1, w1, ws1, rfl, rfl, h1, h⟩ := args_cons h
  obtain ⟨rfl, rfl⟩ := args_nil h
  obtain ⟨x1, rfl, r1⟩ := arg_agg (by kernel_rfl) (opnFun 6) h1
  exact ⟨x1, r1, rfl⟩
end Go.Ab

/-
  Going through code step by step.
-/
namespace Go.Ab
open Go
set_option linter.unusedVariables false
section
variable {C : Calls'} {E E1 E2 E3 : Env} {ex : Ex} {k : List Nat}

theorem w_seq {a b : XC} {R : Option (Ex × Env)} (h : evX C a E = some (ex, E1)) (h2 : seqK (some (ex, E1)) (evX C b) = R) : evX C (.seq a b) E = R := by
  rw [evX_seq, h]; exact h2
theorem w_go {f : Env → Option (Ex × Env)} {R : Option (Ex × Env)} (h : f E = R) : seqK (some (.norm, E)) f = R := h
theorem w_gox {f : Env → Option (Ex × Env)} {i : Nat} : seqK (some (.exit i, E)) f = some (.exit i, E) := rfl
theorem w_gor {f : Env → Option (Ex × Env)} : seqK (some (.ret, E)) f = some (.ret, E) := rfl
theorem w_skip : evX C .skip E = some (.norm, E) := evX_skip
theorem w_ret : evX C .ret E = some (.ret, E) := evX_ret
theorem w_exit {i : Nat} (h : E.keep k = E1) : evX C (.exit i k) E = some (.exit i, E1) := by rw [evX_exit, h]
theorem w_reg {ops : List XI} (h : steps C E ops = some E1) (h2 : E1.keep k = E2) : evX C (.reg ops false k) E = some (.norm, E2) := by
  rw [evX_reg, h]; simp [h2]
theorem w_nil : steps C E [] = some E := rfl
theorem w_cons {o : XI} {r : List XI} (h : step C E o = some E1) (h2 : steps C E1 r = some E2) : steps C E (o :: r) = some E2 := by
  simp only [steps, h]; exact h2
theorem w_regD {ops : List XI} {ds : List Nat} (h0 : dstsOf ops = ds) (h1 : (E.all fun x => noRefs ds x.2 && !ds.contains x.1) = true) (h : stepsD C E.sub ds E ops = some E1) (h2 : E1.keep k = E2) : evX C (.reg ops true k) E = some (.norm, E2) := by
  subst h0
  rw [evX_regD]
  simp only [regD]
  rw [if_pos h1, h]; simp [h2]
theorem w_nilD {S : Subs} {ds : List Nat} : stepsD C S ds E [] = some E := rfl
theorem w_consD {S : Subs} {ds : List Nat} {o : XI} {r : List XI} {d : Nat} {v : PV} (hb : o.bar = false) (h : stepD C S ds E o = some (d, v)) (hg : E.get d = .none) (hs : E.set d v = E1) (h2 : stepsD C S ds E1 r = some E2) : stepsD C S ds E (o :: r) = some E2 := by
  simp only [stepsD, hb, Bool.false_eq_true, if_false, h, hg, hs]; exact h2
theorem w_barD {S : Subs} {ds : List Nat} {o : XI} {r : List XI} (hb : o.bar = true) (ha : r.all (·.bar) = true) (h : steps C E (o :: r) = some E2) : stepsD C S ds E (o :: r) = some E2 := by
  simp only [stepsD, hb, if_true, ha]; exact h
theorem w_condt {c : XO} {a b : XC} {R : Option (Ex × Env)} (h : look E c = .bool true) (h1 : evX C a E = some (ex, E1)) (h2 : fgt k (some (ex, E1)) = R) : evX C (.cond c a b k) E = R := by
  rw [evX_cond, h, condK, h1]; exact h2
theorem w_condf {c : XO} {a b : XC} {R : Option (Ex × Env)} (h : look E c = .bool false) (h1 : evX C b E = some (ex, E1)) (h2 : fgt k (some (ex, E1)) = R) : evX C (.cond c a b k) E = R := by
  rw [evX_cond, h, condK, h1]; exact h2
theorem w_block {b : XC} {i : Nat} {R : Option (Ex × Env)} (h1 : evX C b E = some (ex, E1)) (h2 : fgt k (blockK i (some (ex, E1))) = R) : evX C (.block i b k) E = R := by
  rw [evX_block, h1]; exact h2
theorem w_fgt {b : XC} {R : Option (Ex × Env)} (h1 : evX C b E = some (ex, E1)) (h2 : fgt k (some (ex, E1)) = R) : fgt k (evX C b E) = R := by
  rw [h1]; exact h2
theorem w_fn {x : XF} {ws : List PV} {c : XC} {r : Option (PV × List PV)} (hc : x.body = c) (hp : params 0 (argsIn x.nk ws) = E) (h : evX C c E = some (ex, E1)) (h2 : retK x ws (some (ex, E1)) = r) : retK x ws (evX C x.body (params 0 (argsIn x.nk ws))) = r := by
  rw [hc, hp, h]; exact h2
end
end Go.Ab

/-
  Printed by gen.py.
-/
namespace Go.Ab
open Go
set_option linter.unusedVariables false
set_option linter.unusedSimpArgs false
set_option maxRecDepth 100000
set_option maxHeartbeats 4000000
theorem r05_Ends_j1_ok (p0 : Int) : evX (evI T) x31_1 [(0, .int .i64 p0)] = some (.norm, [(2, .bool (((decide (26 ≤ p0)) && (decide (p0 ≤ 29)))))]) := by
  rcases Bool.eq_false_or_eq_true (decide (26 ≤ p0)) with h1 | h1
  · refine' (w_reg (w_cons ?_ (w_cons ?_ (w_cons ?_ (w_cons ?_ (w_cons ?_ (w_cons ?_ (w_cons ?_ w_nil))))))) ?_)
    all_goals (first | (simp only [nz, rn, h1, Int.reduceLT, Int.reduceEq, List.contains_cons, List.contains_nil, Option.map_some, Option.map_none, reduceIte, reduceCtorEq, Nat.reduceEqDiff, Nat.reduceLT, Nat.reduceBEq, Nat.reduceAdd, Nat.reduceMul, Nat.reduceLeDiff, Nat.reduceSub, Bool.false_eq_true]; try rfl) | skip)
  · refine' (w_reg (w_cons ?_ (w_cons ?_ (w_cons ?_ (w_cons ?_ (w_cons ?_ (w_cons ?_ (w_cons ?_ w_nil))))))) ?_)
    all_goals (first | (simp only [nz, rn, h1, Int.reduceLT, Int.reduceEq, List.contains_cons, List.contains_nil, Option.map_some, Option.map_none, reduceIte, reduceCtorEq, Nat.reduceEqDiff, Nat.reduceLT, Nat.reduceBEq, Nat.reduceAdd, Nat.reduceMul, Nat.reduceLeDiff, Nat.reduceSub, Bool.false_eq_true]; try rfl) | skip)
theorem r05_Ends_ok (p0 : Int) : Sim (r05_Ends p0) fun r => evI T 31 [.int .i64 p0] = some (.bool r, [.none]) := by
  unfold r05_Ends
  have f3 := r05_Ends_j1_ok p0
  refine sim_some ?_
  refine evI_ret (x := x31) rfl rfl rfl ?_
  try simp only [nz] at f3
  all_goals
    refine' (w_fn rfl rfl (w_seq (w_reg (w_cons ?_ w_nil) ?_) (w_go (w_seq f3 (w_go w_ret)))) ?_)
    all_goals (first | (simp only [x31, nz, rn, Int.reduceLT, Int.reduceEq, List.contains_cons, List.contains_nil, Option.map_some, Option.map_none, reduceIte, reduceCtorEq, Nat.reduceEqDiff, Nat.reduceLT, Nat.reduceBEq, Nat.reduceAdd, Nat.reduceMul, Nat.reduceLeDiff, Nat.reduceSub, Bool.false_eq_true]; try rfl) | skip)
theorem r05_Ends_okN (p0 : Int) : Sim (r05_Ends p0) fun r => ∀ ws, ws.map normA = [.int .i64 p0] → evI T 31 ws = some (.bool r, [.none]) := fun r h => evI_okN (x := x31) rfl rfl rfl (r05_Ends_ok p0 r h)
end Go.Ab

/-
  Printed by gen.py.
-/
namespace Go.Ab
open Go
set_option linter.unusedVariables false
set_option linter.unusedSimpArgs false
set_option maxRecDepth 100000
set_option maxHeartbeats 4000000
theorem r08_Shaped_j112_ok (p0 : Fun) (v1 : Int) (x_2 : List Ins) (v3 : Int) (x_5 : Ins) (v7 : Int) : evX (evI T) x10_1 [(1, .box [.str p0.Name, .sl p0.Params.length (p0.Params.flatMap (cint .i64)), .int .i64 p0.Ret, .sl p0.Blocks.length (p0.Blocks.flatMap (csl cIns)), .int .i64 p0.At]), (2, .box [.int .i64 0, .int .i64 0]), (3, .int .i64 v1), (4, .int .i64 ((x_2.length : Int))), (5, .int .i64 v3), (6, .box [.int .i64 x_5.Op, .int .i64 x_5.Id, .int .i64 x_5.N, .int .i64 (x_5.Type'), .sl x_5.Args.length (x_5.Args.flatMap (cint .i64)), .sl x_5.To.length (x_5.To.flatMap (cint .i64)), .str x_5.Name, .int .i64 x_5.At]), (7, .int .i64 v7)] = some (.norm, [(1, .box [.str p0.Name, .sl p0.Params.length (p0.Params.flatMap (cint .i64)), .int .i64 p0.Ret, .sl p0.Blocks.length (p0.Blocks.flatMap (csl cIns)), .int .i64 p0.At]), (2, .box [.int .i64 0, .int .i64 0]), (3, .int .i64 v1), (4, .int .i64 ((x_2.length : Int))), (5, .int .i64 v3), (6, .box [.int .i64 x_5.Op, .int .i64 x_5.Id, .int .i64 x_5.N, .int .i64 (x_5.Type'), .sl x_5.Args.length (x_5.Args.flatMap (cint .i64)), .sl x_5.To.length (x_5.To.flatMap (cint .i64)), .str x_5.Name, .int .i64 x_5.At]), (7, .int .i64 v7), (58, .bool (((decide (v7 < ((x_5.To.length : Int)))) && ((x_5.Op != 20)))))]) := by
  rcases Bool.eq_false_or_eq_true (decide (v7 < ((x_5.To.length : Int)))) with h16 | h16
  · refine' (w_reg (w_cons ?_ (w_cons ?_ (w_cons ?_ (w_cons ?_ (w_cons ?_ (w_cons ?_ (w_cons ?_ (w_cons ?_ (w_cons ?_ (w_cons ?_ w_nil)))))))))) ?_)
    all_goals (first | (simp only [nz, rn, nzIns, nzFun, h16, Int.reduceLT, Int.reduceEq, List.contains_cons, List.contains_nil, Option.map_some, Option.map_none, reduceIte, reduceCtorEq, Nat.reduceEqDiff, Nat.reduceLT, Nat.reduceBEq, Nat.reduceAdd, Nat.reduceMul, Nat.reduceLeDiff, Nat.reduceSub, Bool.false_eq_true]; try rfl) | skip)
  · refine' (w_reg (w_cons ?_ (w_cons ?_ (w_cons ?_ (w_cons ?_ (w_cons ?_ (w_cons ?_ (w_cons ?_ (w_cons ?_ (w_cons ?_ (w_cons ?_ w_nil)))))))))) ?_)
    all_goals (first | (simp only [nz, rn, nzIns, nzFun, h16, Int.reduceLT, Int.reduceEq, List.contains_cons, List.contains_nil, Option.map_some, Option.map_none, reduceIte, reduceCtorEq, Nat.reduceEqDiff, Nat.reduceLT, Nat.reduceBEq, Nat.reduceAdd, Nat.reduceMul, Nat.reduceLeDiff, Nat.reduceSub, Bool.false_eq_true]; try rfl) | skip)
theorem r08_Shaped_j114_ok (p0 : Fun) (v1 : Int) (x_2 : List Ins) (v3 : Int) (x_5 : Ins) (v7 : Int) : Sim (r08_Shaped_j114 p0 v1 x_2 v3 x_5 v7) fun r => evX (evI T) x10_2 [(1, .box [.str p0.Name, .sl p0.Params.length (p0.Params.flatMap (cint .i64)), .int .i64 p0.Ret, .sl p0.Blocks.length (p0.Blocks.flatMap (csl cIns)), .int .i64 p0.At]), (2, .box [.int .i64 0, .int .i64 0]), (3, .int .i64 v1), (4, .int .i64 ((x_2.length : Int))), (5, .int .i64 v3), (6, .box [.int .i64 x_5.Op, .int .i64 x_5.Id, .int .i64 x_5.N, .int .i64 (x_5.Type'), .sl x_5.Args.length (x_5.Args.flatMap (cint .i64)), .sl x_5.To.length (x_5.To.flatMap (cint .i64)), .str x_5.Name, .int .i64 x_5.At]), (7, .int .i64 v7)] = some (.norm, [(1, .box [.str p0.Name, .sl p0.Params.length (p0.Params.flatMap (cint .i64)), .int .i64 p0.Ret, .sl p0.Blocks.length (p0.Blocks.flatMap (csl cIns)), .int .i64 p0.At]), (2, .box [.int .i64 0, .int .i64 0]), (3, .int .i64 v1), (4, .int .i64 ((x_2.length : Int))), (5, .int .i64 v3), (6, .box [.int .i64 x_5.Op, .int .i64 x_5.Id, .int .i64 x_5.N, .int .i64 (x_5.Type'), .sl x_5.Args.length (x_5.Args.flatMap (cint .i64)), .sl x_5.To.length (x_5.To.flatMap (cint .i64)), .str x_5.Name, .int .i64 x_5.At]), (7, .int .i64 v7), (77, .bool r)]) := by
  unfold r08_Shaped_j114
  refine sim_bind (fun x_9 h20 => ?_)
  have f21 := ix_ok h20
  have f21o := ix_own2 h20
  have f22 := ix_cells (sz_int .i64) h20
  simp only [nz, nzIns, nzFun] at f22
  refine sim_if (fun h23 => ?_) (fun h23 => ?_)
  · refine sim_some ?_
    refine' (w_regD ?_ ?_ (w_consD rfl ?_ ?_ ?_ (w_consD rfl ?_ ?_ ?_ (w_consD rfl ?_ ?_ ?_ (w_consD rfl ?_ ?_ ?_ (w_consD rfl ?_ ?_ ?_ (w_consD rfl ?_ ?_ ?_ (w_consD rfl ?_ ?_ ?_ (w_consD rfl ?_ ?_ ?_ (w_consD rfl ?_ ?_ ?_ (w_consD rfl ?_ ?_ ?_ (w_consD rfl ?_ ?_ ?_ (w_consD rfl ?_ ?_ ?_ (w_consD rfl ?_ ?_ ?_ (w_consD rfl ?_ ?_ ?_ (w_consD rfl ?_ ?_ ?_ (w_barD rfl rfl (w_cons ?_ (w_cons ?_ w_nil)))))))))))))))))) ?_)
    all_goals (first | (simp only [nz, rn, nzIns, nzFun, f21, f21o, f22, h23, Int.reduceLT, Int.reduceEq, List.contains_cons, List.contains_nil, Option.map_some, Option.map_none, reduceIte, reduceCtorEq, Nat.reduceEqDiff, Nat.reduceLT, Nat.reduceBEq, Nat.reduceAdd, Nat.reduceMul, Nat.reduceLeDiff, Nat.reduceSub, Bool.false_eq_true]; try rfl) | skip)
  · have f24 := ix_cells (sz_int .i64) h20
    simp only [nz, nzIns, nzFun] at f24
    refine sim_some ?_
    refine' (w_regD ?_ ?_ (w_consD rfl ?_ ?_ ?_ (w_consD rfl ?_ ?_ ?_ (w_consD rfl ?_ ?_ ?_ (w_consD rfl ?_ ?_ ?_ (w_consD rfl ?_ ?_ ?_ (w_consD rfl ?_ ?_ ?_ (w_consD rfl ?_ ?_ ?_ (w_consD rfl ?_ ?_ ?_ (w_consD rfl ?_ ?_ ?_ (w_consD rfl ?_ ?_ ?_ (w_consD rfl ?_ ?_ ?_ (w_consD rfl ?_ ?_ ?_ (w_consD rfl ?_ ?_ ?_ (w_consD rfl ?_ ?_ ?_ (w_consD rfl ?_ ?_ ?_ (w_barD rfl rfl (w_cons ?_ (w_cons ?_ w_nil)))))))))))))))))) ?_)
    all_goals (first | (simp only [nz, rn, nzIns, nzFun, f21, f21o, f22, h23, f24, Int.reduceLT, Int.reduceEq, List.contains_cons, List.contains_nil, Option.map_some, Option.map_none, reduceIte, reduceCtorEq, Nat.reduceEqDiff, Nat.reduceLT, Nat.reduceBEq, Nat.reduceAdd, Nat.reduceMul, Nat.reduceLeDiff, Nat.reduceSub, Bool.false_eq_true]; try rfl) | skip)
theorem r08_Shaped_l115_bok (p0 : Fun) (v1 : Int) (x_2 : List Ins) (v3 : Int) (x_5 : Ins) (v7 : Int) : Sim (r08_Shaped_l115_b p0 v1 x_2 v3 x_5 v7) fun x => fgt [1, 2, 3, 4, 5, 6, 7] (evX (evI T) x10_3 [(1, .box [.str p0.Name, .sl p0.Params.length (p0.Params.flatMap (cint .i64)), .int .i64 p0.Ret, .sl p0.Blocks.length (p0.Blocks.flatMap (csl cIns)), .int .i64 p0.At]), (2, .box [.int .i64 0, .int .i64 0]), (3, .int .i64 v1), (4, .int .i64 ((x_2.length : Int))), (5, .int .i64 v3), (6, .box [.int .i64 x_5.Op, .int .i64 x_5.Id, .int .i64 x_5.N, .int .i64 (x_5.Type'), .sl x_5.Args.length (x_5.Args.flatMap (cint .i64)), .sl x_5.To.length (x_5.To.flatMap (cint .i64)), .str x_5.Name, .int .i64 x_5.At]), (7, .int .i64 v7)]) = some (stpK (fun s => (.norm, [(1, .box [.str p0.Name, .sl p0.Params.length (p0.Params.flatMap (cint .i64)), .int .i64 p0.Ret, .sl p0.Blocks.length (p0.Blocks.flatMap (csl cIns)), .int .i64 p0.At]), (2, .box [.int .i64 0, .int .i64 0]), (3, .int .i64 v1), (4, .int .i64 ((x_2.length : Int))), (5, .int .i64 v3), (6, .box [.int .i64 x_5.Op, .int .i64 x_5.Id, .int .i64 x_5.N, .int .i64 (x_5.Type'), .sl x_5.Args.length (x_5.Args.flatMap (cint .i64)), .sl x_5.To.length (x_5.To.flatMap (cint .i64)), .str x_5.Name, .int .i64 x_5.At]), (7, .int .i64 s)])) (fun r => (stpK (fun t0 => (.exit 4, [(1, .box [.str p0.Name, .sl p0.Params.length (p0.Params.flatMap (cint .i64)), .int .i64 p0.Ret, .sl p0.Blocks.length (p0.Blocks.flatMap (csl cIns)), .int .i64 p0.At]), (2, .box [.int .i64 0, .int .i64 0]), (3, .int .i64 v1), (4, .int .i64 ((x_2.length : Int))), (5, .int .i64 v3)])) (fun u0 => (.ret, [(2, .box [.int .i64 7, .int .i64 v1])])) r)) x) := by
  unfold r08_Shaped_l115_b
  have f18 := r08_Shaped_j112_ok p0 v1 x_2 v3 x_5 v7
  refine sim_if (fun h19 => ?_) (fun h19 => ?_)
  · refine sim_bind (fun v10 h25 => ?_)
    have f26 := r08_Shaped_j114_ok p0 v1 x_2 v3 x_5 v7 _ h25
    dsimp only at f26
    refine sim_if (fun h27 => ?_) (fun h27 => ?_)
    · refine sim_some ?_
      try simp only [nz, nzIns, nzFun] at f18
      try simp only [nz, nzIns, nzFun] at f26
      all_goals
        refine' (w_fgt (w_seq (w_seq f18 (w_go (w_condt ?_ w_skip ?_))) (w_go (w_seq (w_block (w_seq f26 (w_go (w_condt ?_ (w_seq (w_reg (w_cons ?_ (w_cons ?_ (w_cons ?_ w_nil))) ?_) (w_go w_ret)) ?_))) ?_) w_gor))) ?_)
        all_goals (first | (simp only [nz, rn, nzIns, nzFun, h19, h27, Int.reduceLT, Int.reduceEq, List.contains_cons, List.contains_nil, Option.map_some, Option.map_none, reduceIte, reduceCtorEq, Nat.reduceEqDiff, Nat.reduceLT, Nat.reduceBEq, Nat.reduceAdd, Nat.reduceMul, Nat.reduceLeDiff, Nat.reduceSub, Bool.false_eq_true]; try rfl) | skip)
    · refine sim_some ?_
      try simp only [nz, nzIns, nzFun] at f18
      try simp only [nz, nzIns, nzFun] at f26
      all_goals
        refine' (w_fgt (w_seq (w_seq f18 (w_go (w_condt ?_ w_skip ?_))) (w_go (w_seq (w_block (w_seq f26 (w_go (w_condf ?_ w_skip ?_))) ?_) (w_go (w_reg (w_cons ?_ (w_cons ?_ (w_cons ?_ w_nil))) ?_))))) ?_)
        all_goals (first | (simp only [nz, rn, nzIns, nzFun, h19, h27, Int.reduceLT, Int.reduceEq, List.contains_cons, List.contains_nil, Option.map_some, Option.map_none, reduceIte, reduceCtorEq, Nat.reduceEqDiff, Nat.reduceLT, Nat.reduceBEq, Nat.reduceAdd, Nat.reduceMul, Nat.reduceLeDiff, Nat.reduceSub, Bool.false_eq_true]; try rfl) | skip)
  · refine sim_some ?_
    try simp only [nz, nzIns, nzFun] at f18
    all_goals
      refine' (w_fgt (w_seq (w_seq f18 (w_go (w_condf ?_ (w_exit ?_) ?_))) w_gox) ?_)
      all_goals (first | (simp only [nz, rn, nzIns, nzFun, h19, Int.reduceLT, Int.reduceEq, List.contains_cons, List.contains_nil, Option.map_some, Option.map_none, reduceIte, reduceCtorEq, Nat.reduceEqDiff, Nat.reduceLT, Nat.reduceBEq, Nat.reduceAdd, Nat.reduceMul, Nat.reduceLeDiff, Nat.reduceSub, Bool.false_eq_true]; try rfl) | skip)
theorem r08_Shaped_l115_ok (p0 : Fun) (v1 : Int) (x_2 : List Ins) (v3 : Int) (x_5 : Ins) (s : Int) : Sim (r08_Shaped_l115 p0 v1 x_2 v3 x_5 s) fun r => evX (evI T) (.loop x10_3 [1, 2, 3, 4, 5, 6, 7]) [(1, .box [.str p0.Name, .sl p0.Params.length (p0.Params.flatMap (cint .i64)), .int .i64 p0.Ret, .sl p0.Blocks.length (p0.Blocks.flatMap (csl cIns)), .int .i64 p0.At]), (2, .box [.int .i64 0, .int .i64 0]), (3, .int .i64 v1), (4, .int .i64 ((x_2.length : Int))), (5, .int .i64 v3), (6, .box [.int .i64 x_5.Op, .int .i64 x_5.Id, .int .i64 x_5.N, .int .i64 (x_5.Type'), .sl x_5.Args.length (x_5.Args.flatMap (cint .i64)), .sl x_5.To.length (x_5.To.flatMap (cint .i64)), .str x_5.Name, .int .i64 x_5.At]), (7, .int .i64 s)] = some (stpK (fun t0 => (.exit 4, [(1, .box [.str p0.Name, .sl p0.Params.length (p0.Params.flatMap (cint .i64)), .int .i64 p0.Ret, .sl p0.Blocks.length (p0.Blocks.flatMap (csl cIns)), .int .i64 p0.At]), (2, .box [.int .i64 0, .int .i64 0]), (3, .int .i64 v1), (4, .int .i64 ((x_2.length : Int))), (5, .int .i64 v3)])) (fun u0 => (.ret, [(2, .box [.int .i64 7, .int .i64 v1])])) r) := by
  unfold r08_Shaped_l115
  exact loop_rule (C := evI T) (b := x10_3) (ks := [1, 2, 3, 4, 5, 6, 7]) (σ := Int) (ρ := Stp Unit Unit) (body := fun s => r08_Shaped_l115_b p0 v1 x_2 v3 x_5 s) (E := fun s => [(1, .box [.str p0.Name, .sl p0.Params.length (p0.Params.flatMap (cint .i64)), .int .i64 p0.Ret, .sl p0.Blocks.length (p0.Blocks.flatMap (csl cIns)), .int .i64 p0.At]), (2, .box [.int .i64 0, .int .i64 0]), (3, .int .i64 v1), (4, .int .i64 ((x_2.length : Int))), (5, .int .i64 v3), (6, .box [.int .i64 x_5.Op, .int .i64 x_5.Id, .int .i64 x_5.N, .int .i64 (x_5.Type'), .sl x_5.Args.length (x_5.Args.flatMap (cint .i64)), .sl x_5.To.length (x_5.To.flatMap (cint .i64)), .str x_5.Name, .int .i64 x_5.At]), (7, .int .i64 s)]) (R := fun r => (stpK (fun t0 => (.exit 4, [(1, .box [.str p0.Name, .sl p0.Params.length (p0.Params.flatMap (cint .i64)), .int .i64 p0.Ret, .sl p0.Blocks.length (p0.Blocks.flatMap (csl cIns)), .int .i64 p0.At]), (2, .box [.int .i64 0, .int .i64 0]), (3, .int .i64 v1), (4, .int .i64 ((x_2.length : Int))), (5, .int .i64 v3)])) (fun u0 => (.ret, [(2, .box [.int .i64 7, .int .i64 v1])])) r)) (fun r h => by rcases r with _ | _ <;> cases h) (fun s => r08_Shaped_l115_bok p0 v1 x_2 v3 x_5 s) s
theorem r08_Shaped_l116_bok (p0 : Fun) (v1 : Int) (x_2 : List Ins) (v3 : Int) : Sim (r08_Shaped_l116_b p0 v1 x_2 v3) fun x => fgt [1, 2, 3, 4, 5] (evX (evI T) x10_4 [(1, .box [.str p0.Name, .sl p0.Params.length (p0.Params.flatMap (cint .i64)), .int .i64 p0.Ret, .sl p0.Blocks.length (p0.Blocks.flatMap (csl cIns)), .int .i64 p0.At]), (2, .box [.int .i64 0, .int .i64 0]), (3, .int .i64 v1), (4, .int .i64 ((x_2.length : Int))), (5, .int .i64 v3)]) = some (stpK (fun s => (.norm, [(1, .box [.str p0.Name, .sl p0.Params.length (p0.Params.flatMap (cint .i64)), .int .i64 p0.Ret, .sl p0.Blocks.length (p0.Blocks.flatMap (csl cIns)), .int .i64 p0.At]), (2, .box [.int .i64 0, .int .i64 0]), (3, .int .i64 v1), (4, .int .i64 ((x_2.length : Int))), (5, .int .i64 s)])) (fun r => (stpK (fun t0 => (.exit 2, [(1, .box [.str p0.Name, .sl p0.Params.length (p0.Params.flatMap (cint .i64)), .int .i64 p0.Ret, .sl p0.Blocks.length (p0.Blocks.flatMap (csl cIns)), .int .i64 p0.At]), (2, .box [.int .i64 0, .int .i64 0]), (3, .int .i64 v1), (4, .int .i64 ((x_2.length : Int)))])) (fun u0 => (.ret, [(2, .box [.int .i64 u0, .int .i64 v1])])) r)) x) := by
  unfold r08_Shaped_l116_b
  refine sim_if (fun h6 => ?_) (fun h6 => ?_)
  · refine sim_bind (fun x_4 h7 => ?_)
    have f8 := ix_ok h7
    have f8o := ix_own2 h7
    have f9 := ix_cells (sz_sl cIns) h7
    simp only [nz, nzIns, nzFun] at f9
    refine sim_bind (fun x_5 h10 => ?_)
    have f11 := ix_ok h10
    have f11o := ix_own2 h10
    have f12 := ix_cells szIns h10
    simp only [nz, nzIns, nzFun] at f12
    refine sim_bind (fun r6 h13 => ?_)
    have f14 := r05_Ends_okN x_5.Op _ h13
    dsimp only at f14
    refine sim_if (fun h15 => ?_) (fun h15 => ?_)
    · refine sim_some ?_
      try simp only [nz, nzIns, nzFun, f11o] at f14
      all_goals
        refine' (w_fgt (w_seq (w_seq (w_reg (w_cons ?_ (w_cons ?_ (w_cons ?_ w_nil))) ?_) (w_go (w_condt ?_ w_skip ?_))) (w_go (w_seq (w_block (w_seq (w_reg (w_cons ?_ (w_cons ?_ (w_cons ?_ (w_cons ?_ (w_cons ?_ (w_cons ?_ (w_cons ?_ (w_cons ?_ (w_cons ?_ (w_cons ?_ w_nil)))))))))) ?_) (w_go (w_seq (w_seq (w_reg (w_cons ?_ (w_cons ?_ (w_cons ?_ (w_cons ?_ (w_cons ?_ (w_cons ?_ (w_cons ?_ (w_cons ?_ w_nil)))))))) ?_) (w_go (w_condt ?_ (w_seq (w_reg (w_cons ?_ (w_cons ?_ (w_cons ?_ w_nil))) ?_) (w_go w_ret)) ?_))) w_gor))) ?_) w_gor))) ?_)
        all_goals (first | (simp only [nz, rn, nzIns, nzFun, h6, f8, f8o, f9, f11, f11o, f12, f14, h15, Int.reduceLT, Int.reduceEq, List.contains_cons, List.contains_nil, Option.map_some, Option.map_none, reduceIte, reduceCtorEq, Nat.reduceEqDiff, Nat.reduceLT, Nat.reduceBEq, Nat.reduceAdd, Nat.reduceMul, Nat.reduceLeDiff, Nat.reduceSub, Bool.false_eq_true]; try rfl) | skip)
    · refine sim_bind (fun qh28 h28 => ?_)
      rcases qh28 with ⟨_⟩ | ⟨_⟩
      · dsimp only
        have f29 := r08_Shaped_l115_ok p0 v1 x_2 v3 x_5 0 _ h28
        dsimp only at f29
        refine sim_some ?_
        try simp only [nz, nzIns, nzFun, f11o] at f14
        try simp only [nz, nzIns, nzFun, f11o] at f29
        all_goals
          refine' (w_fgt (w_seq (w_seq (w_reg (w_cons ?_ (w_cons ?_ (w_cons ?_ w_nil))) ?_) (w_go (w_condt ?_ w_skip ?_))) (w_go (w_seq (w_block (w_seq (w_reg (w_cons ?_ (w_cons ?_ (w_cons ?_ (w_cons ?_ (w_cons ?_ (w_cons ?_ (w_cons ?_ (w_cons ?_ (w_cons ?_ (w_cons ?_ w_nil)))))))))) ?_) (w_go (w_seq (w_seq (w_reg (w_cons ?_ (w_cons ?_ (w_cons ?_ (w_cons ?_ (w_cons ?_ (w_cons ?_ (w_cons ?_ (w_cons ?_ w_nil)))))))) ?_) (w_go (w_condf ?_ w_skip ?_))) (w_go (w_seq (w_reg (w_cons ?_ w_nil) ?_) (w_go (w_block f29 ?_))))))) ?_) (w_go (w_reg (w_cons ?_ (w_cons ?_ (w_cons ?_ w_nil))) ?_))))) ?_)
          all_goals (first | (simp only [nz, rn, nzIns, nzFun, h6, f8, f8o, f9, f11, f11o, f12, f14, h15, Int.reduceLT, Int.reduceEq, List.contains_cons, List.contains_nil, Option.map_some, Option.map_none, reduceIte, reduceCtorEq, Nat.reduceEqDiff, Nat.reduceLT, Nat.reduceBEq, Nat.reduceAdd, Nat.reduceMul, Nat.reduceLeDiff, Nat.reduceSub, Bool.false_eq_true]; try rfl) | skip)
      · dsimp only
        have f29 := r08_Shaped_l115_ok p0 v1 x_2 v3 x_5 0 _ h28
        dsimp only at f29
        refine sim_some ?_
        try simp only [nz, nzIns, nzFun, f11o] at f14
        try simp only [nz, nzIns, nzFun, f11o] at f29
        all_goals
          refine' (w_fgt (w_seq (w_seq (w_reg (w_cons ?_ (w_cons ?_ (w_cons ?_ w_nil))) ?_) (w_go (w_condt ?_ w_skip ?_))) (w_go (w_seq (w_block (w_seq (w_reg (w_cons ?_ (w_cons ?_ (w_cons ?_ (w_cons ?_ (w_cons ?_ (w_cons ?_ (w_cons ?_ (w_cons ?_ (w_cons ?_ (w_cons ?_ w_nil)))))))))) ?_) (w_go (w_seq (w_seq (w_reg (w_cons ?_ (w_cons ?_ (w_cons ?_ (w_cons ?_ (w_cons ?_ (w_cons ?_ (w_cons ?_ (w_cons ?_ w_nil)))))))) ?_) (w_go (w_condf ?_ w_skip ?_))) (w_go (w_seq (w_reg (w_cons ?_ w_nil) ?_) (w_go (w_block f29 ?_))))))) ?_) w_gor))) ?_)
          all_goals (first | (simp only [nz, rn, nzIns, nzFun, h6, f8, f8o, f9, f11, f11o, f12, f14, h15, Int.reduceLT, Int.reduceEq, List.contains_cons, List.contains_nil, Option.map_some, Option.map_none, reduceIte, reduceCtorEq, Nat.reduceEqDiff, Nat.reduceLT, Nat.reduceBEq, Nat.reduceAdd, Nat.reduceMul, Nat.reduceLeDiff, Nat.reduceSub, Bool.false_eq_true]; try rfl) | skip)
  · refine sim_some ?_
    refine' (w_fgt (w_seq (w_seq (w_reg (w_cons ?_ (w_cons ?_ (w_cons ?_ w_nil))) ?_) (w_go (w_condf ?_ (w_exit ?_) ?_))) w_gox) ?_)
    all_goals (first | (simp only [nz, rn, nzIns, nzFun, h6, Int.reduceLT, Int.reduceEq, List.contains_cons, List.contains_nil, Option.map_some, Option.map_none, reduceIte, reduceCtorEq, Nat.reduceEqDiff, Nat.reduceLT, Nat.reduceBEq, Nat.reduceAdd, Nat.reduceMul, Nat.reduceLeDiff, Nat.reduceSub, Bool.false_eq_true]; try rfl) | skip)
theorem r08_Shaped_l116_ok (p0 : Fun) (v1 : Int) (x_2 : List Ins) (s : Int) : Sim (r08_Shaped_l116 p0 v1 x_2 s) fun r => evX (evI T) (.loop x10_4 [1, 2, 3, 4, 5]) [(1, .box [.str p0.Name, .sl p0.Params.length (p0.Params.flatMap (cint .i64)), .int .i64 p0.Ret, .sl p0.Blocks.length (p0.Blocks.flatMap (csl cIns)), .int .i64 p0.At]), (2, .box [.int .i64 0, .int .i64 0]), (3, .int .i64 v1), (4, .int .i64 ((x_2.length : Int))), (5, .int .i64 s)] = some (stpK (fun t0 => (.exit 2, [(1, .box [.str p0.Name, .sl p0.Params.length (p0.Params.flatMap (cint .i64)), .int .i64 p0.Ret, .sl p0.Blocks.length (p0.Blocks.flatMap (csl cIns)), .int .i64 p0.At]), (2, .box [.int .i64 0, .int .i64 0]), (3, .int .i64 v1), (4, .int .i64 ((x_2.length : Int)))])) (fun u0 => (.ret, [(2, .box [.int .i64 u0, .int .i64 v1])])) r) := by
  unfold r08_Shaped_l116
  exact loop_rule (C := evI T) (b := x10_4) (ks := [1, 2, 3, 4, 5]) (σ := Int) (ρ := Stp Unit Int) (body := fun s => r08_Shaped_l116_b p0 v1 x_2 s) (E := fun s => [(1, .box [.str p0.Name, .sl p0.Params.length (p0.Params.flatMap (cint .i64)), .int .i64 p0.Ret, .sl p0.Blocks.length (p0.Blocks.flatMap (csl cIns)), .int .i64 p0.At]), (2, .box [.int .i64 0, .int .i64 0]), (3, .int .i64 v1), (4, .int .i64 ((x_2.length : Int))), (5, .int .i64 s)]) (R := fun r => (stpK (fun t0 => (.exit 2, [(1, .box [.str p0.Name, .sl p0.Params.length (p0.Params.flatMap (cint .i64)), .int .i64 p0.Ret, .sl p0.Blocks.length (p0.Blocks.flatMap (csl cIns)), .int .i64 p0.At]), (2, .box [.int .i64 0, .int .i64 0]), (3, .int .i64 v1), (4, .int .i64 ((x_2.length : Int)))])) (fun u0 => (.ret, [(2, .box [.int .i64 u0, .int .i64 v1])])) r)) (fun r h => by rcases r with _ | _ <;> cases h) (fun s => r08_Shaped_l116_bok p0 v1 x_2 s) s
theorem r08_Shaped_l117_bok (p0 : Fun) (v1 : Int) : Sim (r08_Shaped_l117_b p0 v1) fun x => fgt [1, 2, 3] (evX (evI T) x10_5 [(1, .box [.str p0.Name, .sl p0.Params.length (p0.Params.flatMap (cint .i64)), .int .i64 p0.Ret, .sl p0.Blocks.length (p0.Blocks.flatMap (csl cIns)), .int .i64 p0.At]), (2, .box [.int .i64 0, .int .i64 0]), (3, .int .i64 v1)]) = some (stpK (fun s => (.norm, [(1, .box [.str p0.Name, .sl p0.Params.length (p0.Params.flatMap (cint .i64)), .int .i64 p0.Ret, .sl p0.Blocks.length (p0.Blocks.flatMap (csl cIns)), .int .i64 p0.At]), (2, .box [.int .i64 0, .int .i64 0]), (3, .int .i64 s)])) (fun r => (stpK (fun t0 => (.exit 0, [(2, .box [.int .i64 0, .int .i64 0])])) (fun u0 => (.ret, [(2, .box [.int .i64 u0.1, .int .i64 u0.2])])) r)) x) := by
  unfold r08_Shaped_l117_b
  refine sim_if (fun h2 => ?_) (fun h2 => ?_)
  · refine sim_bind (fun x_2 h3 => ?_)
    have f4 := ix_ok h3
    have f4o := ix_own2 h3
    have f5 := ix_cells (sz_sl cIns) h3
    simp only [nz, nzIns, nzFun] at f5
    refine sim_bind (fun qh30 h30 => ?_)
    rcases qh30 with ⟨_⟩ | ⟨v11⟩
    · dsimp only
      have f31 := r08_Shaped_l116_ok p0 v1 x_2 0 _ h30
      dsimp only at f31
      refine sim_if (fun h32 => ?_) (fun h32 => ?_)
      · refine sim_some ?_
        try simp only [nz, nzIns, nzFun] at f31
        all_goals
          refine' (w_fgt (w_seq (w_seq (w_reg (w_cons ?_ (w_cons ?_ (w_cons ?_ (w_cons ?_ (w_cons ?_ w_nil))))) ?_) (w_go (w_condt ?_ w_skip ?_))) (w_go (w_seq (w_block (w_seq (w_reg (w_cons ?_ (w_cons ?_ (w_cons ?_ (w_cons ?_ (w_cons ?_ (w_cons ?_ (w_cons ?_ w_nil))))))) ?_) (w_go (w_seq (w_seq (w_reg (w_cons ?_ w_nil) ?_) (w_go (w_block f31 ?_))) (w_go (w_seq (w_reg (w_cons ?_ (w_cons ?_ w_nil)) ?_) (w_go (w_condt ?_ (w_seq (w_reg (w_cons ?_ (w_cons ?_ (w_cons ?_ w_nil))) ?_) (w_go w_ret)) ?_))))))) ?_) w_gor))) ?_)
          all_goals (first | (simp only [nz, rn, nzIns, nzFun, h2, f4, f4o, f5, h32, Int.reduceLT, Int.reduceEq, List.contains_cons, List.contains_nil, Option.map_some, Option.map_none, reduceIte, reduceCtorEq, Nat.reduceEqDiff, Nat.reduceLT, Nat.reduceBEq, Nat.reduceAdd, Nat.reduceMul, Nat.reduceLeDiff, Nat.reduceSub, Bool.false_eq_true]; try rfl) | skip)
      · refine sim_some ?_
        try simp only [nz, nzIns, nzFun] at f31
        all_goals
          refine' (w_fgt (w_seq (w_seq (w_reg (w_cons ?_ (w_cons ?_ (w_cons ?_ (w_cons ?_ (w_cons ?_ w_nil))))) ?_) (w_go (w_condt ?_ w_skip ?_))) (w_go (w_seq (w_block (w_seq (w_reg (w_cons ?_ (w_cons ?_ (w_cons ?_ (w_cons ?_ (w_cons ?_ (w_cons ?_ (w_cons ?_ w_nil))))))) ?_) (w_go (w_seq (w_seq (w_reg (w_cons ?_ w_nil) ?_) (w_go (w_block f31 ?_))) (w_go (w_seq (w_reg (w_cons ?_ (w_cons ?_ w_nil)) ?_) (w_go (w_condf ?_ w_skip ?_))))))) ?_) (w_go (w_reg (w_cons ?_ (w_cons ?_ (w_cons ?_ w_nil))) ?_))))) ?_)
          all_goals (first | (simp only [nz, rn, nzIns, nzFun, h2, f4, f4o, f5, h32, Int.reduceLT, Int.reduceEq, List.contains_cons, List.contains_nil, Option.map_some, Option.map_none, reduceIte, reduceCtorEq, Nat.reduceEqDiff, Nat.reduceLT, Nat.reduceBEq, Nat.reduceAdd, Nat.reduceMul, Nat.reduceLeDiff, Nat.reduceSub, Bool.false_eq_true]; try rfl) | skip)
    · dsimp only
      have f31 := r08_Shaped_l116_ok p0 v1 x_2 0 _ h30
      dsimp only at f31
      refine sim_some ?_
      try simp only [nz, nzIns, nzFun] at f31
      all_goals
        refine' (w_fgt (w_seq (w_seq (w_reg (w_cons ?_ (w_cons ?_ (w_cons ?_ (w_cons ?_ (w_cons ?_ w_nil))))) ?_) (w_go (w_condt ?_ w_skip ?_))) (w_go (w_seq (w_block (w_seq (w_reg (w_cons ?_ (w_cons ?_ (w_cons ?_ (w_cons ?_ (w_cons ?_ (w_cons ?_ (w_cons ?_ w_nil))))))) ?_) (w_go (w_seq (w_seq (w_reg (w_cons ?_ w_nil) ?_) (w_go (w_block f31 ?_))) w_gor))) ?_) w_gor))) ?_)
        all_goals (first | (simp only [nz, rn, nzIns, nzFun, h2, f4, f4o, f5, Int.reduceLT, Int.reduceEq, List.contains_cons, List.contains_nil, Option.map_some, Option.map_none, reduceIte, reduceCtorEq, Nat.reduceEqDiff, Nat.reduceLT, Nat.reduceBEq, Nat.reduceAdd, Nat.reduceMul, Nat.reduceLeDiff, Nat.reduceSub, Bool.false_eq_true]; try rfl) | skip)
  · refine sim_some ?_
    refine' (w_fgt (w_seq (w_seq (w_reg (w_cons ?_ (w_cons ?_ (w_cons ?_ (w_cons ?_ (w_cons ?_ w_nil))))) ?_) (w_go (w_condf ?_ (w_exit ?_) ?_))) w_gox) ?_)
    all_goals (first | (simp only [nz, rn, nzIns, nzFun, h2, Int.reduceLT, Int.reduceEq, List.contains_cons, List.contains_nil, Option.map_some, Option.map_none, reduceIte, reduceCtorEq, Nat.reduceEqDiff, Nat.reduceLT, Nat.reduceBEq, Nat.reduceAdd, Nat.reduceMul, Nat.reduceLeDiff, Nat.reduceSub, Bool.false_eq_true]; try rfl) | skip)
theorem r08_Shaped_l117_ok (p0 : Fun) (s : Int) : Sim (r08_Shaped_l117 p0 s) fun r => evX (evI T) (.loop x10_5 [1, 2, 3]) [(1, .box [.str p0.Name, .sl p0.Params.length (p0.Params.flatMap (cint .i64)), .int .i64 p0.Ret, .sl p0.Blocks.length (p0.Blocks.flatMap (csl cIns)), .int .i64 p0.At]), (2, .box [.int .i64 0, .int .i64 0]), (3, .int .i64 s)] = some (stpK (fun t0 => (.exit 0, [(2, .box [.int .i64 0, .int .i64 0])])) (fun u0 => (.ret, [(2, .box [.int .i64 u0.1, .int .i64 u0.2])])) r) := by
  unfold r08_Shaped_l117
  exact loop_rule (C := evI T) (b := x10_5) (ks := [1, 2, 3]) (σ := Int) (ρ := Stp Unit (Int × Int)) (body := fun s => r08_Shaped_l117_b p0 s) (E := fun s => [(1, .box [.str p0.Name, .sl p0.Params.length (p0.Params.flatMap (cint .i64)), .int .i64 p0.Ret, .sl p0.Blocks.length (p0.Blocks.flatMap (csl cIns)), .int .i64 p0.At]), (2, .box [.int .i64 0, .int .i64 0]), (3, .int .i64 s)]) (R := fun r => (stpK (fun t0 => (.exit 0, [(2, .box [.int .i64 0, .int .i64 0])])) (fun u0 => (.ret, [(2, .box [.int .i64 u0.1, .int .i64 u0.2])])) r)) (fun r h => by rcases r with _ | _ <;> cases h) (fun s => r08_Shaped_l117_bok p0 s) s
theorem r08_Shaped_ok (p0 : Fun) : Sim (r08_Shaped p0) fun r => evI T 10 [.agg [.str p0.Name, .sl p0.Params.length (p0.Params.flatMap (cint .i64)), .int .i64 p0.Ret, .sl p0.Blocks.length (p0.Blocks.flatMap (csl cIns)), .int .i64 p0.At]] = some (.agg [.int .i64 r.Code, .int .i64 r.At], [.none]) := by
  unfold r08_Shaped
  refine sim_if (fun h1 => ?_) (fun h1 => ?_)
  · refine sim_some ?_
    refine evI_ret (x := x10) rfl rfl rfl ?_
    refine' (w_fn rfl rfl (w_seq (w_reg (w_cons ?_ (w_cons ?_ w_nil)) ?_) (w_go (w_seq (w_seq (w_reg (w_cons ?_ (w_cons ?_ (w_cons ?_ (w_cons ?_ w_nil)))) ?_) (w_go (w_condt ?_ (w_seq (w_reg (w_cons ?_ (w_cons ?_ w_nil)) ?_) (w_go w_ret)) ?_))) w_gor))) ?_)
    all_goals (first | (simp only [x10, nz, rn, nzIns, nzFun, h1, Int.reduceLT, Int.reduceEq, List.contains_cons, List.contains_nil, Option.map_some, Option.map_none, reduceIte, reduceCtorEq, Nat.reduceEqDiff, Nat.reduceLT, Nat.reduceBEq, Nat.reduceAdd, Nat.reduceMul, Nat.reduceLeDiff, Nat.reduceSub, Bool.false_eq_true]; try rfl) | skip)
  · refine sim_bind (fun qh33 h33 => ?_)
    rcases qh33 with ⟨_⟩ | ⟨⟨v12, v13⟩⟩
    · dsimp only
      have f34 := r08_Shaped_l117_ok p0 0 _ h33
      dsimp only at f34
      refine sim_some ?_
      refine evI_ret (x := x10) rfl rfl rfl ?_
      try simp only [nz, nzIns, nzFun] at f34
      all_goals
        refine' (w_fn rfl rfl (w_seq (w_reg (w_cons ?_ (w_cons ?_ w_nil)) ?_) (w_go (w_seq (w_seq (w_reg (w_cons ?_ (w_cons ?_ (w_cons ?_ (w_cons ?_ w_nil)))) ?_) (w_go (w_condf ?_ w_skip ?_))) (w_go (w_seq (w_seq (w_reg (w_cons ?_ w_nil) ?_) (w_go (w_block f34 ?_))) (w_go (w_seq (w_reg (w_cons ?_ (w_cons ?_ w_nil)) ?_) (w_go w_ret)))))))) ?_)
        all_goals (first | (simp only [x10, nz, rn, nzIns, nzFun, h1, Int.reduceLT, Int.reduceEq, List.contains_cons, List.contains_nil, Option.map_some, Option.map_none, reduceIte, reduceCtorEq, Nat.reduceEqDiff, Nat.reduceLT, Nat.reduceBEq, Nat.reduceAdd, Nat.reduceMul, Nat.reduceLeDiff, Nat.reduceSub, Bool.false_eq_true]; try rfl) | skip)
    · dsimp only
      have f34 := r08_Shaped_l117_ok p0 0 _ h33
      dsimp only at f34
      refine sim_some ?_
      refine evI_ret (x := x10) rfl rfl rfl ?_
      try simp only [nz, nzIns, nzFun] at f34
      all_goals
        refine' (w_fn rfl rfl (w_seq (w_reg (w_cons ?_ (w_cons ?_ w_nil)) ?_) (w_go (w_seq (w_seq (w_reg (w_cons ?_ (w_cons ?_ (w_cons ?_ (w_cons ?_ w_nil)))) ?_) (w_go (w_condf ?_ w_skip ?_))) (w_go (w_seq (w_seq (w_reg (w_cons ?_ w_nil) ?_) (w_go (w_block f34 ?_))) w_gor))))) ?_)
        all_goals (first | (simp only [x10, nz, rn, nzIns, nzFun, h1, Int.reduceLT, Int.reduceEq, List.contains_cons, List.contains_nil, Option.map_some, Option.map_none, reduceIte, reduceCtorEq, Nat.reduceEqDiff, Nat.reduceLT, Nat.reduceBEq, Nat.reduceAdd, Nat.reduceMul, Nat.reduceLeDiff, Nat.reduceSub, Bool.false_eq_true]; try rfl) | skip)
theorem r08_Shaped_okN (p0 : Fun) : Sim (r08_Shaped p0) fun r => ∀ ws, ws.map normA = [.agg [.str p0.Name, .sl p0.Params.length (p0.Params.flatMap (cint .i64)), .int .i64 p0.Ret, .sl p0.Blocks.length (p0.Blocks.flatMap (csl cIns)), .int .i64 p0.At]] → evI T 10 ws = some (.agg [.int .i64 r.Code, .int .i64 r.At], [.none]) := fun r h => evI_okN (x := x10) rfl rfl rfl (r08_Shaped_ok p0 r h)
end Go.Ab

/-
  Printed by gen.py.
-/
namespace Go.Ab
open Go
set_option linter.unusedVariables false
set_option linter.unusedSimpArgs false
set_option maxRecDepth 100000
set_option maxHeartbeats 4000000
theorem l08_Light_j19_ok (p0 : Fun) (v1 : Int) (v2 : Int) (x_3 : List Ins) (v4 : Int) (x_6 : Ins) : evX (evI T) x11_1 [(1, .box [.str p0.Name, .sl p0.Params.length (p0.Params.flatMap (cint .i64)), .int .i64 p0.Ret, .sl p0.Blocks.length (p0.Blocks.flatMap (csl cIns)), .int .i64 p0.At]), (3, .int .i64 (IntKind.wrap .i64 (v1 + ((x_3.length : Int))))), (4, .int .i64 v2), (5, .int .i64 v4), (6, .box [.int .i64 x_6.Op, .int .i64 x_6.Id, .int .i64 x_6.N, .int .i64 (x_6.Type'), .sl x_6.Args.length (x_6.Args.flatMap (cint .i64)), .sl x_6.To.length (x_6.To.flatMap (cint .i64)), .str x_6.Name, .int .i64 x_6.At])] = some (.norm, [(1, .box [.str p0.Name, .sl p0.Params.length (p0.Params.flatMap (cint .i64)), .int .i64 p0.Ret, .sl p0.Blocks.length (p0.Blocks.flatMap (csl cIns)), .int .i64 p0.At]), (3, .int .i64 (IntKind.wrap .i64 (v1 + ((x_3.length : Int))))), (4, .int .i64 v2), (5, .int .i64 v4), (61, .bool (((decide (30 < ((x_6.To.length : Int)))) || (((decide (30 < ((x_6.Args.length : Int)))) || (decide (100 < ((x_6.Name.length : Int)))))))))]) := by
  rcases Bool.eq_false_or_eq_true (decide (30 < ((x_6.To.length : Int)))) with h15 | h15
  · refine' (w_reg (w_cons ?_ (w_cons ?_ (w_cons ?_ (w_cons ?_ (w_cons ?_ (w_cons ?_ (w_cons ?_ (w_cons ?_ (w_cons ?_ (w_cons ?_ (w_cons ?_ (w_cons ?_ (w_cons ?_ (w_cons ?_ (w_cons ?_ (w_cons ?_ w_nil)))))))))))))))) ?_)
    all_goals (first | (simp only [nz, rn, nzIns, nzFun, h15, Int.reduceLT, Int.reduceEq, List.contains_cons, List.contains_nil, Option.map_some, Option.map_none, reduceIte, reduceCtorEq, Nat.reduceEqDiff, Nat.reduceLT, Nat.reduceBEq, Nat.reduceAdd, Nat.reduceMul, Nat.reduceLeDiff, Nat.reduceSub, Bool.false_eq_true]; try rfl) | skip)
  · rcases Bool.eq_false_or_eq_true (decide (30 < ((x_6.Args.length : Int)))) with h16 | h16
    · refine' (w_reg (w_cons ?_ (w_cons ?_ (w_cons ?_ (w_cons ?_ (w_cons ?_ (w_cons ?_ (w_cons ?_ (w_cons ?_ (w_cons ?_ (w_cons ?_ (w_cons ?_ (w_cons ?_ (w_cons ?_ (w_cons ?_ (w_cons ?_ (w_cons ?_ w_nil)))))))))))))))) ?_)
      all_goals (first | (simp only [nz, rn, nzIns, nzFun, h15, h16, Int.reduceLT, Int.reduceEq, List.contains_cons, List.contains_nil, Option.map_some, Option.map_none, reduceIte, reduceCtorEq, Nat.reduceEqDiff, Nat.reduceLT, Nat.reduceBEq, Nat.reduceAdd, Nat.reduceMul, Nat.reduceLeDiff, Nat.reduceSub, Bool.false_eq_true]; try rfl) | skip)
    · refine' (w_reg (w_cons ?_ (w_cons ?_ (w_cons ?_ (w_cons ?_ (w_cons ?_ (w_cons ?_ (w_cons ?_ (w_cons ?_ (w_cons ?_ (w_cons ?_ (w_cons ?_ (w_cons ?_ (w_cons ?_ (w_cons ?_ (w_cons ?_ (w_cons ?_ w_nil)))))))))))))))) ?_)
      all_goals (first | (simp only [nz, rn, nzIns, nzFun, h15, h16, Int.reduceLT, Int.reduceEq, List.contains_cons, List.contains_nil, Option.map_some, Option.map_none, reduceIte, reduceCtorEq, Nat.reduceEqDiff, Nat.reduceLT, Nat.reduceBEq, Nat.reduceAdd, Nat.reduceMul, Nat.reduceLeDiff, Nat.reduceSub, Bool.false_eq_true]; try rfl) | skip)
theorem l08_Light_l20_bok (p0 : Fun) (v1 : Int) (v2 : Int) (x_3 : List Ins) (v4 : Int) : Sim (l08_Light_l20_b p0 v1 v2 x_3 v4) fun x => fgt [1, 3, 4, 5] (evX (evI T) x11_2 [(1, .box [.str p0.Name, .sl p0.Params.length (p0.Params.flatMap (cint .i64)), .int .i64 p0.Ret, .sl p0.Blocks.length (p0.Blocks.flatMap (csl cIns)), .int .i64 p0.At]), (3, .int .i64 (IntKind.wrap .i64 (v1 + ((x_3.length : Int))))), (4, .int .i64 v2), (5, .int .i64 v4)]) = some (stpK (fun s => (.norm, [(1, .box [.str p0.Name, .sl p0.Params.length (p0.Params.flatMap (cint .i64)), .int .i64 p0.Ret, .sl p0.Blocks.length (p0.Blocks.flatMap (csl cIns)), .int .i64 p0.At]), (3, .int .i64 (IntKind.wrap .i64 (v1 + ((x_3.length : Int))))), (4, .int .i64 v2), (5, .int .i64 s)])) (fun r => (stpK (fun t0 => (.exit 2, [(1, .box [.str p0.Name, .sl p0.Params.length (p0.Params.flatMap (cint .i64)), .int .i64 p0.Ret, .sl p0.Blocks.length (p0.Blocks.flatMap (csl cIns)), .int .i64 p0.At]), (3, .int .i64 (IntKind.wrap .i64 (v1 + ((x_3.length : Int))))), (4, .int .i64 v2)])) (fun u0 => (.ret, [(2, .int .i64 1)])) r)) x) := by
  unfold l08_Light_l20_b
  refine sim_bind (fun x_5 h7 => ?_)
  have f8 := ix_ok h7
  have f8o := ix_own2 h7
  have f9 := ix_cells (sz_sl cIns) h7
  simp only [nz, nzIns, nzFun] at f9
  refine sim_if (fun h10 => ?_) (fun h10 => ?_)
  · have f11 := ix_cells (sz_sl cIns) h7
    simp only [nz, nzIns, nzFun] at f11
    refine sim_bind (fun x_6 h12 => ?_)
    have f13 := ix_ok h12
    have f13o := ix_own2 h12
    have f14 := ix_cells szIns h12
    simp only [nz, nzIns, nzFun] at f14
    have f18 := l08_Light_j19_ok p0 v1 v2 x_3 v4 x_6
    refine sim_if (fun h19 => ?_) (fun h19 => ?_)
    · refine sim_some ?_
      try simp only [nz, nzIns, nzFun, f13o] at f18
      all_goals
        refine' (w_fgt (w_seq (w_seq (w_reg (w_cons ?_ (w_cons ?_ (w_cons ?_ (w_cons ?_ (w_cons ?_ (w_cons ?_ (w_cons ?_ (w_cons ?_ w_nil)))))))) ?_) (w_go (w_condt ?_ w_skip ?_))) (w_go (w_seq (w_block (w_seq (w_reg (w_cons ?_ (w_cons ?_ (w_cons ?_ (w_cons ?_ (w_cons ?_ (w_cons ?_ (w_cons ?_ (w_cons ?_ (w_cons ?_ (w_cons ?_ w_nil)))))))))) ?_) (w_go (w_seq f18 (w_go (w_condt ?_ (w_seq (w_reg (w_cons ?_ w_nil) ?_) (w_go w_ret)) ?_))))) ?_) w_gor))) ?_)
        all_goals (first | (simp only [nz, rn, nzIns, nzFun, f8, f8o, f9, h10, f11, f13, f13o, f14, h19, Int.reduceLT, Int.reduceEq, List.contains_cons, List.contains_nil, Option.map_some, Option.map_none, reduceIte, reduceCtorEq, Nat.reduceEqDiff, Nat.reduceLT, Nat.reduceBEq, Nat.reduceAdd, Nat.reduceMul, Nat.reduceLeDiff, Nat.reduceSub, Bool.false_eq_true]; try rfl) | skip)
    · refine sim_some ?_
      try simp only [nz, nzIns, nzFun, f13o] at f18
      all_goals
        refine' (w_fgt (w_seq (w_seq (w_reg (w_cons ?_ (w_cons ?_ (w_cons ?_ (w_cons ?_ (w_cons ?_ (w_cons ?_ (w_cons ?_ (w_cons ?_ w_nil)))))))) ?_) (w_go (w_condt ?_ w_skip ?_))) (w_go (w_seq (w_block (w_seq (w_reg (w_cons ?_ (w_cons ?_ (w_cons ?_ (w_cons ?_ (w_cons ?_ (w_cons ?_ (w_cons ?_ (w_cons ?_ (w_cons ?_ (w_cons ?_ w_nil)))))))))) ?_) (w_go (w_seq f18 (w_go (w_condf ?_ w_skip ?_))))) ?_) (w_go (w_reg (w_cons ?_ (w_cons ?_ (w_cons ?_ w_nil))) ?_))))) ?_)
        all_goals (first | (simp only [nz, rn, nzIns, nzFun, f8, f8o, f9, h10, f11, f13, f13o, f14, h19, Int.reduceLT, Int.reduceEq, List.contains_cons, List.contains_nil, Option.map_some, Option.map_none, reduceIte, reduceCtorEq, Nat.reduceEqDiff, Nat.reduceLT, Nat.reduceBEq, Nat.reduceAdd, Nat.reduceMul, Nat.reduceLeDiff, Nat.reduceSub, Bool.false_eq_true]; try rfl) | skip)
  · refine sim_some ?_
    refine' (w_fgt (w_seq (w_seq (w_reg (w_cons ?_ (w_cons ?_ (w_cons ?_ (w_cons ?_ (w_cons ?_ (w_cons ?_ (w_cons ?_ (w_cons ?_ w_nil)))))))) ?_) (w_go (w_condf ?_ (w_exit ?_) ?_))) w_gox) ?_)
    all_goals (first | (simp only [nz, rn, nzIns, nzFun, f8, f8o, f9, h10, Int.reduceLT, Int.reduceEq, List.contains_cons, List.contains_nil, Option.map_some, Option.map_none, reduceIte, reduceCtorEq, Nat.reduceEqDiff, Nat.reduceLT, Nat.reduceBEq, Nat.reduceAdd, Nat.reduceMul, Nat.reduceLeDiff, Nat.reduceSub, Bool.false_eq_true]; try rfl) | skip)
theorem l08_Light_l20_ok (p0 : Fun) (v1 : Int) (v2 : Int) (x_3 : List Ins) (s : Int) : Sim (l08_Light_l20 p0 v1 v2 x_3 s) fun r => evX (evI T) (.loop x11_2 [1, 3, 4, 5]) [(1, .box [.str p0.Name, .sl p0.Params.length (p0.Params.flatMap (cint .i64)), .int .i64 p0.Ret, .sl p0.Blocks.length (p0.Blocks.flatMap (csl cIns)), .int .i64 p0.At]), (3, .int .i64 (IntKind.wrap .i64 (v1 + ((x_3.length : Int))))), (4, .int .i64 v2), (5, .int .i64 s)] = some (stpK (fun t0 => (.exit 2, [(1, .box [.str p0.Name, .sl p0.Params.length (p0.Params.flatMap (cint .i64)), .int .i64 p0.Ret, .sl p0.Blocks.length (p0.Blocks.flatMap (csl cIns)), .int .i64 p0.At]), (3, .int .i64 (IntKind.wrap .i64 (v1 + ((x_3.length : Int))))), (4, .int .i64 v2)])) (fun u0 => (.ret, [(2, .int .i64 1)])) r) := by
  unfold l08_Light_l20
  exact loop_rule (C := evI T) (b := x11_2) (ks := [1, 3, 4, 5]) (σ := Int) (ρ := Stp Unit Unit) (body := fun s => l08_Light_l20_b p0 v1 v2 x_3 s) (E := fun s => [(1, .box [.str p0.Name, .sl p0.Params.length (p0.Params.flatMap (cint .i64)), .int .i64 p0.Ret, .sl p0.Blocks.length (p0.Blocks.flatMap (csl cIns)), .int .i64 p0.At]), (3, .int .i64 (IntKind.wrap .i64 (v1 + ((x_3.length : Int))))), (4, .int .i64 v2), (5, .int .i64 s)]) (R := fun r => (stpK (fun t0 => (.exit 2, [(1, .box [.str p0.Name, .sl p0.Params.length (p0.Params.flatMap (cint .i64)), .int .i64 p0.Ret, .sl p0.Blocks.length (p0.Blocks.flatMap (csl cIns)), .int .i64 p0.At]), (3, .int .i64 (IntKind.wrap .i64 (v1 + ((x_3.length : Int))))), (4, .int .i64 v2)])) (fun u0 => (.ret, [(2, .int .i64 1)])) r)) (fun r h => by rcases r with _ | _ <;> cases h) (fun s => l08_Light_l20_bok p0 v1 v2 x_3 s) s
theorem l08_Light_l21_bok (p0 : Fun) (v1 : Int) (v2 : Int) : Sim (l08_Light_l21_b p0 v1 v2) fun x => fgt [1, 3, 4] (evX (evI T) x11_3 [(1, .box [.str p0.Name, .sl p0.Params.length (p0.Params.flatMap (cint .i64)), .int .i64 p0.Ret, .sl p0.Blocks.length (p0.Blocks.flatMap (csl cIns)), .int .i64 p0.At]), (3, .int .i64 v1), (4, .int .i64 v2)]) = some (stpK (fun s => (.norm, [(1, .box [.str p0.Name, .sl p0.Params.length (p0.Params.flatMap (cint .i64)), .int .i64 p0.Ret, .sl p0.Blocks.length (p0.Blocks.flatMap (csl cIns)), .int .i64 p0.At]), (3, .int .i64 s.1), (4, .int .i64 s.2)])) (fun r => (stpK (fun t0 => (.exit 0, [(1, .box [.str p0.Name, .sl p0.Params.length (p0.Params.flatMap (cint .i64)), .int .i64 p0.Ret, .sl p0.Blocks.length (p0.Blocks.flatMap (csl cIns)), .int .i64 p0.At])])) (fun u0 => (.ret, [(2, .int .i64 1)])) r)) x) := by
  unfold l08_Light_l21_b
  refine sim_if (fun h2 => ?_) (fun h2 => ?_)
  · refine sim_bind (fun x_3 h3 => ?_)
    have f4 := ix_ok h3
    have f4o := ix_own2 h3
    have f5 := ix_cells (sz_sl cIns) h3
    simp only [nz, nzIns, nzFun] at f5
    refine sim_if (fun h6 => ?_) (fun h6 => ?_)
    · refine sim_some ?_
      refine' (w_fgt (w_seq (w_seq (w_reg (w_cons ?_ (w_cons ?_ (w_cons ?_ (w_cons ?_ (w_cons ?_ w_nil))))) ?_) (w_go (w_condt ?_ w_skip ?_))) (w_go (w_seq (w_block (w_seq (w_reg (w_cons ?_ (w_cons ?_ (w_cons ?_ (w_cons ?_ (w_cons ?_ (w_cons ?_ (w_cons ?_ (w_cons ?_ (w_cons ?_ w_nil))))))))) ?_) (w_go (w_seq (w_seq (w_reg (w_cons ?_ (w_cons ?_ w_nil)) ?_) (w_go (w_condt ?_ (w_seq (w_reg (w_cons ?_ w_nil) ?_) (w_go w_ret)) ?_))) w_gor))) ?_) w_gor))) ?_)
      all_goals (first | (simp only [nz, rn, nzIns, nzFun, h2, f4, f4o, f5, h6, Int.reduceLT, Int.reduceEq, List.contains_cons, List.contains_nil, Option.map_some, Option.map_none, reduceIte, reduceCtorEq, Nat.reduceEqDiff, Nat.reduceLT, Nat.reduceBEq, Nat.reduceAdd, Nat.reduceMul, Nat.reduceLeDiff, Nat.reduceSub, Bool.false_eq_true]; try rfl) | skip)
    · refine sim_bind (fun qh20 h20 => ?_)
      rcases qh20 with ⟨_⟩ | ⟨_⟩
      · dsimp only
        have f21 := l08_Light_l20_ok p0 v1 v2 x_3 0 _ h20
        dsimp only at f21
        refine sim_some ?_
        try simp only [nz, nzIns, nzFun] at f21
        all_goals
          refine' (w_fgt (w_seq (w_seq (w_reg (w_cons ?_ (w_cons ?_ (w_cons ?_ (w_cons ?_ (w_cons ?_ w_nil))))) ?_) (w_go (w_condt ?_ w_skip ?_))) (w_go (w_seq (w_block (w_seq (w_reg (w_cons ?_ (w_cons ?_ (w_cons ?_ (w_cons ?_ (w_cons ?_ (w_cons ?_ (w_cons ?_ (w_cons ?_ (w_cons ?_ w_nil))))))))) ?_) (w_go (w_seq (w_seq (w_reg (w_cons ?_ (w_cons ?_ w_nil)) ?_) (w_go (w_condf ?_ w_skip ?_))) (w_go (w_seq (w_reg (w_cons ?_ w_nil) ?_) (w_go (w_block f21 ?_))))))) ?_) (w_go (w_reg (w_cons ?_ (w_cons ?_ (w_cons ?_ w_nil))) ?_))))) ?_)
          all_goals (first | (simp only [nz, rn, nzIns, nzFun, h2, f4, f4o, f5, h6, Int.reduceLT, Int.reduceEq, List.contains_cons, List.contains_nil, Option.map_some, Option.map_none, reduceIte, reduceCtorEq, Nat.reduceEqDiff, Nat.reduceLT, Nat.reduceBEq, Nat.reduceAdd, Nat.reduceMul, Nat.reduceLeDiff, Nat.reduceSub, Bool.false_eq_true]; try rfl) | skip)
      · dsimp only
        have f21 := l08_Light_l20_ok p0 v1 v2 x_3 0 _ h20
        dsimp only at f21
        refine sim_some ?_
        try simp only [nz, nzIns, nzFun] at f21
        all_goals
          refine' (w_fgt (w_seq (w_seq (w_reg (w_cons ?_ (w_cons ?_ (w_cons ?_ (w_cons ?_ (w_cons ?_ w_nil))))) ?_) (w_go (w_condt ?_ w_skip ?_))) (w_go (w_seq (w_block (w_seq (w_reg (w_cons ?_ (w_cons ?_ (w_cons ?_ (w_cons ?_ (w_cons ?_ (w_cons ?_ (w_cons ?_ (w_cons ?_ (w_cons ?_ w_nil))))))))) ?_) (w_go (w_seq (w_seq (w_reg (w_cons ?_ (w_cons ?_ w_nil)) ?_) (w_go (w_condf ?_ w_skip ?_))) (w_go (w_seq (w_reg (w_cons ?_ w_nil) ?_) (w_go (w_block f21 ?_))))))) ?_) w_gor))) ?_)
          all_goals (first | (simp only [nz, rn, nzIns, nzFun, h2, f4, f4o, f5, h6, Int.reduceLT, Int.reduceEq, List.contains_cons, List.contains_nil, Option.map_some, Option.map_none, reduceIte, reduceCtorEq, Nat.reduceEqDiff, Nat.reduceLT, Nat.reduceBEq, Nat.reduceAdd, Nat.reduceMul, Nat.reduceLeDiff, Nat.reduceSub, Bool.false_eq_true]; try rfl) | skip)
  · refine sim_some ?_
    refine' (w_fgt (w_seq (w_seq (w_reg (w_cons ?_ (w_cons ?_ (w_cons ?_ (w_cons ?_ (w_cons ?_ w_nil))))) ?_) (w_go (w_condf ?_ (w_exit ?_) ?_))) w_gox) ?_)
    all_goals (first | (simp only [nz, rn, nzIns, nzFun, h2, Int.reduceLT, Int.reduceEq, List.contains_cons, List.contains_nil, Option.map_some, Option.map_none, reduceIte, reduceCtorEq, Nat.reduceEqDiff, Nat.reduceLT, Nat.reduceBEq, Nat.reduceAdd, Nat.reduceMul, Nat.reduceLeDiff, Nat.reduceSub, Bool.false_eq_true]; try rfl) | skip)
theorem l08_Light_l21_ok (p0 : Fun) (s : Int × Int) : Sim (l08_Light_l21 p0 s) fun r => evX (evI T) (.loop x11_3 [1, 3, 4]) [(1, .box [.str p0.Name, .sl p0.Params.length (p0.Params.flatMap (cint .i64)), .int .i64 p0.Ret, .sl p0.Blocks.length (p0.Blocks.flatMap (csl cIns)), .int .i64 p0.At]), (3, .int .i64 s.1), (4, .int .i64 s.2)] = some (stpK (fun t0 => (.exit 0, [(1, .box [.str p0.Name, .sl p0.Params.length (p0.Params.flatMap (cint .i64)), .int .i64 p0.Ret, .sl p0.Blocks.length (p0.Blocks.flatMap (csl cIns)), .int .i64 p0.At])])) (fun u0 => (.ret, [(2, .int .i64 1)])) r) := by
  unfold l08_Light_l21
  exact loop_rule (C := evI T) (b := x11_3) (ks := [1, 3, 4]) (σ := Int × Int) (ρ := Stp Unit Unit) (body := fun s => l08_Light_l21_b p0 s.1 s.2) (E := fun s => [(1, .box [.str p0.Name, .sl p0.Params.length (p0.Params.flatMap (cint .i64)), .int .i64 p0.Ret, .sl p0.Blocks.length (p0.Blocks.flatMap (csl cIns)), .int .i64 p0.At]), (3, .int .i64 s.1), (4, .int .i64 s.2)]) (R := fun r => (stpK (fun t0 => (.exit 0, [(1, .box [.str p0.Name, .sl p0.Params.length (p0.Params.flatMap (cint .i64)), .int .i64 p0.Ret, .sl p0.Blocks.length (p0.Blocks.flatMap (csl cIns)), .int .i64 p0.At])])) (fun u0 => (.ret, [(2, .int .i64 1)])) r)) (fun r h => by rcases r with _ | _ <;> cases h) (fun s => l08_Light_l21_bok p0 s.1 s.2) s
theorem l08_Light_ok (p0 : Fun) : Sim (l08_Light p0) fun r => evI T 11 [.agg [.str p0.Name, .sl p0.Params.length (p0.Params.flatMap (cint .i64)), .int .i64 p0.Ret, .sl p0.Blocks.length (p0.Blocks.flatMap (csl cIns)), .int .i64 p0.At]] = some (.int .i64 r, [.none]) := by
  unfold l08_Light
  refine sim_if (fun h1 => ?_) (fun h1 => ?_)
  · refine sim_some ?_
    refine evI_ret (x := x11) rfl rfl rfl ?_
    refine' (w_fn rfl rfl (w_seq (w_reg (w_cons ?_ (w_cons ?_ w_nil)) ?_) (w_go (w_seq (w_seq (w_reg (w_cons ?_ (w_cons ?_ (w_cons ?_ (w_cons ?_ w_nil)))) ?_) (w_go (w_condt ?_ (w_seq (w_reg (w_cons ?_ w_nil) ?_) (w_go w_ret)) ?_))) w_gor))) ?_)
    all_goals (first | (simp only [x11, nz, rn, nzIns, nzFun, h1, Int.reduceLT, Int.reduceEq, List.contains_cons, List.contains_nil, Option.map_some, Option.map_none, reduceIte, reduceCtorEq, Nat.reduceEqDiff, Nat.reduceLT, Nat.reduceBEq, Nat.reduceAdd, Nat.reduceMul, Nat.reduceLeDiff, Nat.reduceSub, Bool.false_eq_true]; try rfl) | skip)
  · refine sim_bind (fun qh22 h22 => ?_)
    rcases qh22 with ⟨_⟩ | ⟨_⟩
    · dsimp only
      have f23 := l08_Light_l21_ok p0 (0, 0) _ h22
      dsimp only at f23
      refine sim_bind (fun r8 h24 => ?_)
      have f25 := r08_Shaped_okN p0 _ h24
      dsimp only at f25
      refine sim_if (fun h26 => ?_) (fun h26 => ?_)
      · refine sim_some ?_
        refine evI_ret (x := x11) rfl rfl rfl ?_
        try simp only [nz, nzIns, nzFun] at f23
        try simp only [nz, nzIns, nzFun] at f25
        all_goals
          refine' (w_fn rfl rfl (w_seq (w_reg (w_cons ?_ (w_cons ?_ w_nil)) ?_) (w_go (w_seq (w_seq (w_reg (w_cons ?_ (w_cons ?_ (w_cons ?_ (w_cons ?_ w_nil)))) ?_) (w_go (w_condf ?_ w_skip ?_))) (w_go (w_seq (w_reg (w_cons ?_ w_nil) ?_) (w_go (w_seq (w_seq (w_reg (w_cons ?_ w_nil) ?_) (w_go (w_block f23 ?_))) (w_go (w_seq (w_seq (w_reg (w_cons ?_ (w_cons ?_ (w_cons ?_ (w_cons ?_ w_nil)))) ?_) (w_go (w_condt ?_ (w_seq (w_reg (w_cons ?_ w_nil) ?_) (w_go w_ret)) ?_))) w_gor))))))))) ?_)
          all_goals (first | (simp only [x11, nz, rn, nzIns, nzFun, h1, f25, h26, Int.reduceLT, Int.reduceEq, List.contains_cons, List.contains_nil, Option.map_some, Option.map_none, reduceIte, reduceCtorEq, Nat.reduceEqDiff, Nat.reduceLT, Nat.reduceBEq, Nat.reduceAdd, Nat.reduceMul, Nat.reduceLeDiff, Nat.reduceSub, Bool.false_eq_true]; try rfl) | skip)
      · refine sim_some ?_
        refine evI_ret (x := x11) rfl rfl rfl ?_
        try simp only [nz, nzIns, nzFun] at f23
        try simp only [nz, nzIns, nzFun] at f25
        all_goals
          refine' (w_fn rfl rfl (w_seq (w_reg (w_cons ?_ (w_cons ?_ w_nil)) ?_) (w_go (w_seq (w_seq (w_reg (w_cons ?_ (w_cons ?_ (w_cons ?_ (w_cons ?_ w_nil)))) ?_) (w_go (w_condf ?_ w_skip ?_))) (w_go (w_seq (w_reg (w_cons ?_ w_nil) ?_) (w_go (w_seq (w_seq (w_reg (w_cons ?_ w_nil) ?_) (w_go (w_block f23 ?_))) (w_go (w_seq (w_seq (w_reg (w_cons ?_ (w_cons ?_ (w_cons ?_ (w_cons ?_ w_nil)))) ?_) (w_go (w_condf ?_ w_skip ?_))) (w_go (w_seq (w_reg (w_cons ?_ w_nil) ?_) (w_go w_ret)))))))))))) ?_)
          all_goals (first | (simp only [x11, nz, rn, nzIns, nzFun, h1, f25, h26, Int.reduceLT, Int.reduceEq, List.contains_cons, List.contains_nil, Option.map_some, Option.map_none, reduceIte, reduceCtorEq, Nat.reduceEqDiff, Nat.reduceLT, Nat.reduceBEq, Nat.reduceAdd, Nat.reduceMul, Nat.reduceLeDiff, Nat.reduceSub, Bool.false_eq_true]; try rfl) | skip)
    · dsimp only
      have f23 := l08_Light_l21_ok p0 (0, 0) _ h22
      dsimp only at f23
      refine sim_some ?_
      refine evI_ret (x := x11) rfl rfl rfl ?_
      try simp only [nz, nzIns, nzFun] at f23
      all_goals
        refine' (w_fn rfl rfl (w_seq (w_reg (w_cons ?_ (w_cons ?_ w_nil)) ?_) (w_go (w_seq (w_seq (w_reg (w_cons ?_ (w_cons ?_ (w_cons ?_ (w_cons ?_ w_nil)))) ?_) (w_go (w_condf ?_ w_skip ?_))) (w_go (w_seq (w_reg (w_cons ?_ w_nil) ?_) (w_go (w_seq (w_seq (w_reg (w_cons ?_ w_nil) ?_) (w_go (w_block f23 ?_))) w_gor))))))) ?_)
        all_goals (first | (simp only [x11, nz, rn, nzIns, nzFun, h1, Int.reduceLT, Int.reduceEq, List.contains_cons, List.contains_nil, Option.map_some, Option.map_none, reduceIte, reduceCtorEq, Nat.reduceEqDiff, Nat.reduceLT, Nat.reduceBEq, Nat.reduceAdd, Nat.reduceMul, Nat.reduceLeDiff, Nat.reduceSub, Bool.false_eq_true]; try rfl) | skip)
theorem l08_Light_okN (p0 : Fun) : Sim (l08_Light p0) fun r => ∀ ws, ws.map normA = [.agg [.str p0.Name, .sl p0.Params.length (p0.Params.flatMap (cint .i64)), .int .i64 p0.Ret, .sl p0.Blocks.length (p0.Blocks.flatMap (csl cIns)), .int .i64 p0.At]] → evI T 11 ws = some (.int .i64 r, [.none]) := fun r h => evI_okN (x := x11) rfl rfl rfl (l08_Light_ok p0 r h)
end Go.Ab

/-
  Printed by gen.py.
-/
namespace Go.Ab
open Go
set_option linter.unusedVariables false
set_option linter.unusedSimpArgs false
set_option maxRecDepth 100000
set_option maxHeartbeats 4000000
theorem slices_Index_intint_l1_bok (p0 : List Int) (p1 : Int) (v1 : Int) : Sim (slices_Index_intint_l1_b p0 p1 v1) fun x => fgt [0, 1, 7, 8] (evX (evI T) x41_1 [(0, .sl p0.length (p0.flatMap (cint .i64))), (1, .int .i64 p1), (7, .int .i64 ((p0.length : Int))), (8, .int .i64 v1)]) = some (stpK (fun s => (.norm, [(0, .sl p0.length (p0.flatMap (cint .i64))), (1, .int .i64 p1), (7, .int .i64 ((p0.length : Int))), (8, .int .i64 s)])) (fun r => (stpK (fun t0 => (.exit 0, [])) (fun u0 => (.ret, [(4, .int .i64 u0)])) r)) x) := by
  unfold slices_Index_intint_l1_b
  refine sim_if (fun h1 => ?_) (fun h1 => ?_)
  · refine sim_bind (fun x_2 h2 => ?_)
    have f3 := ix_ok h2
    have f3o := ix_own2 h2
    have f4 := ix_cells (sz_int .i64) h2
    simp only [nz] at f4
    refine sim_if (fun h5 => ?_) (fun h5 => ?_)
    · refine sim_some ?_
      refine' (w_fgt (w_seq (w_reg (w_cons ?_ w_nil) ?_) (w_go (w_seq (w_condt ?_ w_skip ?_) (w_go (w_seq (w_block (w_seq (w_reg (w_cons ?_ (w_cons ?_ w_nil)) ?_) (w_go (w_seq (w_reg (w_cons ?_ (w_cons ?_ (w_cons ?_ (w_cons ?_ (w_cons ?_ (w_cons ?_ w_nil)))))) ?_) (w_go (w_condt ?_ (w_seq (w_reg (w_cons ?_ (w_cons ?_ w_nil)) ?_) (w_go w_ret)) ?_))))) ?_) w_gor))))) ?_)
      all_goals (first | (simp only [nz, rn, h1, f3, f3o, f4, h5, Int.reduceLT, Int.reduceEq, List.contains_cons, List.contains_nil, Option.map_some, Option.map_none, reduceIte, reduceCtorEq, Nat.reduceEqDiff, Nat.reduceLT, Nat.reduceBEq, Nat.reduceAdd, Nat.reduceMul, Nat.reduceLeDiff, Nat.reduceSub, Bool.false_eq_true]; try rfl) | skip)
    · refine sim_some ?_
      refine' (w_fgt (w_seq (w_reg (w_cons ?_ w_nil) ?_) (w_go (w_seq (w_condt ?_ w_skip ?_) (w_go (w_seq (w_block (w_seq (w_reg (w_cons ?_ (w_cons ?_ w_nil)) ?_) (w_go (w_seq (w_reg (w_cons ?_ (w_cons ?_ (w_cons ?_ (w_cons ?_ (w_cons ?_ (w_cons ?_ w_nil)))))) ?_) (w_go (w_condf ?_ w_skip ?_))))) ?_) (w_go (w_reg (w_cons ?_ (w_cons ?_ w_nil)) ?_))))))) ?_)
      all_goals (first | (simp only [nz, rn, h1, f3, f3o, f4, h5, Int.reduceLT, Int.reduceEq, List.contains_cons, List.contains_nil, Option.map_some, Option.map_none, reduceIte, reduceCtorEq, Nat.reduceEqDiff, Nat.reduceLT, Nat.reduceBEq, Nat.reduceAdd, Nat.reduceMul, Nat.reduceLeDiff, Nat.reduceSub, Bool.false_eq_true]; try rfl) | skip)
  · refine sim_some ?_
    refine' (w_fgt (w_seq (w_reg (w_cons ?_ w_nil) ?_) (w_go (w_seq (w_condf ?_ (w_exit ?_) ?_) w_gox))) ?_)
    all_goals (first | (simp only [nz, rn, h1, Int.reduceLT, Int.reduceEq, List.contains_cons, List.contains_nil, Option.map_some, Option.map_none, reduceIte, reduceCtorEq, Nat.reduceEqDiff, Nat.reduceLT, Nat.reduceBEq, Nat.reduceAdd, Nat.reduceMul, Nat.reduceLeDiff, Nat.reduceSub, Bool.false_eq_true]; try rfl) | skip)
theorem slices_Index_intint_l1_ok (p0 : List Int) (p1 : Int) (s : Int) : Sim (slices_Index_intint_l1 p0 p1 s) fun r => evX (evI T) (.loop x41_1 [0, 1, 7, 8]) [(0, .sl p0.length (p0.flatMap (cint .i64))), (1, .int .i64 p1), (7, .int .i64 ((p0.length : Int))), (8, .int .i64 s)] = some (stpK (fun t0 => (.exit 0, [])) (fun u0 => (.ret, [(4, .int .i64 u0)])) r) := by
  unfold slices_Index_intint_l1
  exact loop_rule (C := evI T) (b := x41_1) (ks := [0, 1, 7, 8]) (σ := Int) (ρ := Stp Unit Int) (body := fun s => slices_Index_intint_l1_b p0 p1 s) (E := fun s => [(0, .sl p0.length (p0.flatMap (cint .i64))), (1, .int .i64 p1), (7, .int .i64 ((p0.length : Int))), (8, .int .i64 s)]) (R := fun r => (stpK (fun t0 => (.exit 0, [])) (fun u0 => (.ret, [(4, .int .i64 u0)])) r)) (fun r h => by rcases r with _ | _ <;> cases h) (fun s => slices_Index_intint_l1_bok p0 p1 s) s
theorem slices_Index_intint_ok (p0 : List Int) (p1 : Int) : Sim (slices_Index_intint p0 p1) fun r => evI T 41 [.sl p0.length (p0.flatMap (cint .i64)), .int .i64 p1] = some (.int .i64 r, [.none, .none]) := by
  unfold slices_Index_intint
  refine sim_bind (fun qh6 h6 => ?_)
  rcases qh6 with ⟨_⟩ | ⟨v3⟩
  · dsimp only
    have f7 := slices_Index_intint_l1_ok p0 p1 0 _ h6
    dsimp only at f7
    refine sim_some ?_
    refine evI_ret (x := x41) rfl rfl rfl ?_
    try simp only [nz] at f7
    all_goals
      refine' (w_fn rfl rfl (w_seq (w_reg (w_cons ?_ w_nil) ?_) (w_go (w_seq (w_seq (w_reg (w_cons ?_ (w_cons ?_ (w_cons ?_ w_nil))) ?_) (w_go (w_block f7 ?_))) (w_go (w_seq (w_reg (w_cons ?_ w_nil) ?_) (w_go w_ret)))))) ?_)
      all_goals (first | (simp only [x41, nz, rn, Int.reduceLT, Int.reduceEq, List.contains_cons, List.contains_nil, Option.map_some, Option.map_none, reduceIte, reduceCtorEq, Nat.reduceEqDiff, Nat.reduceLT, Nat.reduceBEq, Nat.reduceAdd, Nat.reduceMul, Nat.reduceLeDiff, Nat.reduceSub, Bool.false_eq_true]; try rfl) | skip)
  · dsimp only
    have f7 := slices_Index_intint_l1_ok p0 p1 0 _ h6
    dsimp only at f7
    refine sim_some ?_
    refine evI_ret (x := x41) rfl rfl rfl ?_
    try simp only [nz] at f7
    all_goals
      refine' (w_fn rfl rfl (w_seq (w_reg (w_cons ?_ w_nil) ?_) (w_go (w_seq (w_seq (w_reg (w_cons ?_ (w_cons ?_ (w_cons ?_ w_nil))) ?_) (w_go (w_block f7 ?_))) w_gor))) ?_)
      all_goals (first | (simp only [x41, nz, rn, Int.reduceLT, Int.reduceEq, List.contains_cons, List.contains_nil, Option.map_some, Option.map_none, reduceIte, reduceCtorEq, Nat.reduceEqDiff, Nat.reduceLT, Nat.reduceBEq, Nat.reduceAdd, Nat.reduceMul, Nat.reduceLeDiff, Nat.reduceSub, Bool.false_eq_true]; try rfl) | skip)
theorem slices_Index_intint_okN (p0 : List Int) (p1 : Int) : Sim (slices_Index_intint p0 p1) fun r => ∀ ws, ws.map normA = [.sl p0.length (p0.flatMap (cint .i64)), .int .i64 p1] → evI T 41 ws = some (.int .i64 r, [.none, .none]) := fun r h => evI_okN (x := x41) rfl rfl rfl (slices_Index_intint_ok p0 p1 r h)
end Go.Ab

/-
  Printed by gen.py.
-/
namespace Go.Ab
open Go
set_option linter.unusedVariables false
set_option linter.unusedSimpArgs false
set_option maxRecDepth 100000
set_option maxHeartbeats 4000000
theorem slices_Contains_intint_ok (p0 : List Int) (p1 : Int) : Sim (slices_Contains_intint p0 p1) fun r => evI T 32 [.sl p0.length (p0.flatMap (cint .i64)), .int .i64 p1] = some (.bool r, [.none, .none]) := by
  unfold slices_Contains_intint
  refine sim_bind (fun r1 h1 => ?_)
  have f2 := slices_Index_intint_okN p0 p1 _ h1
  dsimp only at f2
  refine sim_some ?_
  refine evI_ret (x := x32) rfl rfl rfl ?_
  try simp only [nz] at f2
  all_goals
    refine' (w_fn rfl rfl (w_seq (w_reg (w_cons ?_ w_nil) ?_) (w_go (w_seq (w_reg (w_cons ?_ (w_cons ?_ (w_cons ?_ (w_cons ?_ (w_cons ?_ w_nil))))) ?_) (w_go w_ret)))) ?_)
    all_goals (first | (simp only [x32, nz, rn, f2, Int.reduceLT, Int.reduceEq, List.contains_cons, List.contains_nil, Option.map_some, Option.map_none, reduceIte, reduceCtorEq, Nat.reduceEqDiff, Nat.reduceLT, Nat.reduceBEq, Nat.reduceAdd, Nat.reduceMul, Nat.reduceLeDiff, Nat.reduceSub, Bool.false_eq_true]; try rfl) | skip)
theorem slices_Contains_intint_okN (p0 : List Int) (p1 : Int) : Sim (slices_Contains_intint p0 p1) fun r => ∀ ws, ws.map normA = [.sl p0.length (p0.flatMap (cint .i64)), .int .i64 p1] → evI T 32 ws = some (.bool r, [.none, .none]) := fun r h => evI_okN (x := x32) rfl rfl rfl (slices_Contains_intint_ok p0 p1 r h)
end Go.Ab

/-
  Printed by gen.py.
-/
namespace Go.Ab
open Go
set_option linter.unusedVariables false
set_option linter.unusedSimpArgs false
set_option maxRecDepth 100000
set_option maxHeartbeats 4000000
theorem graph_Succs_j19_ok (p0 : Fun) (v3 : Int) (x_4 : List Ins) (x_5 : Ins) (out6 : List (List Int)) (v7 : Int) (x_8 : Int) (r10 : Bool) : Sim (graph_Succs_j19 p0 v3 x_4 x_5 out6 v7 x_8 r10) fun r => evX (evI T) x13_1 [(1, .box [.str p0.Name, .sl p0.Params.length (p0.Params.flatMap (cint .i64)), .int .i64 p0.Ret, .sl p0.Blocks.length (p0.Blocks.flatMap (csl cIns)), .int .i64 p0.At]), (3, mkOwn 1 out6.length (out6.flatMap (cow 1 (cint .i64)))), (4, .int .i64 v3), (5, .sl x_4.length (x_4.flatMap cIns)), (7, .int .i64 x_8), (13, .sl p0.Blocks.length (p0.Blocks.flatMap (csl cIns))), (14, .int .i64 ((p0.Blocks.length : Int))), (15, .int .i64 v3), (26, .sl x_5.To.length (x_5.To.flatMap (cint .i64))), (27, .int .i64 ((x_5.To.length : Int))), (28, .int .i64 v7), (38, .bool ((!r10)))] = some (.norm, [(1, .box [.str p0.Name, .sl p0.Params.length (p0.Params.flatMap (cint .i64)), .int .i64 p0.Ret, .sl p0.Blocks.length (p0.Blocks.flatMap (csl cIns)), .int .i64 p0.At]), (3, mkOwn 1 r.length (r.flatMap (cow 1 (cint .i64)))), (4, .int .i64 v3), (5, .sl x_4.length (x_4.flatMap cIns)), (13, .sl p0.Blocks.length (p0.Blocks.flatMap (csl cIns))), (14, .int .i64 ((p0.Blocks.length : Int))), (15, .int .i64 v3), (26, .sl x_5.To.length (x_5.To.flatMap (cint .i64))), (27, .int .i64 ((x_5.To.length : Int))), (28, .int .i64 v7)]) := by
  unfold graph_Succs_j19
  refine sim_if (fun h19 => ?_) (fun h19 => ?_)
  · refine sim_bind (fun x_11 h20 => ?_)
    have f21 := ix_ok h20
    have f21o := ix_own2 h20
    have f22 : (out6.flatMap (cow 1 (cint .i64)))[v3.toNat * 1]? = some (mkOwn 1 x_11.length (x_11.flatMap (cint .i64))) := ix_cell0 (sz_cow 1 (cint .i64)) h20 rfl
    have f22a : (v3.toNat * 1 + 1 ≤ out6.length * 1) = True := ix_le0 (sz_cow 1 (cint .i64)) h20 (by decide)
    refine sim_bind (fun l_12 h23 => ?_)
    have f24 := app1_cond h23
    try simp only [nz, Nat.reduceLeDiff, Nat.reduceAdd, Nat.reduceMul, Nat.reduceSub] at f24
    have f24a : PV.own 1 (x_11.length + 1) (x_11.flatMap (cint .i64) ++ [.int .i64 x_8]) = .own 1 l_12.length (l_12.flatMap (cint .i64)) := app1_own h23 (cint .i64) 1
    have f24o := app1_own2 h23
    have f25 : ∀ v, setCells ((out6.flatMap (cow 1 (cint .i64))).set (v3.toNat * 1) v) (v3.toNat * 1) [mkOwn 1 l_12.length (l_12.flatMap (cint .i64))] = (out6.set v3.toNat l_12).flatMap (cow 1 (cint .i64)) := ix_setv (sz_cow 1 (cint .i64)) h20 _
    have f25b : setCells (out6.flatMap (cow 1 (cint .i64))) (v3.toNat * 1) [mkOwn 1 l_12.length (l_12.flatMap (cint .i64))] = (out6.set v3.toNat l_12).flatMap (cow 1 (cint .i64)) := ix_set (sz_cow 1 (cint .i64)) h20 _
    have f25a := ix_le (sz_cow 1 (cint .i64)) h20
    refine sim_some ?_
    rcases own_cases x_11 with rfl | o_x_11
    · obtain rfl := app_eq h23
      try simp only [nz, nzIns, nzFun, f21o, f24o] at f25
      try simp only [nz, nzIns, nzFun, f21o, f24o] at f25b
      all_goals
        refine' (w_condt ?_ (w_reg (w_cons ?_ (w_cons ?_ (w_cons ?_ (w_cons ?_ (w_cons ?_ (w_cons ?_ (w_cons ?_ (w_cons ?_ (w_cons ?_ (w_cons ?_ (w_cons ?_ w_nil))))))))))) ?_) ?_)
        all_goals (first | (simp only [nz, rn, nzIns, nzFun, h19, f21, f21o, f22, f22a, f25, f25a, f25b, Int.reduceLT, Int.reduceEq, List.contains_cons, List.contains_nil, Option.map_some, Option.map_none, reduceIte, reduceCtorEq, Nat.reduceEqDiff, Nat.reduceLT, Nat.reduceBEq, Nat.reduceAdd, Nat.reduceMul, Nat.reduceLeDiff, Nat.reduceSub, Bool.false_eq_true]; try rfl) | skip)
    · try simp only [nz, nzIns, nzFun, o_x_11, f21o, f24o] at f25
      try simp only [nz, nzIns, nzFun, o_x_11, f21o, f24o] at f25b
      all_goals
        refine' (w_condt ?_ (w_reg (w_cons ?_ (w_cons ?_ (w_cons ?_ (w_cons ?_ (w_cons ?_ (w_cons ?_ (w_cons ?_ (w_cons ?_ (w_cons ?_ (w_cons ?_ (w_cons ?_ w_nil))))))))))) ?_) ?_)
        all_goals (first | (simp only [nz, rn, nzIns, nzFun, h19, f21, f21o, f22, f22a, f24, f24a, f24o, f25, f25a, f25b, o_x_11, Int.reduceLT, Int.reduceEq, List.contains_cons, List.contains_nil, Option.map_some, Option.map_none, reduceIte, reduceCtorEq, Nat.reduceEqDiff, Nat.reduceLT, Nat.reduceBEq, Nat.reduceAdd, Nat.reduceMul, Nat.reduceLeDiff, Nat.reduceSub, Bool.false_eq_true]; try rfl) | skip)
  · refine sim_some ?_
    refine' (w_condf ?_ w_skip ?_)
    all_goals (first | (simp only [nz, rn, nzIns, nzFun, h19, Int.reduceLT, Int.reduceEq, List.contains_cons, List.contains_nil, Option.map_some, Option.map_none, reduceIte, reduceCtorEq, Nat.reduceEqDiff, Nat.reduceLT, Nat.reduceBEq, Nat.reduceAdd, Nat.reduceMul, Nat.reduceLeDiff, Nat.reduceSub, Bool.false_eq_true]; try rfl) | skip)
theorem graph_Succs_l20_bok (p0 : Fun) (v3 : Int) (x_4 : List Ins) (x_5 : Ins) (out6 : List (List Int)) (v7 : Int) : Sim (graph_Succs_l20_b p0 v3 x_4 x_5 out6 v7) fun x => fgt [1, 3, 4, 5, 13, 14, 15, 26, 27, 28] (evX (evI T) x13_2 [(1, .box [.str p0.Name, .sl p0.Params.length (p0.Params.flatMap (cint .i64)), .int .i64 p0.Ret, .sl p0.Blocks.length (p0.Blocks.flatMap (csl cIns)), .int .i64 p0.At]), (3, mkOwn 1 out6.length (out6.flatMap (cow 1 (cint .i64)))), (4, .int .i64 v3), (5, .sl x_4.length (x_4.flatMap cIns)), (13, .sl p0.Blocks.length (p0.Blocks.flatMap (csl cIns))), (14, .int .i64 ((p0.Blocks.length : Int))), (15, .int .i64 v3), (26, .sl x_5.To.length (x_5.To.flatMap (cint .i64))), (27, .int .i64 ((x_5.To.length : Int))), (28, .int .i64 v7)]) = some (stpK (fun s => (.norm, [(1, .box [.str p0.Name, .sl p0.Params.length (p0.Params.flatMap (cint .i64)), .int .i64 p0.Ret, .sl p0.Blocks.length (p0.Blocks.flatMap (csl cIns)), .int .i64 p0.At]), (3, mkOwn 1 s.1.length (s.1.flatMap (cow 1 (cint .i64)))), (4, .int .i64 v3), (5, .sl x_4.length (x_4.flatMap cIns)), (13, .sl p0.Blocks.length (p0.Blocks.flatMap (csl cIns))), (14, .int .i64 ((p0.Blocks.length : Int))), (15, .int .i64 v3), (26, .sl x_5.To.length (x_5.To.flatMap (cint .i64))), (27, .int .i64 ((x_5.To.length : Int))), (28, .int .i64 s.2)])) (fun r => (.exit 2, [(1, .box [.str p0.Name, .sl p0.Params.length (p0.Params.flatMap (cint .i64)), .int .i64 p0.Ret, .sl p0.Blocks.length (p0.Blocks.flatMap (csl cIns)), .int .i64 p0.At]), (3, mkOwn 1 r.length (r.flatMap (cow 1 (cint .i64)))), (13, .sl p0.Blocks.length (p0.Blocks.flatMap (csl cIns))), (14, .int .i64 ((p0.Blocks.length : Int))), (15, .int .i64 v3)])) x) := by
  unfold graph_Succs_l20_b
  refine sim_if (fun h10 => ?_) (fun h10 => ?_)
  · refine sim_bind (fun x_8 h11 => ?_)
    have f12 := ix_ok h11
    have f12o := ix_own2 h11
    have f13 := ix_cells (sz_int .i64) h11
    simp only [nz, nzIns, nzFun] at f13
    refine sim_bind (fun x_9 h14 => ?_)
    have f15 := ix_ok h14
    have f15o := ix_own2 h14
    have f16 : (out6.flatMap (cow 1 (cint .i64)))[v3.toNat * 1]? = some (mkOwn 1 x_9.length (x_9.flatMap (cint .i64))) := ix_cell0 (sz_cow 1 (cint .i64)) h14 rfl
    have f16a : (v3.toNat * 1 + 1 ≤ out6.length * 1) = True := ix_le0 (sz_cow 1 (cint .i64)) h14 (by decide)
    refine sim_bind (fun r10 h17 => ?_)
    have f18 := slices_Contains_intint_okN x_9 x_8 _ h17
    dsimp only at f18
    refine sim_bind (fun out13 h26 => ?_)
    have f27 := graph_Succs_j19_ok p0 v3 x_4 x_5 out6 v7 x_8 r10 _ h26
    dsimp only at f27
    refine sim_some ?_
    rcases own_cases x_9 with rfl | o_x_9
    · try simp only [nz, nzIns, nzFun, f15o] at f18
      try simp only [nz, nzIns, nzFun, f15o] at f27
      all_goals
        refine' (w_fgt (w_seq (w_reg (w_cons ?_ w_nil) ?_) (w_go (w_seq (w_condt ?_ w_skip ?_) (w_go (w_seq (w_block (w_seq (w_reg (w_cons ?_ (w_cons ?_ (w_cons ?_ w_nil))) ?_) (w_go (w_seq (w_reg (w_cons ?_ (w_cons ?_ (w_cons ?_ (w_cons ?_ (w_cons ?_ (w_cons ?_ (w_cons ?_ w_nil))))))) ?_) (w_go f27)))) ?_) (w_go (w_reg (w_cons ?_ (w_cons ?_ w_nil)) ?_))))))) ?_)
        all_goals (first | (simp only [nz, rn, nzIns, nzFun, h10, f12, f12o, f13, f15, f15o, f16, f16a, f18, Int.reduceLT, Int.reduceEq, List.contains_cons, List.contains_nil, Option.map_some, Option.map_none, reduceIte, reduceCtorEq, Nat.reduceEqDiff, Nat.reduceLT, Nat.reduceBEq, Nat.reduceAdd, Nat.reduceMul, Nat.reduceLeDiff, Nat.reduceSub, Bool.false_eq_true]; try rfl) | skip)
    · try simp only [nz, nzIns, nzFun, o_x_9, f15o] at f18
      try simp only [nz, nzIns, nzFun, o_x_9, f15o] at f27
      all_goals
        refine' (w_fgt (w_seq (w_reg (w_cons ?_ w_nil) ?_) (w_go (w_seq (w_condt ?_ w_skip ?_) (w_go (w_seq (w_block (w_seq (w_reg (w_cons ?_ (w_cons ?_ (w_cons ?_ w_nil))) ?_) (w_go (w_seq (w_reg (w_cons ?_ (w_cons ?_ (w_cons ?_ (w_cons ?_ (w_cons ?_ (w_cons ?_ (w_cons ?_ w_nil))))))) ?_) (w_go f27)))) ?_) (w_go (w_reg (w_cons ?_ (w_cons ?_ w_nil)) ?_))))))) ?_)
        all_goals (first | (simp only [nz, rn, nzIns, nzFun, h10, f12, f12o, f13, f15, f15o, f16, f16a, f18, o_x_9, Int.reduceLT, Int.reduceEq, List.contains_cons, List.contains_nil, Option.map_some, Option.map_none, reduceIte, reduceCtorEq, Nat.reduceEqDiff, Nat.reduceLT, Nat.reduceBEq, Nat.reduceAdd, Nat.reduceMul, Nat.reduceLeDiff, Nat.reduceSub, Bool.false_eq_true]; try rfl) | skip)
  · refine sim_some ?_
    refine' (w_fgt (w_seq (w_reg (w_cons ?_ w_nil) ?_) (w_go (w_seq (w_condf ?_ (w_exit ?_) ?_) w_gox))) ?_)
    all_goals (first | (simp only [nz, rn, nzIns, nzFun, h10, Int.reduceLT, Int.reduceEq, List.contains_cons, List.contains_nil, Option.map_some, Option.map_none, reduceIte, reduceCtorEq, Nat.reduceEqDiff, Nat.reduceLT, Nat.reduceBEq, Nat.reduceAdd, Nat.reduceMul, Nat.reduceLeDiff, Nat.reduceSub, Bool.false_eq_true]; try rfl) | skip)
theorem graph_Succs_l20_ok (p0 : Fun) (v3 : Int) (x_4 : List Ins) (x_5 : Ins) (s : List (List Int) × Int) : Sim (graph_Succs_l20 p0 v3 x_4 x_5 s) fun r => evX (evI T) (.loop x13_2 [1, 3, 4, 5, 13, 14, 15, 26, 27, 28]) [(1, .box [.str p0.Name, .sl p0.Params.length (p0.Params.flatMap (cint .i64)), .int .i64 p0.Ret, .sl p0.Blocks.length (p0.Blocks.flatMap (csl cIns)), .int .i64 p0.At]), (3, mkOwn 1 s.1.length (s.1.flatMap (cow 1 (cint .i64)))), (4, .int .i64 v3), (5, .sl x_4.length (x_4.flatMap cIns)), (13, .sl p0.Blocks.length (p0.Blocks.flatMap (csl cIns))), (14, .int .i64 ((p0.Blocks.length : Int))), (15, .int .i64 v3), (26, .sl x_5.To.length (x_5.To.flatMap (cint .i64))), (27, .int .i64 ((x_5.To.length : Int))), (28, .int .i64 s.2)] = some (.exit 2, [(1, .box [.str p0.Name, .sl p0.Params.length (p0.Params.flatMap (cint .i64)), .int .i64 p0.Ret, .sl p0.Blocks.length (p0.Blocks.flatMap (csl cIns)), .int .i64 p0.At]), (3, mkOwn 1 r.length (r.flatMap (cow 1 (cint .i64)))), (13, .sl p0.Blocks.length (p0.Blocks.flatMap (csl cIns))), (14, .int .i64 ((p0.Blocks.length : Int))), (15, .int .i64 v3)]) := by
  unfold graph_Succs_l20
  exact loop_rule (C := evI T) (b := x13_2) (ks := [1, 3, 4, 5, 13, 14, 15, 26, 27, 28]) (σ := List (List Int) × Int) (ρ := List (List Int)) (body := fun s => graph_Succs_l20_b p0 v3 x_4 x_5 s.1 s.2) (E := fun s => [(1, .box [.str p0.Name, .sl p0.Params.length (p0.Params.flatMap (cint .i64)), .int .i64 p0.Ret, .sl p0.Blocks.length (p0.Blocks.flatMap (csl cIns)), .int .i64 p0.At]), (3, mkOwn 1 s.1.length (s.1.flatMap (cow 1 (cint .i64)))), (4, .int .i64 v3), (5, .sl x_4.length (x_4.flatMap cIns)), (13, .sl p0.Blocks.length (p0.Blocks.flatMap (csl cIns))), (14, .int .i64 ((p0.Blocks.length : Int))), (15, .int .i64 v3), (26, .sl x_5.To.length (x_5.To.flatMap (cint .i64))), (27, .int .i64 ((x_5.To.length : Int))), (28, .int .i64 s.2)]) (R := fun r => (.exit 2, [(1, .box [.str p0.Name, .sl p0.Params.length (p0.Params.flatMap (cint .i64)), .int .i64 p0.Ret, .sl p0.Blocks.length (p0.Blocks.flatMap (csl cIns)), .int .i64 p0.At]), (3, mkOwn 1 r.length (r.flatMap (cow 1 (cint .i64)))), (13, .sl p0.Blocks.length (p0.Blocks.flatMap (csl cIns))), (14, .int .i64 ((p0.Blocks.length : Int))), (15, .int .i64 v3)])) (fun r h => nomatch h) (fun s => graph_Succs_l20_bok p0 v3 x_4 x_5 s.1 s.2) s
theorem graph_Succs_l21_bok (p0 : Fun) (out2 : List (List Int)) (v3 : Int) : Sim (graph_Succs_l21_b p0 out2 v3) fun x => fgt [1, 3, 13, 14, 15] (evX (evI T) x13_3 [(1, .box [.str p0.Name, .sl p0.Params.length (p0.Params.flatMap (cint .i64)), .int .i64 p0.Ret, .sl p0.Blocks.length (p0.Blocks.flatMap (csl cIns)), .int .i64 p0.At]), (3, mkOwn 1 out2.length (out2.flatMap (cow 1 (cint .i64)))), (13, .sl p0.Blocks.length (p0.Blocks.flatMap (csl cIns))), (14, .int .i64 ((p0.Blocks.length : Int))), (15, .int .i64 v3)]) = some (stpK (fun s => (.norm, [(1, .box [.str p0.Name, .sl p0.Params.length (p0.Params.flatMap (cint .i64)), .int .i64 p0.Ret, .sl p0.Blocks.length (p0.Blocks.flatMap (csl cIns)), .int .i64 p0.At]), (3, mkOwn 1 s.1.length (s.1.flatMap (cow 1 (cint .i64)))), (13, .sl p0.Blocks.length (p0.Blocks.flatMap (csl cIns))), (14, .int .i64 ((p0.Blocks.length : Int))), (15, .int .i64 s.2)])) (fun r => (.exit 0, [(3, mkOwn 1 r.length (r.flatMap (cow 1 (cint .i64))))])) x) := by
  unfold graph_Succs_l21_b
  refine sim_if (fun h3 => ?_) (fun h3 => ?_)
  · refine sim_bind (fun x_4 h4 => ?_)
    have f5 := ix_ok h4
    have f5o := ix_own2 h4
    have f6 := ix_cells (sz_sl cIns) h4
    simp only [nz, nzIns, nzFun] at f6
    refine sim_bind (fun x_5 h7 => ?_)
    have f8 := ix_ok h7
    have f8o := ix_own2 h7
    have f9 := ix_cells szIns h7
    simp only [nz, nzIns, nzFun] at f9
    refine sim_bind (fun out14 h28 => ?_)
    have f29 := graph_Succs_l20_ok p0 v3 x_4 x_5 (out2, 0) _ h28
    dsimp only at f29
    refine sim_some ?_
    try simp only [nz, nzIns, nzFun, f8o] at f29
    all_goals
      refine' (w_fgt (w_seq (w_reg (w_cons ?_ w_nil) ?_) (w_go (w_seq (w_condt ?_ w_skip ?_) (w_go (w_seq (w_block (w_seq (w_reg (w_cons ?_ (w_cons ?_ (w_cons ?_ (w_cons ?_ (w_cons ?_ w_nil))))) ?_) (w_go (w_seq (w_reg (w_cons ?_ (w_cons ?_ (w_cons ?_ (w_cons ?_ (w_cons ?_ (w_cons ?_ (w_cons ?_ (w_cons ?_ (w_cons ?_ w_nil))))))))) ?_) (w_go (w_block f29 ?_))))) ?_) (w_go (w_reg (w_cons ?_ (w_cons ?_ w_nil)) ?_))))))) ?_)
      all_goals (first | (simp only [nz, rn, nzIns, nzFun, h3, f5, f5o, f6, f8, f8o, f9, Int.reduceLT, Int.reduceEq, List.contains_cons, List.contains_nil, Option.map_some, Option.map_none, reduceIte, reduceCtorEq, Nat.reduceEqDiff, Nat.reduceLT, Nat.reduceBEq, Nat.reduceAdd, Nat.reduceMul, Nat.reduceLeDiff, Nat.reduceSub, Bool.false_eq_true]; try rfl) | skip)
  · refine sim_some ?_
    refine' (w_fgt (w_seq (w_reg (w_cons ?_ w_nil) ?_) (w_go (w_seq (w_condf ?_ (w_exit ?_) ?_) w_gox))) ?_)
    all_goals (first | (simp only [nz, rn, nzIns, nzFun, h3, Int.reduceLT, Int.reduceEq, List.contains_cons, List.contains_nil, Option.map_some, Option.map_none, reduceIte, reduceCtorEq, Nat.reduceEqDiff, Nat.reduceLT, Nat.reduceBEq, Nat.reduceAdd, Nat.reduceMul, Nat.reduceLeDiff, Nat.reduceSub, Bool.false_eq_true]; try rfl) | skip)
theorem graph_Succs_l21_ok (p0 : Fun) (s : List (List Int) × Int) : Sim (graph_Succs_l21 p0 s) fun r => evX (evI T) (.loop x13_3 [1, 3, 13, 14, 15]) [(1, .box [.str p0.Name, .sl p0.Params.length (p0.Params.flatMap (cint .i64)), .int .i64 p0.Ret, .sl p0.Blocks.length (p0.Blocks.flatMap (csl cIns)), .int .i64 p0.At]), (3, mkOwn 1 s.1.length (s.1.flatMap (cow 1 (cint .i64)))), (13, .sl p0.Blocks.length (p0.Blocks.flatMap (csl cIns))), (14, .int .i64 ((p0.Blocks.length : Int))), (15, .int .i64 s.2)] = some (.exit 0, [(3, mkOwn 1 r.length (r.flatMap (cow 1 (cint .i64))))]) := by
  unfold graph_Succs_l21
  exact loop_rule (C := evI T) (b := x13_3) (ks := [1, 3, 13, 14, 15]) (σ := List (List Int) × Int) (ρ := List (List Int)) (body := fun s => graph_Succs_l21_b p0 s.1 s.2) (E := fun s => [(1, .box [.str p0.Name, .sl p0.Params.length (p0.Params.flatMap (cint .i64)), .int .i64 p0.Ret, .sl p0.Blocks.length (p0.Blocks.flatMap (csl cIns)), .int .i64 p0.At]), (3, mkOwn 1 s.1.length (s.1.flatMap (cow 1 (cint .i64)))), (13, .sl p0.Blocks.length (p0.Blocks.flatMap (csl cIns))), (14, .int .i64 ((p0.Blocks.length : Int))), (15, .int .i64 s.2)]) (R := fun r => (.exit 0, [(3, mkOwn 1 r.length (r.flatMap (cow 1 (cint .i64))))])) (fun r h => nomatch h) (fun s => graph_Succs_l21_bok p0 s.1 s.2) s
theorem graph_Succs_ok (p0 : Fun) : Sim (graph_Succs p0) fun r => evI T 13 [.agg [.str p0.Name, .sl p0.Params.length (p0.Params.flatMap (cint .i64)), .int .i64 p0.Ret, .sl p0.Blocks.length (p0.Blocks.flatMap (csl cIns)), .int .i64 p0.At]] = some (.sl r.length (r.flatMap (csl (cint .i64))), [.none]) := by
  unfold graph_Succs
  refine sim_bind (fun l_1 h1 => ?_)
  have f2 := mk_cond h1
  have f2a : mkOwn 1 ((p0.Blocks.length : Int)).toNat (rep ((p0.Blocks.length : Int)).toNat [.nils]) = mkOwn 1 l_1.length (l_1.flatMap (cow 1 (cint .i64))) := mk_own h1 (cow 1 (cint .i64)) 1
  refine sim_bind (fun out15 h30 => ?_)
  have f31 := graph_Succs_l21_ok p0 (l_1, 0) _ h30
  dsimp only at f31
  refine sim_some ?_
  refine evI_ret (x := x13) rfl rfl rfl ?_
  rcases own_cases l_1 with rfl | o_l_1
  · rcases own_cases out15 with rfl | o_out15
    · try simp only [nz, nzIns, nzFun] at f31
      all_goals
        refine' (w_fn rfl rfl (w_seq (w_reg (w_cons ?_ (w_cons ?_ w_nil)) ?_) (w_go (w_seq (w_reg (w_cons ?_ (w_cons ?_ (w_cons ?_ (w_cons ?_ (w_cons ?_ w_nil))))) ?_) (w_go (w_seq (w_seq (w_reg (w_cons ?_ (w_cons ?_ (w_cons ?_ (w_cons ?_ w_nil)))) ?_) (w_go (w_block f31 ?_))) (w_go (w_seq (w_reg (w_cons ?_ (w_cons ?_ w_nil)) ?_) (w_go w_ret)))))))) ?_)
        all_goals (first | (simp only [x13, nz, rn, nzIns, nzFun, f2, f2a, Int.reduceLT, Int.reduceEq, List.contains_cons, List.contains_nil, Option.map_some, Option.map_none, reduceIte, reduceCtorEq, Nat.reduceEqDiff, Nat.reduceLT, Nat.reduceBEq, Nat.reduceAdd, Nat.reduceMul, Nat.reduceLeDiff, Nat.reduceSub, Bool.false_eq_true]; try rfl) | skip)
    · try simp only [nz, nzIns, nzFun, o_out15] at f31
      all_goals
        refine' (w_fn rfl rfl (w_seq (w_reg (w_cons ?_ (w_cons ?_ w_nil)) ?_) (w_go (w_seq (w_reg (w_cons ?_ (w_cons ?_ (w_cons ?_ (w_cons ?_ (w_cons ?_ w_nil))))) ?_) (w_go (w_seq (w_seq (w_reg (w_cons ?_ (w_cons ?_ (w_cons ?_ (w_cons ?_ w_nil)))) ?_) (w_go (w_block f31 ?_))) (w_go (w_seq (w_reg (w_cons ?_ (w_cons ?_ w_nil)) ?_) (w_go w_ret)))))))) ?_)
        all_goals (first | (simp only [x13, nz, rn, nzIns, nzFun, f2, f2a, o_out15, Int.reduceLT, Int.reduceEq, List.contains_cons, List.contains_nil, Option.map_some, Option.map_none, reduceIte, reduceCtorEq, Nat.reduceEqDiff, Nat.reduceLT, Nat.reduceBEq, Nat.reduceAdd, Nat.reduceMul, Nat.reduceLeDiff, Nat.reduceSub, Bool.false_eq_true]; try rfl) | skip)
  · rcases own_cases out15 with rfl | o_out15
    · try simp only [nz, nzIns, nzFun, o_l_1] at f31
      all_goals
        refine' (w_fn rfl rfl (w_seq (w_reg (w_cons ?_ (w_cons ?_ w_nil)) ?_) (w_go (w_seq (w_reg (w_cons ?_ (w_cons ?_ (w_cons ?_ (w_cons ?_ (w_cons ?_ w_nil))))) ?_) (w_go (w_seq (w_seq (w_reg (w_cons ?_ (w_cons ?_ (w_cons ?_ (w_cons ?_ w_nil)))) ?_) (w_go (w_block f31 ?_))) (w_go (w_seq (w_reg (w_cons ?_ (w_cons ?_ w_nil)) ?_) (w_go w_ret)))))))) ?_)
        all_goals (first | (simp only [x13, nz, rn, nzIns, nzFun, f2, f2a, o_l_1, Int.reduceLT, Int.reduceEq, List.contains_cons, List.contains_nil, Option.map_some, Option.map_none, reduceIte, reduceCtorEq, Nat.reduceEqDiff, Nat.reduceLT, Nat.reduceBEq, Nat.reduceAdd, Nat.reduceMul, Nat.reduceLeDiff, Nat.reduceSub, Bool.false_eq_true]; try rfl) | skip)
    · try simp only [nz, nzIns, nzFun, o_l_1, o_out15] at f31
      all_goals
        refine' (w_fn rfl rfl (w_seq (w_reg (w_cons ?_ (w_cons ?_ w_nil)) ?_) (w_go (w_seq (w_reg (w_cons ?_ (w_cons ?_ (w_cons ?_ (w_cons ?_ (w_cons ?_ w_nil))))) ?_) (w_go (w_seq (w_seq (w_reg (w_cons ?_ (w_cons ?_ (w_cons ?_ (w_cons ?_ w_nil)))) ?_) (w_go (w_block f31 ?_))) (w_go (w_seq (w_reg (w_cons ?_ (w_cons ?_ w_nil)) ?_) (w_go w_ret)))))))) ?_)
        all_goals (first | (simp only [x13, nz, rn, nzIns, nzFun, f2, f2a, o_l_1, o_out15, Int.reduceLT, Int.reduceEq, List.contains_cons, List.contains_nil, Option.map_some, Option.map_none, reduceIte, reduceCtorEq, Nat.reduceEqDiff, Nat.reduceLT, Nat.reduceBEq, Nat.reduceAdd, Nat.reduceMul, Nat.reduceLeDiff, Nat.reduceSub, Bool.false_eq_true]; try rfl) | skip)
theorem graph_Succs_okN (p0 : Fun) : Sim (graph_Succs p0) fun r => ∀ ws, ws.map normA = [.agg [.str p0.Name, .sl p0.Params.length (p0.Params.flatMap (cint .i64)), .int .i64 p0.Ret, .sl p0.Blocks.length (p0.Blocks.flatMap (csl cIns)), .int .i64 p0.At]] → evI T 13 ws = some (.sl r.length (r.flatMap (csl (cint .i64))), [.none]) := fun r h => evI_okN (x := x13) rfl rfl rfl (graph_Succs_ok p0 r h)
end Go.Ab

/-
  Printed by gen.py.
-/
namespace Go.Ab
open Go
set_option linter.unusedVariables false
set_option linter.unusedSimpArgs false
set_option maxRecDepth 100000
set_option maxHeartbeats 4000000
theorem r08_Has_l1_bok (p0 : List Int) (p1 : Int) (i1 : Int) : Sim (r08_Has_l1_b p0 p1 i1) fun x => fgt [0, 1, 5] (evX (evI T) x33_1 [(0, .sl p0.length (p0.flatMap (cint .i64))), (1, .int .i64 p1), (5, .int .i64 i1)]) = some (stpK (fun s => (.norm, [(0, .sl p0.length (p0.flatMap (cint .i64))), (1, .int .i64 p1), (5, .int .i64 s)])) (fun r => (stpK (fun t0 => (.exit 0, [])) (fun u0 => (.ret, [(4, .bool true)])) r)) x) := by
  unfold r08_Has_l1_b
  refine sim_if (fun h1 => ?_) (fun h1 => ?_)
  · refine sim_bind (fun x_2 h2 => ?_)
    have f3 := ix_ok h2
    have f3o := ix_own2 h2
    have f4 := ix_cells (sz_int .i64) h2
    simp only [nz] at f4
    refine sim_if (fun h5 => ?_) (fun h5 => ?_)
    · refine sim_some ?_
      refine' (w_fgt (w_seq (w_seq (w_reg (w_cons ?_ (w_cons ?_ (w_cons ?_ (w_cons ?_ w_nil)))) ?_) (w_go (w_condt ?_ w_skip ?_))) (w_go (w_seq (w_block (w_seq (w_reg (w_cons ?_ (w_cons ?_ (w_cons ?_ (w_cons ?_ (w_cons ?_ (w_cons ?_ w_nil)))))) ?_) (w_go (w_condt ?_ (w_seq (w_reg (w_cons ?_ w_nil) ?_) (w_go w_ret)) ?_))) ?_) w_gor))) ?_)
      all_goals (first | (simp only [nz, rn, h1, f3, f3o, f4, h5, Int.reduceLT, Int.reduceEq, List.contains_cons, List.contains_nil, Option.map_some, Option.map_none, reduceIte, reduceCtorEq, Nat.reduceEqDiff, Nat.reduceLT, Nat.reduceBEq, Nat.reduceAdd, Nat.reduceMul, Nat.reduceLeDiff, Nat.reduceSub, Bool.false_eq_true]; try rfl) | skip)
    · refine sim_some ?_
      refine' (w_fgt (w_seq (w_seq (w_reg (w_cons ?_ (w_cons ?_ (w_cons ?_ (w_cons ?_ w_nil)))) ?_) (w_go (w_condt ?_ w_skip ?_))) (w_go (w_seq (w_block (w_seq (w_reg (w_cons ?_ (w_cons ?_ (w_cons ?_ (w_cons ?_ (w_cons ?_ (w_cons ?_ w_nil)))))) ?_) (w_go (w_condf ?_ w_skip ?_))) ?_) (w_go (w_reg (w_cons ?_ (w_cons ?_ (w_cons ?_ w_nil))) ?_))))) ?_)
      all_goals (first | (simp only [nz, rn, h1, f3, f3o, f4, h5, Int.reduceLT, Int.reduceEq, List.contains_cons, List.contains_nil, Option.map_some, Option.map_none, reduceIte, reduceCtorEq, Nat.reduceEqDiff, Nat.reduceLT, Nat.reduceBEq, Nat.reduceAdd, Nat.reduceMul, Nat.reduceLeDiff, Nat.reduceSub, Bool.false_eq_true]; try rfl) | skip)
  · refine sim_some ?_
    refine' (w_fgt (w_seq (w_seq (w_reg (w_cons ?_ (w_cons ?_ (w_cons ?_ (w_cons ?_ w_nil)))) ?_) (w_go (w_condf ?_ (w_exit ?_) ?_))) w_gox) ?_)
    all_goals (first | (simp only [nz, rn, h1, Int.reduceLT, Int.reduceEq, List.contains_cons, List.contains_nil, Option.map_some, Option.map_none, reduceIte, reduceCtorEq, Nat.reduceEqDiff, Nat.reduceLT, Nat.reduceBEq, Nat.reduceAdd, Nat.reduceMul, Nat.reduceLeDiff, Nat.reduceSub, Bool.false_eq_true]; try rfl) | skip)
theorem r08_Has_l1_ok (p0 : List Int) (p1 : Int) (s : Int) : Sim (r08_Has_l1 p0 p1 s) fun r => evX (evI T) (.loop x33_1 [0, 1, 5]) [(0, .sl p0.length (p0.flatMap (cint .i64))), (1, .int .i64 p1), (5, .int .i64 s)] = some (stpK (fun t0 => (.exit 0, [])) (fun u0 => (.ret, [(4, .bool true)])) r) := by
  unfold r08_Has_l1
  exact loop_rule (C := evI T) (b := x33_1) (ks := [0, 1, 5]) (σ := Int) (ρ := Stp Unit Unit) (body := fun s => r08_Has_l1_b p0 p1 s) (E := fun s => [(0, .sl p0.length (p0.flatMap (cint .i64))), (1, .int .i64 p1), (5, .int .i64 s)]) (R := fun r => (stpK (fun t0 => (.exit 0, [])) (fun u0 => (.ret, [(4, .bool true)])) r)) (fun r h => by rcases r with _ | _ <;> cases h) (fun s => r08_Has_l1_bok p0 p1 s) s
theorem r08_Has_ok (p0 : List Int) (p1 : Int) : Sim (r08_Has p0 p1) fun r => evI T 33 [.sl p0.length (p0.flatMap (cint .i64)), .int .i64 p1] = some (.bool r, [.none, .none]) := by
  unfold r08_Has
  refine sim_bind (fun qh6 h6 => ?_)
  rcases qh6 with ⟨_⟩ | ⟨_⟩
  · dsimp only
    have f7 := r08_Has_l1_ok p0 p1 0 _ h6
    dsimp only at f7
    refine sim_some ?_
    refine evI_ret (x := x33) rfl rfl rfl ?_
    try simp only [nz] at f7
    all_goals
      refine' (w_fn rfl rfl (w_seq (w_reg (w_cons ?_ w_nil) ?_) (w_go (w_seq (w_seq (w_reg (w_cons ?_ w_nil) ?_) (w_go (w_block f7 ?_))) (w_go (w_seq (w_reg (w_cons ?_ w_nil) ?_) (w_go w_ret)))))) ?_)
      all_goals (first | (simp only [x33, nz, rn, Int.reduceLT, Int.reduceEq, List.contains_cons, List.contains_nil, Option.map_some, Option.map_none, reduceIte, reduceCtorEq, Nat.reduceEqDiff, Nat.reduceLT, Nat.reduceBEq, Nat.reduceAdd, Nat.reduceMul, Nat.reduceLeDiff, Nat.reduceSub, Bool.false_eq_true]; try rfl) | skip)
  · dsimp only
    have f7 := r08_Has_l1_ok p0 p1 0 _ h6
    dsimp only at f7
    refine sim_some ?_
    refine evI_ret (x := x33) rfl rfl rfl ?_
    try simp only [nz] at f7
    all_goals
      refine' (w_fn rfl rfl (w_seq (w_reg (w_cons ?_ w_nil) ?_) (w_go (w_seq (w_seq (w_reg (w_cons ?_ w_nil) ?_) (w_go (w_block f7 ?_))) w_gor))) ?_)
      all_goals (first | (simp only [x33, nz, rn, Int.reduceLT, Int.reduceEq, List.contains_cons, List.contains_nil, Option.map_some, Option.map_none, reduceIte, reduceCtorEq, Nat.reduceEqDiff, Nat.reduceLT, Nat.reduceBEq, Nat.reduceAdd, Nat.reduceMul, Nat.reduceLeDiff, Nat.reduceSub, Bool.false_eq_true]; try rfl) | skip)
theorem r08_Has_okN (p0 : List Int) (p1 : Int) : Sim (r08_Has p0 p1) fun r => ∀ ws, ws.map normA = [.sl p0.length (p0.flatMap (cint .i64)), .int .i64 p1] → evI T 33 ws = some (.bool r, [.none, .none]) := fun r h => evI_okN (x := x33) rfl rfl rfl (r08_Has_ok p0 p1 r h)
end Go.Ab

/-
  Printed by gen.py.
-/
namespace Go.Ab
open Go
set_option linter.unusedVariables false
set_option linter.unusedSimpArgs false
set_option maxRecDepth 100000
set_option maxHeartbeats 4000000
theorem r08_Next_j4_ok (x_2 : Ins) (out3 : List Int) (i4 : Int) (r6 : Bool) : Sim (r08_Next_j4 x_2 out3 i4 r6) fun r => evX (evI T) x26_1 [(5, mkOwn 1 out3.length (out3.flatMap (cint .i64))), (6, .sl x_2.To.length (x_2.To.flatMap (cint .i64))), (7, .int .i64 i4), (35, .bool ((!r6)))] = some (.norm, [(5, mkOwn 1 r.length (r.flatMap (cint .i64))), (6, .sl x_2.To.length (x_2.To.flatMap (cint .i64))), (7, .int .i64 i4)]) := by
  unfold r08_Next_j4
  refine sim_if (fun h14 => ?_) (fun h14 => ?_)
  · refine sim_bind (fun x_7 h15 => ?_)
    have f16 := ix_ok h15
    have f16o := ix_own2 h15
    have f17 := ix_cells (sz_int .i64) h15
    simp only [nz, nzIns] at f17
    refine sim_bind (fun l_8 h18 => ?_)
    have f19 := app1_cond h18
    try simp only [nz, Nat.reduceLeDiff, Nat.reduceAdd, Nat.reduceMul, Nat.reduceSub] at f19
    have f19a : PV.own 1 (out3.length + 1) (out3.flatMap (cint .i64) ++ [.int .i64 x_7]) = .own 1 l_8.length (l_8.flatMap (cint .i64)) := app1_own h18 (cint .i64) 1
    have f19o := app1_own2 h18
    refine sim_some ?_
    rcases own_cases out3 with rfl | o_out3
    · obtain rfl := app_eq h18
      refine' (w_condt ?_ (w_reg (w_cons ?_ (w_cons ?_ (w_cons ?_ (w_cons ?_ (w_cons ?_ (w_cons ?_ (w_cons ?_ (w_cons ?_ w_nil)))))))) ?_) ?_)
      all_goals (first | (simp only [nz, rn, nzIns, h14, f16, f16o, f17, Int.reduceLT, Int.reduceEq, List.contains_cons, List.contains_nil, Option.map_some, Option.map_none, reduceIte, reduceCtorEq, Nat.reduceEqDiff, Nat.reduceLT, Nat.reduceBEq, Nat.reduceAdd, Nat.reduceMul, Nat.reduceLeDiff, Nat.reduceSub, Bool.false_eq_true]; try rfl) | skip)
    · refine' (w_condt ?_ (w_reg (w_cons ?_ (w_cons ?_ (w_cons ?_ (w_cons ?_ (w_cons ?_ (w_cons ?_ (w_cons ?_ (w_cons ?_ w_nil)))))))) ?_) ?_)
      all_goals (first | (simp only [nz, rn, nzIns, h14, f16, f16o, f17, f19, f19a, f19o, o_out3, Int.reduceLT, Int.reduceEq, List.contains_cons, List.contains_nil, Option.map_some, Option.map_none, reduceIte, reduceCtorEq, Nat.reduceEqDiff, Nat.reduceLT, Nat.reduceBEq, Nat.reduceAdd, Nat.reduceMul, Nat.reduceLeDiff, Nat.reduceSub, Bool.false_eq_true]; try rfl) | skip)
  · refine sim_some ?_
    refine' (w_condf ?_ w_skip ?_)
    all_goals (first | (simp only [nz, rn, nzIns, h14, Int.reduceLT, Int.reduceEq, List.contains_cons, List.contains_nil, Option.map_some, Option.map_none, reduceIte, reduceCtorEq, Nat.reduceEqDiff, Nat.reduceLT, Nat.reduceBEq, Nat.reduceAdd, Nat.reduceMul, Nat.reduceLeDiff, Nat.reduceSub, Bool.false_eq_true]; try rfl) | skip)
theorem r08_Next_l5_bok (x_2 : Ins) (out3 : List Int) (i4 : Int) : Sim (r08_Next_l5_b x_2 out3 i4) fun x => fgt [5, 6, 7] (evX (evI T) x26_2 [(5, mkOwn 1 out3.length (out3.flatMap (cint .i64))), (6, .sl x_2.To.length (x_2.To.flatMap (cint .i64))), (7, .int .i64 i4)]) = some (stpK (fun s => (.norm, [(5, mkOwn 1 s.1.length (s.1.flatMap (cint .i64))), (6, .sl x_2.To.length (x_2.To.flatMap (cint .i64))), (7, .int .i64 s.2)])) (fun r => (.exit 0, [(5, mkOwn 1 r.length (r.flatMap (cint .i64)))])) x) := by
  unfold r08_Next_l5_b
  refine sim_if (fun h8 => ?_) (fun h8 => ?_)
  · refine sim_bind (fun x_5 h9 => ?_)
    have f10 := ix_ok h9
    have f10o := ix_own2 h9
    have f11 := ix_cells (sz_int .i64) h9
    simp only [nz, nzIns] at f11
    refine sim_bind (fun r6 h12 => ?_)
    have f13 := r08_Has_okN out3 x_5 _ h12
    dsimp only at f13
    refine sim_bind (fun out9 h20 => ?_)
    have f21 := r08_Next_j4_ok x_2 out3 i4 r6 _ h20
    dsimp only at f21
    refine sim_some ?_
    rcases own_cases out3 with rfl | o_out3
    · try simp only [nz, nzIns] at f13
      try simp only [nz, nzIns] at f21
      all_goals
        refine' (w_fgt (w_seq (w_seq (w_reg (w_cons ?_ (w_cons ?_ (w_cons ?_ (w_cons ?_ w_nil)))) ?_) (w_go (w_condt ?_ w_skip ?_))) (w_go (w_seq (w_block (w_seq (w_reg (w_cons ?_ (w_cons ?_ (w_cons ?_ (w_cons ?_ (w_cons ?_ (w_cons ?_ (w_cons ?_ w_nil))))))) ?_) (w_go f21)) ?_) (w_go (w_reg (w_cons ?_ (w_cons ?_ (w_cons ?_ w_nil))) ?_))))) ?_)
        all_goals (first | (simp only [nz, rn, nzIns, h8, f10, f10o, f11, f13, Int.reduceLT, Int.reduceEq, List.contains_cons, List.contains_nil, Option.map_some, Option.map_none, reduceIte, reduceCtorEq, Nat.reduceEqDiff, Nat.reduceLT, Nat.reduceBEq, Nat.reduceAdd, Nat.reduceMul, Nat.reduceLeDiff, Nat.reduceSub, Bool.false_eq_true]; try rfl) | skip)
    · try simp only [nz, nzIns, o_out3] at f13
      try simp only [nz, nzIns, o_out3] at f21
      all_goals
        refine' (w_fgt (w_seq (w_seq (w_reg (w_cons ?_ (w_cons ?_ (w_cons ?_ (w_cons ?_ w_nil)))) ?_) (w_go (w_condt ?_ w_skip ?_))) (w_go (w_seq (w_block (w_seq (w_reg (w_cons ?_ (w_cons ?_ (w_cons ?_ (w_cons ?_ (w_cons ?_ (w_cons ?_ (w_cons ?_ w_nil))))))) ?_) (w_go f21)) ?_) (w_go (w_reg (w_cons ?_ (w_cons ?_ (w_cons ?_ w_nil))) ?_))))) ?_)
        all_goals (first | (simp only [nz, rn, nzIns, h8, f10, f10o, f11, f13, o_out3, Int.reduceLT, Int.reduceEq, List.contains_cons, List.contains_nil, Option.map_some, Option.map_none, reduceIte, reduceCtorEq, Nat.reduceEqDiff, Nat.reduceLT, Nat.reduceBEq, Nat.reduceAdd, Nat.reduceMul, Nat.reduceLeDiff, Nat.reduceSub, Bool.false_eq_true]; try rfl) | skip)
  · refine sim_some ?_
    refine' (w_fgt (w_seq (w_seq (w_reg (w_cons ?_ (w_cons ?_ (w_cons ?_ (w_cons ?_ w_nil)))) ?_) (w_go (w_condf ?_ (w_exit ?_) ?_))) w_gox) ?_)
    all_goals (first | (simp only [nz, rn, nzIns, h8, Int.reduceLT, Int.reduceEq, List.contains_cons, List.contains_nil, Option.map_some, Option.map_none, reduceIte, reduceCtorEq, Nat.reduceEqDiff, Nat.reduceLT, Nat.reduceBEq, Nat.reduceAdd, Nat.reduceMul, Nat.reduceLeDiff, Nat.reduceSub, Bool.false_eq_true]; try rfl) | skip)
theorem r08_Next_l5_ok (x_2 : Ins) (s : List Int × Int) : Sim (r08_Next_l5 x_2 s) fun r => evX (evI T) (.loop x26_2 [5, 6, 7]) [(5, mkOwn 1 s.1.length (s.1.flatMap (cint .i64))), (6, .sl x_2.To.length (x_2.To.flatMap (cint .i64))), (7, .int .i64 s.2)] = some (.exit 0, [(5, mkOwn 1 r.length (r.flatMap (cint .i64)))]) := by
  unfold r08_Next_l5
  exact loop_rule (C := evI T) (b := x26_2) (ks := [5, 6, 7]) (σ := List Int × Int) (ρ := List Int) (body := fun s => r08_Next_l5_b x_2 s.1 s.2) (E := fun s => [(5, mkOwn 1 s.1.length (s.1.flatMap (cint .i64))), (6, .sl x_2.To.length (x_2.To.flatMap (cint .i64))), (7, .int .i64 s.2)]) (R := fun r => (.exit 0, [(5, mkOwn 1 r.length (r.flatMap (cint .i64)))])) (fun r h => nomatch h) (fun s => r08_Next_l5_bok x_2 s.1 s.2) s
theorem r08_Next_ok (p0 : Fun) (p1 : Int) : Sim (r08_Next p0 p1) fun r => evI T 26 [.agg [.str p0.Name, .sl p0.Params.length (p0.Params.flatMap (cint .i64)), .int .i64 p0.Ret, .sl p0.Blocks.length (p0.Blocks.flatMap (csl cIns)), .int .i64 p0.At], .int .i64 p1] = some (.sl r.length (r.flatMap (cint .i64)), [.none, .none]) := by
  unfold r08_Next
  refine sim_bind (fun x_1 h1 => ?_)
  have f2 := ix_ok h1
  have f2o := ix_own2 h1
  have f3 := ix_cells (sz_sl cIns) h1
  simp only [nz, nzIns, nzFun] at f3
  have f4 := ix_cells (sz_sl cIns) h1
  simp only [nz, nzIns, nzFun] at f4
  refine sim_bind (fun x_2 h5 => ?_)
  have f6 := ix_ok h5
  have f6o := ix_own2 h5
  have f7 := ix_cells szIns h5
  simp only [nz, nzIns, nzFun] at f7
  refine sim_bind (fun out10 h22 => ?_)
  have f23 := r08_Next_l5_ok x_2 ([], 0) _ h22
  dsimp only at f23
  refine sim_some ?_
  refine evI_ret (x := x26) rfl rfl rfl ?_
  rcases own_cases out10 with rfl | o_out10
  · try simp only [nz, nzIns, nzFun, f6o] at f23
    all_goals
      refine' (w_fn rfl rfl (w_seq (w_reg (w_cons ?_ (w_cons ?_ w_nil)) ?_) (w_go (w_seq (w_reg (w_cons ?_ w_nil) ?_) (w_go (w_seq (w_regD ?_ ?_ (w_consD rfl ?_ ?_ ?_ (w_consD rfl ?_ ?_ ?_ (w_consD rfl ?_ ?_ ?_ (w_consD rfl ?_ ?_ ?_ (w_consD rfl ?_ ?_ ?_ (w_consD rfl ?_ ?_ ?_ (w_consD rfl ?_ ?_ ?_ (w_consD rfl ?_ ?_ ?_ (w_consD rfl ?_ ?_ ?_ (w_consD rfl ?_ ?_ ?_ (w_consD rfl ?_ ?_ ?_ (w_consD rfl ?_ ?_ ?_ (w_barD rfl rfl (w_cons ?_ (w_cons ?_ (w_cons ?_ (w_cons ?_ w_nil))))))))))))))))) ?_) (w_go (w_seq (w_seq (w_reg (w_cons ?_ w_nil) ?_) (w_go (w_block f23 ?_))) (w_go (w_seq (w_reg (w_cons ?_ (w_cons ?_ w_nil)) ?_) (w_go w_ret)))))))))) ?_)
      all_goals (first | (simp only [x26, nz, rn, nzIns, nzFun, f2, f2o, f3, f4, f6, f6o, f7, Int.reduceLT, Int.reduceEq, List.contains_cons, List.contains_nil, Option.map_some, Option.map_none, reduceIte, reduceCtorEq, Nat.reduceEqDiff, Nat.reduceLT, Nat.reduceBEq, Nat.reduceAdd, Nat.reduceMul, Nat.reduceLeDiff, Nat.reduceSub, Bool.false_eq_true]; try rfl) | skip)
  · try simp only [nz, nzIns, nzFun, o_out10, f6o] at f23
    all_goals
      refine' (w_fn rfl rfl (w_seq (w_reg (w_cons ?_ (w_cons ?_ w_nil)) ?_) (w_go (w_seq (w_reg (w_cons ?_ w_nil) ?_) (w_go (w_seq (w_regD ?_ ?_ (w_consD rfl ?_ ?_ ?_ (w_consD rfl ?_ ?_ ?_ (w_consD rfl ?_ ?_ ?_ (w_consD rfl ?_ ?_ ?_ (w_consD rfl ?_ ?_ ?_ (w_consD rfl ?_ ?_ ?_ (w_consD rfl ?_ ?_ ?_ (w_consD rfl ?_ ?_ ?_ (w_consD rfl ?_ ?_ ?_ (w_consD rfl ?_ ?_ ?_ (w_consD rfl ?_ ?_ ?_ (w_consD rfl ?_ ?_ ?_ (w_barD rfl rfl (w_cons ?_ (w_cons ?_ (w_cons ?_ (w_cons ?_ w_nil))))))))))))))))) ?_) (w_go (w_seq (w_seq (w_reg (w_cons ?_ w_nil) ?_) (w_go (w_block f23 ?_))) (w_go (w_seq (w_reg (w_cons ?_ (w_cons ?_ w_nil)) ?_) (w_go w_ret)))))))))) ?_)
      all_goals (first | (simp only [x26, nz, rn, nzIns, nzFun, f2, f2o, f3, f4, f6, f6o, f7, o_out10, Int.reduceLT, Int.reduceEq, List.contains_cons, List.contains_nil, Option.map_some, Option.map_none, reduceIte, reduceCtorEq, Nat.reduceEqDiff, Nat.reduceLT, Nat.reduceBEq, Nat.reduceAdd, Nat.reduceMul, Nat.reduceLeDiff, Nat.reduceSub, Bool.false_eq_true]; try rfl) | skip)
theorem r08_Next_okN (p0 : Fun) (p1 : Int) : Sim (r08_Next p0 p1) fun r => ∀ ws, ws.map normA = [.agg [.str p0.Name, .sl p0.Params.length (p0.Params.flatMap (cint .i64)), .int .i64 p0.Ret, .sl p0.Blocks.length (p0.Blocks.flatMap (csl cIns)), .int .i64 p0.At], .int .i64 p1] → evI T 26 ws = some (.sl r.length (r.flatMap (cint .i64)), [.none, .none]) := fun r h => evI_okN (x := x26) rfl rfl rfl (r08_Next_ok p0 p1 r h)
end Go.Ab

/-
  Printed by gen.py.
-/
namespace Go.Ab
open Go
set_option linter.unusedVariables false
set_option linter.unusedSimpArgs false
set_option maxRecDepth 100000
set_option maxHeartbeats 4000000
theorem r08_Succs_l1_bok (p0 : Fun) (out1 : List (List Int)) (k2 : Int) : Sim (r08_Succs_l1_b p0 out1 k2) fun x => fgt [1, 3, 4] (evX (evI T) x14_1 [(1, .box [.str p0.Name, .sl p0.Params.length (p0.Params.flatMap (cint .i64)), .int .i64 p0.Ret, .sl p0.Blocks.length (p0.Blocks.flatMap (csl cIns)), .int .i64 p0.At]), (3, mkOwn 1 out1.length (out1.flatMap (csl (cint .i64)))), (4, .int .i64 k2)]) = some (stpK (fun s => (.norm, [(1, .box [.str p0.Name, .sl p0.Params.length (p0.Params.flatMap (cint .i64)), .int .i64 p0.Ret, .sl p0.Blocks.length (p0.Blocks.flatMap (csl cIns)), .int .i64 p0.At]), (3, mkOwn 1 s.1.length (s.1.flatMap (csl (cint .i64)))), (4, .int .i64 s.2)])) (fun r => (.exit 0, [(3, mkOwn 1 r.length (r.flatMap (csl (cint .i64))))])) x) := by
  unfold r08_Succs_l1_b
  refine sim_if (fun h1 => ?_) (fun h1 => ?_)
  · refine sim_bind (fun r3 h2 => ?_)
    have f3 := r08_Next_okN p0 k2 _ h2
    dsimp only at f3
    refine sim_bind (fun l_4 h4 => ?_)
    have f5 := app1_cond h4
    try simp only [nz, Nat.reduceLeDiff, Nat.reduceAdd, Nat.reduceMul, Nat.reduceSub] at f5
    have f5a : PV.own 1 (out1.length + 1) (out1.flatMap (csl (cint .i64)) ++ [.sl r3.length (r3.flatMap (cint .i64))]) = .own 1 l_4.length (l_4.flatMap (csl (cint .i64))) := app1_own h4 (csl (cint .i64)) 1
    have f5o := app1_own2 h4
    refine sim_some ?_
    rcases own_cases out1 with rfl | o_out1
    · obtain rfl := app_eq h4
      try simp only [nz, nzIns, nzFun, f5o] at f3
      all_goals
        refine' (w_fgt (w_seq (w_seq (w_reg (w_cons ?_ (w_cons ?_ (w_cons ?_ (w_cons ?_ (w_cons ?_ w_nil))))) ?_) (w_go (w_condt ?_ w_skip ?_))) (w_go (w_seq (w_block (w_reg (w_cons ?_ (w_cons ?_ (w_cons ?_ (w_cons ?_ (w_cons ?_ (w_cons ?_ (w_cons ?_ w_nil))))))) ?_) ?_) (w_go (w_reg (w_cons ?_ (w_cons ?_ (w_cons ?_ w_nil))) ?_))))) ?_)
        all_goals (first | (simp only [nz, rn, nzIns, nzFun, h1, f3, Int.reduceLT, Int.reduceEq, List.contains_cons, List.contains_nil, Option.map_some, Option.map_none, reduceIte, reduceCtorEq, Nat.reduceEqDiff, Nat.reduceLT, Nat.reduceBEq, Nat.reduceAdd, Nat.reduceMul, Nat.reduceLeDiff, Nat.reduceSub, Bool.false_eq_true]; try rfl) | skip)
    · try simp only [nz, nzIns, nzFun, o_out1, f5o] at f3
      all_goals
        refine' (w_fgt (w_seq (w_seq (w_reg (w_cons ?_ (w_cons ?_ (w_cons ?_ (w_cons ?_ (w_cons ?_ w_nil))))) ?_) (w_go (w_condt ?_ w_skip ?_))) (w_go (w_seq (w_block (w_reg (w_cons ?_ (w_cons ?_ (w_cons ?_ (w_cons ?_ (w_cons ?_ (w_cons ?_ (w_cons ?_ w_nil))))))) ?_) ?_) (w_go (w_reg (w_cons ?_ (w_cons ?_ (w_cons ?_ w_nil))) ?_))))) ?_)
        all_goals (first | (simp only [nz, rn, nzIns, nzFun, h1, f3, f5, f5a, f5o, o_out1, Int.reduceLT, Int.reduceEq, List.contains_cons, List.contains_nil, Option.map_some, Option.map_none, reduceIte, reduceCtorEq, Nat.reduceEqDiff, Nat.reduceLT, Nat.reduceBEq, Nat.reduceAdd, Nat.reduceMul, Nat.reduceLeDiff, Nat.reduceSub, Bool.false_eq_true]; try rfl) | skip)
  · refine sim_some ?_
    refine' (w_fgt (w_seq (w_seq (w_reg (w_cons ?_ (w_cons ?_ (w_cons ?_ (w_cons ?_ (w_cons ?_ w_nil))))) ?_) (w_go (w_condf ?_ (w_exit ?_) ?_))) w_gox) ?_)
    all_goals (first | (simp only [nz, rn, nzIns, nzFun, h1, Int.reduceLT, Int.reduceEq, List.contains_cons, List.contains_nil, Option.map_some, Option.map_none, reduceIte, reduceCtorEq, Nat.reduceEqDiff, Nat.reduceLT, Nat.reduceBEq, Nat.reduceAdd, Nat.reduceMul, Nat.reduceLeDiff, Nat.reduceSub, Bool.false_eq_true]; try rfl) | skip)
theorem r08_Succs_l1_ok (p0 : Fun) (s : List (List Int) × Int) : Sim (r08_Succs_l1 p0 s) fun r => evX (evI T) (.loop x14_1 [1, 3, 4]) [(1, .box [.str p0.Name, .sl p0.Params.length (p0.Params.flatMap (cint .i64)), .int .i64 p0.Ret, .sl p0.Blocks.length (p0.Blocks.flatMap (csl cIns)), .int .i64 p0.At]), (3, mkOwn 1 s.1.length (s.1.flatMap (csl (cint .i64)))), (4, .int .i64 s.2)] = some (.exit 0, [(3, mkOwn 1 r.length (r.flatMap (csl (cint .i64))))]) := by
  unfold r08_Succs_l1
  exact loop_rule (C := evI T) (b := x14_1) (ks := [1, 3, 4]) (σ := List (List Int) × Int) (ρ := List (List Int)) (body := fun s => r08_Succs_l1_b p0 s.1 s.2) (E := fun s => [(1, .box [.str p0.Name, .sl p0.Params.length (p0.Params.flatMap (cint .i64)), .int .i64 p0.Ret, .sl p0.Blocks.length (p0.Blocks.flatMap (csl cIns)), .int .i64 p0.At]), (3, mkOwn 1 s.1.length (s.1.flatMap (csl (cint .i64)))), (4, .int .i64 s.2)]) (R := fun r => (.exit 0, [(3, mkOwn 1 r.length (r.flatMap (csl (cint .i64))))])) (fun r h => nomatch h) (fun s => r08_Succs_l1_bok p0 s.1 s.2) s
theorem r08_Succs_ok (p0 : Fun) : Sim (r08_Succs p0) fun r => evI T 14 [.agg [.str p0.Name, .sl p0.Params.length (p0.Params.flatMap (cint .i64)), .int .i64 p0.Ret, .sl p0.Blocks.length (p0.Blocks.flatMap (csl cIns)), .int .i64 p0.At]] = some (.sl r.length (r.flatMap (csl (cint .i64))), [.none]) := by
  unfold r08_Succs
  refine sim_bind (fun out5 h6 => ?_)
  have f7 := r08_Succs_l1_ok p0 ([], 0) _ h6
  dsimp only at f7
  refine sim_some ?_
  refine evI_ret (x := x14) rfl rfl rfl ?_
  rcases own_cases out5 with rfl | o_out5
  · try simp only [nz, nzIns, nzFun] at f7
    all_goals
      refine' (w_fn rfl rfl (w_seq (w_reg (w_cons ?_ (w_cons ?_ w_nil)) ?_) (w_go (w_seq (w_reg (w_cons ?_ w_nil) ?_) (w_go (w_seq (w_seq (w_reg (w_cons ?_ w_nil) ?_) (w_go (w_block f7 ?_))) (w_go (w_seq (w_reg (w_cons ?_ (w_cons ?_ w_nil)) ?_) (w_go w_ret)))))))) ?_)
      all_goals (first | (simp only [x14, nz, rn, nzIns, nzFun, Int.reduceLT, Int.reduceEq, List.contains_cons, List.contains_nil, Option.map_some, Option.map_none, reduceIte, reduceCtorEq, Nat.reduceEqDiff, Nat.reduceLT, Nat.reduceBEq, Nat.reduceAdd, Nat.reduceMul, Nat.reduceLeDiff, Nat.reduceSub, Bool.false_eq_true]; try rfl) | skip)
  · try simp only [nz, nzIns, nzFun, o_out5] at f7
    all_goals
      refine' (w_fn rfl rfl (w_seq (w_reg (w_cons ?_ (w_cons ?_ w_nil)) ?_) (w_go (w_seq (w_reg (w_cons ?_ w_nil) ?_) (w_go (w_seq (w_seq (w_reg (w_cons ?_ w_nil) ?_) (w_go (w_block f7 ?_))) (w_go (w_seq (w_reg (w_cons ?_ (w_cons ?_ w_nil)) ?_) (w_go w_ret)))))))) ?_)
      all_goals (first | (simp only [x14, nz, rn, nzIns, nzFun, o_out5, Int.reduceLT, Int.reduceEq, List.contains_cons, List.contains_nil, Option.map_some, Option.map_none, reduceIte, reduceCtorEq, Nat.reduceEqDiff, Nat.reduceLT, Nat.reduceBEq, Nat.reduceAdd, Nat.reduceMul, Nat.reduceLeDiff, Nat.reduceSub, Bool.false_eq_true]; try rfl) | skip)
theorem r08_Succs_okN (p0 : Fun) : Sim (r08_Succs p0) fun r => ∀ ws, ws.map normA = [.agg [.str p0.Name, .sl p0.Params.length (p0.Params.flatMap (cint .i64)), .int .i64 p0.Ret, .sl p0.Blocks.length (p0.Blocks.flatMap (csl cIns)), .int .i64 p0.At]] → evI T 14 ws = some (.sl r.length (r.flatMap (csl (cint .i64))), [.none]) := fun r h => evI_okN (x := x14) rfl rfl rfl (r08_Succs_ok p0 r h)
end Go.Ab

/-
  Printed by gen.py.
-/
namespace Go.Ab
open Go
set_option linter.unusedVariables false
set_option linter.unusedSimpArgs false
set_option maxRecDepth 100000
set_option maxHeartbeats 4000000
theorem r05_Ints_l1_bok (p0 : List Int) (p1 : List Int) (i1 : Int) : Sim (r05_Ints_l1_b p0 p1 i1) fun x => fgt [0, 1, 5] (evX (evI T) x17_1 [(0, .sl p0.length (p0.flatMap (cint .i64))), (1, .sl p1.length (p1.flatMap (cint .i64))), (5, .int .i64 i1)]) = some (stpK (fun s => (.norm, [(0, .sl p0.length (p0.flatMap (cint .i64))), (1, .sl p1.length (p1.flatMap (cint .i64))), (5, .int .i64 s)])) (fun r => (stpK (fun t0 => (.exit 0, [])) (fun u0 => (.ret, [(4, .bool false)])) r)) x) := by
  unfold r05_Ints_l1_b
  refine sim_if (fun h2 => ?_) (fun h2 => ?_)
  · refine sim_bind (fun x_2 h3 => ?_)
    have f4 := ix_ok h3
    have f4o := ix_own2 h3
    have f5 := ix_cells (sz_int .i64) h3
    simp only [nz] at f5
    refine sim_bind (fun x_3 h6 => ?_)
    have f7 := ix_ok h6
    have f7o := ix_own2 h6
    have f8 := ix_cells (sz_int .i64) h6
    simp only [nz] at f8
    refine sim_if (fun h9 => ?_) (fun h9 => ?_)
    · refine sim_some ?_
      refine' (w_fgt (w_seq (w_seq (w_reg (w_cons ?_ (w_cons ?_ (w_cons ?_ (w_cons ?_ w_nil)))) ?_) (w_go (w_condt ?_ w_skip ?_))) (w_go (w_seq (w_block (w_seq (w_regD ?_ ?_ (w_consD rfl ?_ ?_ ?_ (w_consD rfl ?_ ?_ ?_ (w_consD rfl ?_ ?_ ?_ (w_consD rfl ?_ ?_ ?_ (w_consD rfl ?_ ?_ ?_ (w_consD rfl ?_ ?_ ?_ (w_consD rfl ?_ ?_ ?_ (w_consD rfl ?_ ?_ ?_ (w_barD rfl rfl (w_cons ?_ w_nil)))))))))) ?_) (w_go (w_condt ?_ (w_seq (w_reg (w_cons ?_ w_nil) ?_) (w_go w_ret)) ?_))) ?_) w_gor))) ?_)
      all_goals (first | (simp only [nz, rn, h2, f4, f4o, f5, f7, f7o, f8, h9, Int.reduceLT, Int.reduceEq, List.contains_cons, List.contains_nil, Option.map_some, Option.map_none, reduceIte, reduceCtorEq, Nat.reduceEqDiff, Nat.reduceLT, Nat.reduceBEq, Nat.reduceAdd, Nat.reduceMul, Nat.reduceLeDiff, Nat.reduceSub, Bool.false_eq_true]; try rfl) | skip)
    · refine sim_some ?_
      refine' (w_fgt (w_seq (w_seq (w_reg (w_cons ?_ (w_cons ?_ (w_cons ?_ (w_cons ?_ w_nil)))) ?_) (w_go (w_condt ?_ w_skip ?_))) (w_go (w_seq (w_block (w_seq (w_regD ?_ ?_ (w_consD rfl ?_ ?_ ?_ (w_consD rfl ?_ ?_ ?_ (w_consD rfl ?_ ?_ ?_ (w_consD rfl ?_ ?_ ?_ (w_consD rfl ?_ ?_ ?_ (w_consD rfl ?_ ?_ ?_ (w_consD rfl ?_ ?_ ?_ (w_consD rfl ?_ ?_ ?_ (w_barD rfl rfl (w_cons ?_ w_nil)))))))))) ?_) (w_go (w_condf ?_ w_skip ?_))) ?_) (w_go (w_reg (w_cons ?_ (w_cons ?_ (w_cons ?_ w_nil))) ?_))))) ?_)
      all_goals (first | (simp only [nz, rn, h2, f4, f4o, f5, f7, f7o, f8, h9, Int.reduceLT, Int.reduceEq, List.contains_cons, List.contains_nil, Option.map_some, Option.map_none, reduceIte, reduceCtorEq, Nat.reduceEqDiff, Nat.reduceLT, Nat.reduceBEq, Nat.reduceAdd, Nat.reduceMul, Nat.reduceLeDiff, Nat.reduceSub, Bool.false_eq_true]; try rfl) | skip)
  · refine sim_some ?_
    refine' (w_fgt (w_seq (w_seq (w_reg (w_cons ?_ (w_cons ?_ (w_cons ?_ (w_cons ?_ w_nil)))) ?_) (w_go (w_condf ?_ (w_exit ?_) ?_))) w_gox) ?_)
    all_goals (first | (simp only [nz, rn, h2, Int.reduceLT, Int.reduceEq, List.contains_cons, List.contains_nil, Option.map_some, Option.map_none, reduceIte, reduceCtorEq, Nat.reduceEqDiff, Nat.reduceLT, Nat.reduceBEq, Nat.reduceAdd, Nat.reduceMul, Nat.reduceLeDiff, Nat.reduceSub, Bool.false_eq_true]; try rfl) | skip)
theorem r05_Ints_l1_ok (p0 : List Int) (p1 : List Int) (s : Int) : Sim (r05_Ints_l1 p0 p1 s) fun r => evX (evI T) (.loop x17_1 [0, 1, 5]) [(0, .sl p0.length (p0.flatMap (cint .i64))), (1, .sl p1.length (p1.flatMap (cint .i64))), (5, .int .i64 s)] = some (stpK (fun t0 => (.exit 0, [])) (fun u0 => (.ret, [(4, .bool false)])) r) := by
  unfold r05_Ints_l1
  exact loop_rule (C := evI T) (b := x17_1) (ks := [0, 1, 5]) (σ := Int) (ρ := Stp Unit Unit) (body := fun s => r05_Ints_l1_b p0 p1 s) (E := fun s => [(0, .sl p0.length (p0.flatMap (cint .i64))), (1, .sl p1.length (p1.flatMap (cint .i64))), (5, .int .i64 s)]) (R := fun r => (stpK (fun t0 => (.exit 0, [])) (fun u0 => (.ret, [(4, .bool false)])) r)) (fun r h => by rcases r with _ | _ <;> cases h) (fun s => r05_Ints_l1_bok p0 p1 s) s
theorem r05_Ints_ok (p0 : List Int) (p1 : List Int) : Sim (r05_Ints p0 p1) fun r => evI T 17 [.sl p0.length (p0.flatMap (cint .i64)), .sl p1.length (p1.flatMap (cint .i64))] = some (.bool r, [.none, .none]) := by
  unfold r05_Ints
  refine sim_if (fun h1 => ?_) (fun h1 => ?_)
  · refine sim_some ?_
    refine evI_ret (x := x17) rfl rfl rfl ?_
    refine' (w_fn rfl rfl (w_seq (w_reg (w_cons ?_ w_nil) ?_) (w_go (w_seq (w_seq (w_reg (w_cons ?_ (w_cons ?_ (w_cons ?_ (w_cons ?_ (w_cons ?_ w_nil))))) ?_) (w_go (w_condt ?_ (w_seq (w_reg (w_cons ?_ w_nil) ?_) (w_go w_ret)) ?_))) w_gor))) ?_)
    all_goals (first | (simp only [x17, nz, rn, h1, Int.reduceLT, Int.reduceEq, List.contains_cons, List.contains_nil, Option.map_some, Option.map_none, reduceIte, reduceCtorEq, Nat.reduceEqDiff, Nat.reduceLT, Nat.reduceBEq, Nat.reduceAdd, Nat.reduceMul, Nat.reduceLeDiff, Nat.reduceSub, Bool.false_eq_true]; try rfl) | skip)
  · refine sim_bind (fun qh10 h10 => ?_)
    rcases qh10 with ⟨_⟩ | ⟨_⟩
    · dsimp only
      have f11 := r05_Ints_l1_ok p0 p1 0 _ h10
      dsimp only at f11
      refine sim_some ?_
      refine evI_ret (x := x17) rfl rfl rfl ?_
      try simp only [nz] at f11
      all_goals
        refine' (w_fn rfl rfl (w_seq (w_reg (w_cons ?_ w_nil) ?_) (w_go (w_seq (w_seq (w_reg (w_cons ?_ (w_cons ?_ (w_cons ?_ (w_cons ?_ (w_cons ?_ w_nil))))) ?_) (w_go (w_condf ?_ w_skip ?_))) (w_go (w_seq (w_seq (w_reg (w_cons ?_ w_nil) ?_) (w_go (w_block f11 ?_))) (w_go (w_seq (w_reg (w_cons ?_ w_nil) ?_) (w_go w_ret)))))))) ?_)
        all_goals (first | (simp only [x17, nz, rn, h1, Int.reduceLT, Int.reduceEq, List.contains_cons, List.contains_nil, Option.map_some, Option.map_none, reduceIte, reduceCtorEq, Nat.reduceEqDiff, Nat.reduceLT, Nat.reduceBEq, Nat.reduceAdd, Nat.reduceMul, Nat.reduceLeDiff, Nat.reduceSub, Bool.false_eq_true]; try rfl) | skip)
    · dsimp only
      have f11 := r05_Ints_l1_ok p0 p1 0 _ h10
      dsimp only at f11
      refine sim_some ?_
      refine evI_ret (x := x17) rfl rfl rfl ?_
      try simp only [nz] at f11
      all_goals
        refine' (w_fn rfl rfl (w_seq (w_reg (w_cons ?_ w_nil) ?_) (w_go (w_seq (w_seq (w_reg (w_cons ?_ (w_cons ?_ (w_cons ?_ (w_cons ?_ (w_cons ?_ w_nil))))) ?_) (w_go (w_condf ?_ w_skip ?_))) (w_go (w_seq (w_seq (w_reg (w_cons ?_ w_nil) ?_) (w_go (w_block f11 ?_))) w_gor))))) ?_)
        all_goals (first | (simp only [x17, nz, rn, h1, Int.reduceLT, Int.reduceEq, List.contains_cons, List.contains_nil, Option.map_some, Option.map_none, reduceIte, reduceCtorEq, Nat.reduceEqDiff, Nat.reduceLT, Nat.reduceBEq, Nat.reduceAdd, Nat.reduceMul, Nat.reduceLeDiff, Nat.reduceSub, Bool.false_eq_true]; try rfl) | skip)
theorem r05_Ints_okN (p0 : List Int) (p1 : List Int) : Sim (r05_Ints p0 p1) fun r => ∀ ws, ws.map normA = [.sl p0.length (p0.flatMap (cint .i64)), .sl p1.length (p1.flatMap (cint .i64))] → evI T 17 ws = some (.bool r, [.none, .none]) := fun r h => evI_okN (x := x17) rfl rfl rfl (r05_Ints_ok p0 p1 r h)
end Go.Ab

/-
  Printed by gen.py.
-/
namespace Go.Ab
open Go
set_option linter.unusedVariables false
set_option linter.unusedSimpArgs false
set_option maxRecDepth 100000
set_option maxHeartbeats 4000000
theorem r08_Lists_l1_bok (p0 : List (List Int)) (p1 : List (List Int)) (i1 : Int) : Sim (r08_Lists_l1_b p0 p1 i1) fun x => fgt [0, 1, 5] (evX (evI T) x12_1 [(0, .sl p0.length (p0.flatMap (csl (cint .i64)))), (1, .sl p1.length (p1.flatMap (csl (cint .i64)))), (5, .int .i64 i1)]) = some (stpK (fun s => (.norm, [(0, .sl p0.length (p0.flatMap (csl (cint .i64)))), (1, .sl p1.length (p1.flatMap (csl (cint .i64)))), (5, .int .i64 s)])) (fun r => (stpK (fun t0 => (.exit 0, [])) (fun u0 => (.ret, [(4, .bool false)])) r)) x) := by
  unfold r08_Lists_l1_b
  refine sim_if (fun h2 => ?_) (fun h2 => ?_)
  · refine sim_bind (fun x_2 h3 => ?_)
    have f4 := ix_ok h3
    have f4o := ix_own2 h3
    have f5 := ix_cells (sz_sl (cint .i64)) h3
    simp only [nz] at f5
    refine sim_bind (fun x_3 h6 => ?_)
    have f7 := ix_ok h6
    have f7o := ix_own2 h6
    have f8 := ix_cells (sz_sl (cint .i64)) h6
    simp only [nz] at f8
    refine sim_bind (fun r4 h9 => ?_)
    have f10 := r05_Ints_okN x_2 x_3 _ h9
    dsimp only at f10
    refine sim_if (fun h11 => ?_) (fun h11 => ?_)
    · refine sim_some ?_
      try simp only [nz, f4o, f7o] at f10
      all_goals
        refine' (w_fgt (w_seq (w_seq (w_reg (w_cons ?_ (w_cons ?_ (w_cons ?_ (w_cons ?_ w_nil)))) ?_) (w_go (w_condt ?_ w_skip ?_))) (w_go (w_seq (w_block (w_seq (w_regD ?_ ?_ (w_consD rfl ?_ ?_ ?_ (w_consD rfl ?_ ?_ ?_ (w_consD rfl ?_ ?_ ?_ (w_consD rfl ?_ ?_ ?_ (w_consD rfl ?_ ?_ ?_ (w_consD rfl ?_ ?_ ?_ (w_consD rfl ?_ ?_ ?_ (w_consD rfl ?_ ?_ ?_ (w_barD rfl rfl (w_cons ?_ (w_cons ?_ w_nil))))))))))) ?_) (w_go (w_condt ?_ (w_seq (w_reg (w_cons ?_ w_nil) ?_) (w_go w_ret)) ?_))) ?_) w_gor))) ?_)
        all_goals (first | (simp only [nz, rn, h2, f4, f4o, f5, f7, f7o, f8, f10, h11, Int.reduceLT, Int.reduceEq, List.contains_cons, List.contains_nil, Option.map_some, Option.map_none, reduceIte, reduceCtorEq, Nat.reduceEqDiff, Nat.reduceLT, Nat.reduceBEq, Nat.reduceAdd, Nat.reduceMul, Nat.reduceLeDiff, Nat.reduceSub, Bool.false_eq_true]; try rfl) | skip)
    · refine sim_some ?_
      try simp only [nz, f4o, f7o] at f10
      all_goals
        refine' (w_fgt (w_seq (w_seq (w_reg (w_cons ?_ (w_cons ?_ (w_cons ?_ (w_cons ?_ w_nil)))) ?_) (w_go (w_condt ?_ w_skip ?_))) (w_go (w_seq (w_block (w_seq (w_regD ?_ ?_ (w_consD rfl ?_ ?_ ?_ (w_consD rfl ?_ ?_ ?_ (w_consD rfl ?_ ?_ ?_ (w_consD rfl ?_ ?_ ?_ (w_consD rfl ?_ ?_ ?_ (w_consD rfl ?_ ?_ ?_ (w_consD rfl ?_ ?_ ?_ (w_consD rfl ?_ ?_ ?_ (w_barD rfl rfl (w_cons ?_ (w_cons ?_ w_nil))))))))))) ?_) (w_go (w_condf ?_ w_skip ?_))) ?_) (w_go (w_reg (w_cons ?_ (w_cons ?_ (w_cons ?_ w_nil))) ?_))))) ?_)
        all_goals (first | (simp only [nz, rn, h2, f4, f4o, f5, f7, f7o, f8, f10, h11, Int.reduceLT, Int.reduceEq, List.contains_cons, List.contains_nil, Option.map_some, Option.map_none, reduceIte, reduceCtorEq, Nat.reduceEqDiff, Nat.reduceLT, Nat.reduceBEq, Nat.reduceAdd, Nat.reduceMul, Nat.reduceLeDiff, Nat.reduceSub, Bool.false_eq_true]; try rfl) | skip)
  · refine sim_some ?_
    refine' (w_fgt (w_seq (w_seq (w_reg (w_cons ?_ (w_cons ?_ (w_cons ?_ (w_cons ?_ w_nil)))) ?_) (w_go (w_condf ?_ (w_exit ?_) ?_))) w_gox) ?_)
    all_goals (first | (simp only [nz, rn, h2, Int.reduceLT, Int.reduceEq, List.contains_cons, List.contains_nil, Option.map_some, Option.map_none, reduceIte, reduceCtorEq, Nat.reduceEqDiff, Nat.reduceLT, Nat.reduceBEq, Nat.reduceAdd, Nat.reduceMul, Nat.reduceLeDiff, Nat.reduceSub, Bool.false_eq_true]; try rfl) | skip)
theorem r08_Lists_l1_ok (p0 : List (List Int)) (p1 : List (List Int)) (s : Int) : Sim (r08_Lists_l1 p0 p1 s) fun r => evX (evI T) (.loop x12_1 [0, 1, 5]) [(0, .sl p0.length (p0.flatMap (csl (cint .i64)))), (1, .sl p1.length (p1.flatMap (csl (cint .i64)))), (5, .int .i64 s)] = some (stpK (fun t0 => (.exit 0, [])) (fun u0 => (.ret, [(4, .bool false)])) r) := by
  unfold r08_Lists_l1
  exact loop_rule (C := evI T) (b := x12_1) (ks := [0, 1, 5]) (σ := Int) (ρ := Stp Unit Unit) (body := fun s => r08_Lists_l1_b p0 p1 s) (E := fun s => [(0, .sl p0.length (p0.flatMap (csl (cint .i64)))), (1, .sl p1.length (p1.flatMap (csl (cint .i64)))), (5, .int .i64 s)]) (R := fun r => (stpK (fun t0 => (.exit 0, [])) (fun u0 => (.ret, [(4, .bool false)])) r)) (fun r h => by rcases r with _ | _ <;> cases h) (fun s => r08_Lists_l1_bok p0 p1 s) s
theorem r08_Lists_ok (p0 : List (List Int)) (p1 : List (List Int)) : Sim (r08_Lists p0 p1) fun r => evI T 12 [.sl p0.length (p0.flatMap (csl (cint .i64))), .sl p1.length (p1.flatMap (csl (cint .i64)))] = some (.bool r, [.none, .none]) := by
  unfold r08_Lists
  refine sim_if (fun h1 => ?_) (fun h1 => ?_)
  · refine sim_some ?_
    refine evI_ret (x := x12) rfl rfl rfl ?_
    refine' (w_fn rfl rfl (w_seq (w_reg (w_cons ?_ w_nil) ?_) (w_go (w_seq (w_seq (w_reg (w_cons ?_ (w_cons ?_ (w_cons ?_ (w_cons ?_ (w_cons ?_ w_nil))))) ?_) (w_go (w_condt ?_ (w_seq (w_reg (w_cons ?_ w_nil) ?_) (w_go w_ret)) ?_))) w_gor))) ?_)
    all_goals (first | (simp only [x12, nz, rn, h1, Int.reduceLT, Int.reduceEq, List.contains_cons, List.contains_nil, Option.map_some, Option.map_none, reduceIte, reduceCtorEq, Nat.reduceEqDiff, Nat.reduceLT, Nat.reduceBEq, Nat.reduceAdd, Nat.reduceMul, Nat.reduceLeDiff, Nat.reduceSub, Bool.false_eq_true]; try rfl) | skip)
  · refine sim_bind (fun qh12 h12 => ?_)
    rcases qh12 with ⟨_⟩ | ⟨_⟩
    · dsimp only
      have f13 := r08_Lists_l1_ok p0 p1 0 _ h12
      dsimp only at f13
      refine sim_some ?_
      refine evI_ret (x := x12) rfl rfl rfl ?_
      try simp only [nz] at f13
      all_goals
        refine' (w_fn rfl rfl (w_seq (w_reg (w_cons ?_ w_nil) ?_) (w_go (w_seq (w_seq (w_reg (w_cons ?_ (w_cons ?_ (w_cons ?_ (w_cons ?_ (w_cons ?_ w_nil))))) ?_) (w_go (w_condf ?_ w_skip ?_))) (w_go (w_seq (w_seq (w_reg (w_cons ?_ w_nil) ?_) (w_go (w_block f13 ?_))) (w_go (w_seq (w_reg (w_cons ?_ w_nil) ?_) (w_go w_ret)))))))) ?_)
        all_goals (first | (simp only [x12, nz, rn, h1, Int.reduceLT, Int.reduceEq, List.contains_cons, List.contains_nil, Option.map_some, Option.map_none, reduceIte, reduceCtorEq, Nat.reduceEqDiff, Nat.reduceLT, Nat.reduceBEq, Nat.reduceAdd, Nat.reduceMul, Nat.reduceLeDiff, Nat.reduceSub, Bool.false_eq_true]; try rfl) | skip)
    · dsimp only
      have f13 := r08_Lists_l1_ok p0 p1 0 _ h12
      dsimp only at f13
      refine sim_some ?_
      refine evI_ret (x := x12) rfl rfl rfl ?_
      try simp only [nz] at f13
      all_goals
        refine' (w_fn rfl rfl (w_seq (w_reg (w_cons ?_ w_nil) ?_) (w_go (w_seq (w_seq (w_reg (w_cons ?_ (w_cons ?_ (w_cons ?_ (w_cons ?_ (w_cons ?_ w_nil))))) ?_) (w_go (w_condf ?_ w_skip ?_))) (w_go (w_seq (w_seq (w_reg (w_cons ?_ w_nil) ?_) (w_go (w_block f13 ?_))) w_gor))))) ?_)
        all_goals (first | (simp only [x12, nz, rn, h1, Int.reduceLT, Int.reduceEq, List.contains_cons, List.contains_nil, Option.map_some, Option.map_none, reduceIte, reduceCtorEq, Nat.reduceEqDiff, Nat.reduceLT, Nat.reduceBEq, Nat.reduceAdd, Nat.reduceMul, Nat.reduceLeDiff, Nat.reduceSub, Bool.false_eq_true]; try rfl) | skip)
theorem r08_Lists_okN (p0 : List (List Int)) (p1 : List (List Int)) : Sim (r08_Lists p0 p1) fun r => ∀ ws, ws.map normA = [.sl p0.length (p0.flatMap (csl (cint .i64))), .sl p1.length (p1.flatMap (csl (cint .i64)))] → evI T 12 ws = some (.bool r, [.none, .none]) := fun r h => evI_okN (x := x12) rfl rfl rfl (r08_Lists_ok p0 p1 r h)
end Go.Ab

/-
  Printed by gen.py.
-/
namespace Go.Ab
open Go
set_option linter.unusedVariables false
set_option linter.unusedSimpArgs false
set_option maxRecDepth 100000
set_option maxHeartbeats 4000000
theorem graph_Preds_l4_bok (r2 : List (List Int)) (v4 : Int) (x_5 : List Int) (out6 : List (List Int)) (v7 : Int) : Sim (graph_Preds_l4_b r2 v4 x_5 out6 v7) fun x => fgt [3, 4, 5, 13, 14, 15, 20, 21, 22] (evX (evI T) x15_1 [(3, mkOwn 1 out6.length (out6.flatMap (cow 1 (cint .i64)))), (4, .int .i64 v4), (5, .sl x_5.length (x_5.flatMap (cint .i64))), (13, .sl r2.length (r2.flatMap (csl (cint .i64)))), (14, .int .i64 ((r2.length : Int))), (15, .int .i64 v4), (20, .sl x_5.length (x_5.flatMap (cint .i64))), (21, .int .i64 ((x_5.length : Int))), (22, .int .i64 v7)]) = some (stpK (fun s => (.norm, [(3, mkOwn 1 s.1.length (s.1.flatMap (cow 1 (cint .i64)))), (4, .int .i64 v4), (5, .sl x_5.length (x_5.flatMap (cint .i64))), (13, .sl r2.length (r2.flatMap (csl (cint .i64)))), (14, .int .i64 ((r2.length : Int))), (15, .int .i64 v4), (20, .sl x_5.length (x_5.flatMap (cint .i64))), (21, .int .i64 ((x_5.length : Int))), (22, .int .i64 s.2)])) (fun r => (.exit 2, [(3, mkOwn 1 r.length (r.flatMap (cow 1 (cint .i64)))), (13, .sl r2.length (r2.flatMap (csl (cint .i64)))), (14, .int .i64 ((r2.length : Int))), (15, .int .i64 v4)])) x) := by
  unfold graph_Preds_l4_b
  refine sim_if (fun h9 => ?_) (fun h9 => ?_)
  · refine sim_bind (fun x_8 h10 => ?_)
    have f11 := ix_ok h10
    have f11o := ix_own2 h10
    have f12 := ix_cells (sz_int .i64) h10
    simp only [nz] at f12
    refine sim_bind (fun x_9 h13 => ?_)
    have f14 := ix_ok h13
    have f14o := ix_own2 h13
    have f15 : (out6.flatMap (cow 1 (cint .i64)))[x_8.toNat * 1]? = some (mkOwn 1 x_9.length (x_9.flatMap (cint .i64))) := ix_cell0 (sz_cow 1 (cint .i64)) h13 rfl
    have f15a : (x_8.toNat * 1 + 1 ≤ out6.length * 1) = True := ix_le0 (sz_cow 1 (cint .i64)) h13 (by decide)
    refine sim_bind (fun l_10 h16 => ?_)
    have f17 := app1_cond h16
    try simp only [nz, Nat.reduceLeDiff, Nat.reduceAdd, Nat.reduceMul, Nat.reduceSub] at f17
    have f17a : PV.own 1 (x_9.length + 1) (x_9.flatMap (cint .i64) ++ [.int .i64 v4]) = .own 1 l_10.length (l_10.flatMap (cint .i64)) := app1_own h16 (cint .i64) 1
    have f17o := app1_own2 h16
    have f18 : ∀ v, setCells ((out6.flatMap (cow 1 (cint .i64))).set (x_8.toNat * 1) v) (x_8.toNat * 1) [mkOwn 1 l_10.length (l_10.flatMap (cint .i64))] = (out6.set x_8.toNat l_10).flatMap (cow 1 (cint .i64)) := ix_setv (sz_cow 1 (cint .i64)) h13 _
    have f18b : setCells (out6.flatMap (cow 1 (cint .i64))) (x_8.toNat * 1) [mkOwn 1 l_10.length (l_10.flatMap (cint .i64))] = (out6.set x_8.toNat l_10).flatMap (cow 1 (cint .i64)) := ix_set (sz_cow 1 (cint .i64)) h13 _
    have f18a := ix_le (sz_cow 1 (cint .i64)) h13
    refine sim_some ?_
    rcases own_cases x_9 with rfl | o_x_9
    · obtain rfl := app_eq h16
      try simp only [nz, f11o, f14o, f17o] at f18
      try simp only [nz, f11o, f14o, f17o] at f18b
      all_goals
        refine' (w_fgt (w_seq (w_reg (w_cons ?_ w_nil) ?_) (w_go (w_seq (w_condt ?_ w_skip ?_) (w_go (w_seq (w_block (w_seq (w_reg (w_cons ?_ (w_cons ?_ (w_cons ?_ w_nil))) ?_) (w_go (w_reg (w_cons ?_ (w_cons ?_ (w_cons ?_ (w_cons ?_ (w_cons ?_ (w_cons ?_ (w_cons ?_ (w_cons ?_ (w_cons ?_ (w_cons ?_ (w_cons ?_ w_nil))))))))))) ?_))) ?_) (w_go (w_reg (w_cons ?_ (w_cons ?_ w_nil)) ?_))))))) ?_)
        all_goals (first | (simp only [nz, rn, h9, f11, f11o, f12, f14, f14o, f15, f15a, f18, f18a, f18b, Int.reduceLT, Int.reduceEq, List.contains_cons, List.contains_nil, Option.map_some, Option.map_none, reduceIte, reduceCtorEq, Nat.reduceEqDiff, Nat.reduceLT, Nat.reduceBEq, Nat.reduceAdd, Nat.reduceMul, Nat.reduceLeDiff, Nat.reduceSub, Bool.false_eq_true]; try rfl) | skip)
    · try simp only [nz, o_x_9, f11o, f14o, f17o] at f18
      try simp only [nz, o_x_9, f11o, f14o, f17o] at f18b
      all_goals
        refine' (w_fgt (w_seq (w_reg (w_cons ?_ w_nil) ?_) (w_go (w_seq (w_condt ?_ w_skip ?_) (w_go (w_seq (w_block (w_seq (w_reg (w_cons ?_ (w_cons ?_ (w_cons ?_ w_nil))) ?_) (w_go (w_reg (w_cons ?_ (w_cons ?_ (w_cons ?_ (w_cons ?_ (w_cons ?_ (w_cons ?_ (w_cons ?_ (w_cons ?_ (w_cons ?_ (w_cons ?_ (w_cons ?_ w_nil))))))))))) ?_))) ?_) (w_go (w_reg (w_cons ?_ (w_cons ?_ w_nil)) ?_))))))) ?_)
        all_goals (first | (simp only [nz, rn, h9, f11, f11o, f12, f14, f14o, f15, f15a, f17, f17a, f17o, f18, f18a, f18b, o_x_9, Int.reduceLT, Int.reduceEq, List.contains_cons, List.contains_nil, Option.map_some, Option.map_none, reduceIte, reduceCtorEq, Nat.reduceEqDiff, Nat.reduceLT, Nat.reduceBEq, Nat.reduceAdd, Nat.reduceMul, Nat.reduceLeDiff, Nat.reduceSub, Bool.false_eq_true]; try rfl) | skip)
  · refine sim_some ?_
    refine' (w_fgt (w_seq (w_reg (w_cons ?_ w_nil) ?_) (w_go (w_seq (w_condf ?_ (w_exit ?_) ?_) w_gox))) ?_)
    all_goals (first | (simp only [nz, rn, h9, Int.reduceLT, Int.reduceEq, List.contains_cons, List.contains_nil, Option.map_some, Option.map_none, reduceIte, reduceCtorEq, Nat.reduceEqDiff, Nat.reduceLT, Nat.reduceBEq, Nat.reduceAdd, Nat.reduceMul, Nat.reduceLeDiff, Nat.reduceSub, Bool.false_eq_true]; try rfl) | skip)
theorem graph_Preds_l4_ok (r2 : List (List Int)) (v4 : Int) (x_5 : List Int) (s : List (List Int) × Int) : Sim (graph_Preds_l4 r2 v4 x_5 s) fun r => evX (evI T) (.loop x15_1 [3, 4, 5, 13, 14, 15, 20, 21, 22]) [(3, mkOwn 1 s.1.length (s.1.flatMap (cow 1 (cint .i64)))), (4, .int .i64 v4), (5, .sl x_5.length (x_5.flatMap (cint .i64))), (13, .sl r2.length (r2.flatMap (csl (cint .i64)))), (14, .int .i64 ((r2.length : Int))), (15, .int .i64 v4), (20, .sl x_5.length (x_5.flatMap (cint .i64))), (21, .int .i64 ((x_5.length : Int))), (22, .int .i64 s.2)] = some (.exit 2, [(3, mkOwn 1 r.length (r.flatMap (cow 1 (cint .i64)))), (13, .sl r2.length (r2.flatMap (csl (cint .i64)))), (14, .int .i64 ((r2.length : Int))), (15, .int .i64 v4)]) := by
  unfold graph_Preds_l4
  exact loop_rule (C := evI T) (b := x15_1) (ks := [3, 4, 5, 13, 14, 15, 20, 21, 22]) (σ := List (List Int) × Int) (ρ := List (List Int)) (body := fun s => graph_Preds_l4_b r2 v4 x_5 s.1 s.2) (E := fun s => [(3, mkOwn 1 s.1.length (s.1.flatMap (cow 1 (cint .i64)))), (4, .int .i64 v4), (5, .sl x_5.length (x_5.flatMap (cint .i64))), (13, .sl r2.length (r2.flatMap (csl (cint .i64)))), (14, .int .i64 ((r2.length : Int))), (15, .int .i64 v4), (20, .sl x_5.length (x_5.flatMap (cint .i64))), (21, .int .i64 ((x_5.length : Int))), (22, .int .i64 s.2)]) (R := fun r => (.exit 2, [(3, mkOwn 1 r.length (r.flatMap (cow 1 (cint .i64)))), (13, .sl r2.length (r2.flatMap (csl (cint .i64)))), (14, .int .i64 ((r2.length : Int))), (15, .int .i64 v4)])) (fun r h => nomatch h) (fun s => graph_Preds_l4_bok r2 v4 x_5 s.1 s.2) s
theorem graph_Preds_l5_bok (r2 : List (List Int)) (out3 : List (List Int)) (v4 : Int) : Sim (graph_Preds_l5_b r2 out3 v4) fun x => fgt [3, 13, 14, 15] (evX (evI T) x15_2 [(3, mkOwn 1 out3.length (out3.flatMap (cow 1 (cint .i64)))), (13, .sl r2.length (r2.flatMap (csl (cint .i64)))), (14, .int .i64 ((r2.length : Int))), (15, .int .i64 v4)]) = some (stpK (fun s => (.norm, [(3, mkOwn 1 s.1.length (s.1.flatMap (cow 1 (cint .i64)))), (13, .sl r2.length (r2.flatMap (csl (cint .i64)))), (14, .int .i64 ((r2.length : Int))), (15, .int .i64 s.2)])) (fun r => (.exit 0, [(3, mkOwn 1 r.length (r.flatMap (cow 1 (cint .i64))))])) x) := by
  unfold graph_Preds_l5_b
  refine sim_if (fun h5 => ?_) (fun h5 => ?_)
  · refine sim_bind (fun x_5 h6 => ?_)
    have f7 := ix_ok h6
    have f7o := ix_own2 h6
    have f8 := ix_cells (sz_sl (cint .i64)) h6
    simp only [nz] at f8
    refine sim_bind (fun out11 h19 => ?_)
    have f20 := graph_Preds_l4_ok r2 v4 x_5 (out3, 0) _ h19
    dsimp only at f20
    refine sim_some ?_
    try simp only [nz, f7o] at f20
    all_goals
      refine' (w_fgt (w_seq (w_reg (w_cons ?_ w_nil) ?_) (w_go (w_seq (w_condt ?_ w_skip ?_) (w_go (w_seq (w_block (w_seq (w_reg (w_cons ?_ (w_cons ?_ (w_cons ?_ (w_cons ?_ (w_cons ?_ w_nil))))) ?_) (w_go (w_seq (w_reg (w_cons ?_ (w_cons ?_ (w_cons ?_ w_nil))) ?_) (w_go (w_block f20 ?_))))) ?_) (w_go (w_reg (w_cons ?_ (w_cons ?_ w_nil)) ?_))))))) ?_)
      all_goals (first | (simp only [nz, rn, h5, f7, f7o, f8, Int.reduceLT, Int.reduceEq, List.contains_cons, List.contains_nil, Option.map_some, Option.map_none, reduceIte, reduceCtorEq, Nat.reduceEqDiff, Nat.reduceLT, Nat.reduceBEq, Nat.reduceAdd, Nat.reduceMul, Nat.reduceLeDiff, Nat.reduceSub, Bool.false_eq_true]; try rfl) | skip)
  · refine sim_some ?_
    refine' (w_fgt (w_seq (w_reg (w_cons ?_ w_nil) ?_) (w_go (w_seq (w_condf ?_ (w_exit ?_) ?_) w_gox))) ?_)
    all_goals (first | (simp only [nz, rn, h5, Int.reduceLT, Int.reduceEq, List.contains_cons, List.contains_nil, Option.map_some, Option.map_none, reduceIte, reduceCtorEq, Nat.reduceEqDiff, Nat.reduceLT, Nat.reduceBEq, Nat.reduceAdd, Nat.reduceMul, Nat.reduceLeDiff, Nat.reduceSub, Bool.false_eq_true]; try rfl) | skip)
theorem graph_Preds_l5_ok (r2 : List (List Int)) (s : List (List Int) × Int) : Sim (graph_Preds_l5 r2 s) fun r => evX (evI T) (.loop x15_2 [3, 13, 14, 15]) [(3, mkOwn 1 s.1.length (s.1.flatMap (cow 1 (cint .i64)))), (13, .sl r2.length (r2.flatMap (csl (cint .i64)))), (14, .int .i64 ((r2.length : Int))), (15, .int .i64 s.2)] = some (.exit 0, [(3, mkOwn 1 r.length (r.flatMap (cow 1 (cint .i64))))]) := by
  unfold graph_Preds_l5
  exact loop_rule (C := evI T) (b := x15_2) (ks := [3, 13, 14, 15]) (σ := List (List Int) × Int) (ρ := List (List Int)) (body := fun s => graph_Preds_l5_b r2 s.1 s.2) (E := fun s => [(3, mkOwn 1 s.1.length (s.1.flatMap (cow 1 (cint .i64)))), (13, .sl r2.length (r2.flatMap (csl (cint .i64)))), (14, .int .i64 ((r2.length : Int))), (15, .int .i64 s.2)]) (R := fun r => (.exit 0, [(3, mkOwn 1 r.length (r.flatMap (cow 1 (cint .i64))))])) (fun r h => nomatch h) (fun s => graph_Preds_l5_bok r2 s.1 s.2) s
theorem graph_Preds_ok (p0 : Fun) : Sim (graph_Preds p0) fun r => evI T 15 [.agg [.str p0.Name, .sl p0.Params.length (p0.Params.flatMap (cint .i64)), .int .i64 p0.Ret, .sl p0.Blocks.length (p0.Blocks.flatMap (csl cIns)), .int .i64 p0.At]] = some (.sl r.length (r.flatMap (csl (cint .i64))), [.none]) := by
  unfold graph_Preds
  refine sim_bind (fun l_1 h1 => ?_)
  have f2 := mk_cond h1
  have f2a : mkOwn 1 ((p0.Blocks.length : Int)).toNat (rep ((p0.Blocks.length : Int)).toNat [.nils]) = mkOwn 1 l_1.length (l_1.flatMap (cow 1 (cint .i64))) := mk_own h1 (cow 1 (cint .i64)) 1
  refine sim_bind (fun r2 h3 => ?_)
  have f4 := graph_Succs_okN p0 _ h3
  dsimp only at f4
  refine sim_bind (fun out12 h21 => ?_)
  have f22 := graph_Preds_l5_ok r2 (l_1, 0) _ h21
  dsimp only at f22
  refine sim_some ?_
  refine evI_ret (x := x15) rfl rfl rfl ?_
  rcases own_cases l_1 with rfl | o_l_1
  · rcases own_cases out12 with rfl | o_out12
    · try simp only [nz, nzIns, nzFun] at f4
      try simp only [nz, nzIns, nzFun] at f22
      all_goals
        refine' (w_fn rfl rfl (w_seq (w_reg (w_cons ?_ (w_cons ?_ w_nil)) ?_) (w_go (w_seq (w_reg (w_cons ?_ (w_cons ?_ (w_cons ?_ (w_cons ?_ (w_cons ?_ w_nil))))) ?_) (w_go (w_seq (w_seq (w_reg (w_cons ?_ (w_cons ?_ (w_cons ?_ (w_cons ?_ w_nil)))) ?_) (w_go (w_block f22 ?_))) (w_go (w_seq (w_reg (w_cons ?_ (w_cons ?_ w_nil)) ?_) (w_go w_ret)))))))) ?_)
        all_goals (first | (simp only [x15, nz, rn, nzIns, nzFun, f2, f2a, f4, Int.reduceLT, Int.reduceEq, List.contains_cons, List.contains_nil, Option.map_some, Option.map_none, reduceIte, reduceCtorEq, Nat.reduceEqDiff, Nat.reduceLT, Nat.reduceBEq, Nat.reduceAdd, Nat.reduceMul, Nat.reduceLeDiff, Nat.reduceSub, Bool.false_eq_true]; try rfl) | skip)
    · try simp only [nz, nzIns, nzFun, o_out12] at f4
      try simp only [nz, nzIns, nzFun, o_out12] at f22
      all_goals
        refine' (w_fn rfl rfl (w_seq (w_reg (w_cons ?_ (w_cons ?_ w_nil)) ?_) (w_go (w_seq (w_reg (w_cons ?_ (w_cons ?_ (w_cons ?_ (w_cons ?_ (w_cons ?_ w_nil))))) ?_) (w_go (w_seq (w_seq (w_reg (w_cons ?_ (w_cons ?_ (w_cons ?_ (w_cons ?_ w_nil)))) ?_) (w_go (w_block f22 ?_))) (w_go (w_seq (w_reg (w_cons ?_ (w_cons ?_ w_nil)) ?_) (w_go w_ret)))))))) ?_)
        all_goals (first | (simp only [x15, nz, rn, nzIns, nzFun, f2, f2a, f4, o_out12, Int.reduceLT, Int.reduceEq, List.contains_cons, List.contains_nil, Option.map_some, Option.map_none, reduceIte, reduceCtorEq, Nat.reduceEqDiff, Nat.reduceLT, Nat.reduceBEq, Nat.reduceAdd, Nat.reduceMul, Nat.reduceLeDiff, Nat.reduceSub, Bool.false_eq_true]; try rfl) | skip)
  · rcases own_cases out12 with rfl | o_out12
    · try simp only [nz, nzIns, nzFun, o_l_1] at f4
      try simp only [nz, nzIns, nzFun, o_l_1] at f22
      all_goals
        refine' (w_fn rfl rfl (w_seq (w_reg (w_cons ?_ (w_cons ?_ w_nil)) ?_) (w_go (w_seq (w_reg (w_cons ?_ (w_cons ?_ (w_cons ?_ (w_cons ?_ (w_cons ?_ w_nil))))) ?_) (w_go (w_seq (w_seq (w_reg (w_cons ?_ (w_cons ?_ (w_cons ?_ (w_cons ?_ w_nil)))) ?_) (w_go (w_block f22 ?_))) (w_go (w_seq (w_reg (w_cons ?_ (w_cons ?_ w_nil)) ?_) (w_go w_ret)))))))) ?_)
        all_goals (first | (simp only [x15, nz, rn, nzIns, nzFun, f2, f2a, f4, o_l_1, Int.reduceLT, Int.reduceEq, List.contains_cons, List.contains_nil, Option.map_some, Option.map_none, reduceIte, reduceCtorEq, Nat.reduceEqDiff, Nat.reduceLT, Nat.reduceBEq, Nat.reduceAdd, Nat.reduceMul, Nat.reduceLeDiff, Nat.reduceSub, Bool.false_eq_true]; try rfl) | skip)
    · try simp only [nz, nzIns, nzFun, o_l_1, o_out12] at f4
      try simp only [nz, nzIns, nzFun, o_l_1, o_out12] at f22
      all_goals
        refine' (w_fn rfl rfl (w_seq (w_reg (w_cons ?_ (w_cons ?_ w_nil)) ?_) (w_go (w_seq (w_reg (w_cons ?_ (w_cons ?_ (w_cons ?_ (w_cons ?_ (w_cons ?_ w_nil))))) ?_) (w_go (w_seq (w_seq (w_reg (w_cons ?_ (w_cons ?_ (w_cons ?_ (w_cons ?_ w_nil)))) ?_) (w_go (w_block f22 ?_))) (w_go (w_seq (w_reg (w_cons ?_ (w_cons ?_ w_nil)) ?_) (w_go w_ret)))))))) ?_)
        all_goals (first | (simp only [x15, nz, rn, nzIns, nzFun, f2, f2a, f4, o_l_1, o_out12, Int.reduceLT, Int.reduceEq, List.contains_cons, List.contains_nil, Option.map_some, Option.map_none, reduceIte, reduceCtorEq, Nat.reduceEqDiff, Nat.reduceLT, Nat.reduceBEq, Nat.reduceAdd, Nat.reduceMul, Nat.reduceLeDiff, Nat.reduceSub, Bool.false_eq_true]; try rfl) | skip)
theorem graph_Preds_okN (p0 : Fun) : Sim (graph_Preds p0) fun r => ∀ ws, ws.map normA = [.agg [.str p0.Name, .sl p0.Params.length (p0.Params.flatMap (cint .i64)), .int .i64 p0.Ret, .sl p0.Blocks.length (p0.Blocks.flatMap (csl cIns)), .int .i64 p0.At]] → evI T 15 ws = some (.sl r.length (r.flatMap (csl (cint .i64))), [.none]) := fun r h => evI_okN (x := x15) rfl rfl rfl (graph_Preds_ok p0 r h)
end Go.Ab

/-
  Printed by gen.py.
-/
namespace Go.Ab
open Go
set_option linter.unusedVariables false
set_option linter.unusedSimpArgs false
set_option maxRecDepth 100000
set_option maxHeartbeats 4000000
theorem r08_Preds_j19_ok (p0 : Fun) (out1 : List (List Int)) (b2 : Int) (l3 : List Int) (k4 : Int) (r6 : Bool) : Sim (r08_Preds_j19 p0 out1 b2 l3 k4 r6) fun r => evX (evI T) x16_1 [(1, .box [.str p0.Name, .sl p0.Params.length (p0.Params.flatMap (cint .i64)), .int .i64 p0.Ret, .sl p0.Blocks.length (p0.Blocks.flatMap (csl cIns)), .int .i64 p0.At]), (3, mkOwn 1 out1.length (out1.flatMap (csl (cint .i64)))), (4, .int .i64 b2), (5, mkOwn 1 l3.length (l3.flatMap (cint .i64))), (6, .int .i64 k4), (25, .bool r6)] = some (.norm, [(1, .box [.str p0.Name, .sl p0.Params.length (p0.Params.flatMap (cint .i64)), .int .i64 p0.Ret, .sl p0.Blocks.length (p0.Blocks.flatMap (csl cIns)), .int .i64 p0.At]), (3, mkOwn 1 out1.length (out1.flatMap (csl (cint .i64)))), (4, .int .i64 b2), (5, mkOwn 1 r.length (r.flatMap (cint .i64))), (6, .int .i64 k4)]) := by
  unfold r08_Preds_j19
  refine sim_if (fun h7 => ?_) (fun h7 => ?_)
  · refine sim_bind (fun l_7 h8 => ?_)
    have f9 := app1_cond h8
    try simp only [nz, Nat.reduceLeDiff, Nat.reduceAdd, Nat.reduceMul, Nat.reduceSub] at f9
    have f9a : PV.own 1 (l3.length + 1) (l3.flatMap (cint .i64) ++ [.int .i64 k4]) = .own 1 l_7.length (l_7.flatMap (cint .i64)) := app1_own h8 (cint .i64) 1
    have f9o := app1_own2 h8
    refine sim_some ?_
    rcases own_cases l3 with rfl | o_l3
    · obtain rfl := app_eq h8
      refine' (w_condt ?_ (w_reg (w_cons ?_ (w_cons ?_ (w_cons ?_ (w_cons ?_ (w_cons ?_ w_nil))))) ?_) ?_)
      all_goals (first | (simp only [nz, rn, nzIns, nzFun, h7, Int.reduceLT, Int.reduceEq, List.contains_cons, List.contains_nil, Option.map_some, Option.map_none, reduceIte, reduceCtorEq, Nat.reduceEqDiff, Nat.reduceLT, Nat.reduceBEq, Nat.reduceAdd, Nat.reduceMul, Nat.reduceLeDiff, Nat.reduceSub, Bool.false_eq_true]; try rfl) | skip)
    · refine' (w_condt ?_ (w_reg (w_cons ?_ (w_cons ?_ (w_cons ?_ (w_cons ?_ (w_cons ?_ w_nil))))) ?_) ?_)
      all_goals (first | (simp only [nz, rn, nzIns, nzFun, h7, f9, f9a, f9o, o_l3, Int.reduceLT, Int.reduceEq, List.contains_cons, List.contains_nil, Option.map_some, Option.map_none, reduceIte, reduceCtorEq, Nat.reduceEqDiff, Nat.reduceLT, Nat.reduceBEq, Nat.reduceAdd, Nat.reduceMul, Nat.reduceLeDiff, Nat.reduceSub, Bool.false_eq_true]; try rfl) | skip)
  · refine sim_some ?_
    refine' (w_condf ?_ w_skip ?_)
    all_goals (first | (simp only [nz, rn, nzIns, nzFun, h7, Int.reduceLT, Int.reduceEq, List.contains_cons, List.contains_nil, Option.map_some, Option.map_none, reduceIte, reduceCtorEq, Nat.reduceEqDiff, Nat.reduceLT, Nat.reduceBEq, Nat.reduceAdd, Nat.reduceMul, Nat.reduceLeDiff, Nat.reduceSub, Bool.false_eq_true]; try rfl) | skip)
theorem r08_Preds_l20_bok (p0 : Fun) (out1 : List (List Int)) (b2 : Int) (l3 : List Int) (k4 : Int) : Sim (r08_Preds_l20_b p0 out1 b2 l3 k4) fun x => fgt [1, 3, 4, 5, 6] (evX (evI T) x16_2 [(1, .box [.str p0.Name, .sl p0.Params.length (p0.Params.flatMap (cint .i64)), .int .i64 p0.Ret, .sl p0.Blocks.length (p0.Blocks.flatMap (csl cIns)), .int .i64 p0.At]), (3, mkOwn 1 out1.length (out1.flatMap (csl (cint .i64)))), (4, .int .i64 b2), (5, mkOwn 1 l3.length (l3.flatMap (cint .i64))), (6, .int .i64 k4)]) = some (stpK (fun s => (.norm, [(1, .box [.str p0.Name, .sl p0.Params.length (p0.Params.flatMap (cint .i64)), .int .i64 p0.Ret, .sl p0.Blocks.length (p0.Blocks.flatMap (csl cIns)), .int .i64 p0.At]), (3, mkOwn 1 out1.length (out1.flatMap (csl (cint .i64)))), (4, .int .i64 b2), (5, mkOwn 1 s.1.length (s.1.flatMap (cint .i64))), (6, .int .i64 s.2)])) (fun r => (.exit 2, [(1, .box [.str p0.Name, .sl p0.Params.length (p0.Params.flatMap (cint .i64)), .int .i64 p0.Ret, .sl p0.Blocks.length (p0.Blocks.flatMap (csl cIns)), .int .i64 p0.At]), (3, mkOwn 1 out1.length (out1.flatMap (csl (cint .i64)))), (4, .int .i64 b2), (5, mkOwn 1 r.length (r.flatMap (cint .i64)))])) x) := by
  unfold r08_Preds_l20_b
  refine sim_if (fun h2 => ?_) (fun h2 => ?_)
  · refine sim_bind (fun r5 h3 => ?_)
    have f4 := r08_Next_okN p0 k4 _ h3
    dsimp only at f4
    refine sim_bind (fun r6 h5 => ?_)
    have f6 := r08_Has_okN r5 b2 _ h5
    dsimp only at f6
    refine sim_bind (fun l8 h10 => ?_)
    have f11 := r08_Preds_j19_ok p0 out1 b2 l3 k4 r6 _ h10
    dsimp only at f11
    refine sim_some ?_
    try simp only [nz, nzIns, nzFun] at f4
    try simp only [nz, nzIns, nzFun] at f6
    try simp only [nz, nzIns, nzFun] at f11
    all_goals
      refine' (w_fgt (w_seq (w_seq (w_reg (w_cons ?_ (w_cons ?_ (w_cons ?_ (w_cons ?_ (w_cons ?_ w_nil))))) ?_) (w_go (w_condt ?_ w_skip ?_))) (w_go (w_seq (w_block (w_seq (w_reg (w_cons ?_ (w_cons ?_ (w_cons ?_ (w_cons ?_ (w_cons ?_ w_nil))))) ?_) (w_go f11)) ?_) (w_go (w_reg (w_cons ?_ (w_cons ?_ (w_cons ?_ w_nil))) ?_))))) ?_)
      all_goals (first | (simp only [nz, rn, nzIns, nzFun, h2, f4, f6, Int.reduceLT, Int.reduceEq, List.contains_cons, List.contains_nil, Option.map_some, Option.map_none, reduceIte, reduceCtorEq, Nat.reduceEqDiff, Nat.reduceLT, Nat.reduceBEq, Nat.reduceAdd, Nat.reduceMul, Nat.reduceLeDiff, Nat.reduceSub, Bool.false_eq_true]; try rfl) | skip)
  · refine sim_some ?_
    refine' (w_fgt (w_seq (w_seq (w_reg (w_cons ?_ (w_cons ?_ (w_cons ?_ (w_cons ?_ (w_cons ?_ w_nil))))) ?_) (w_go (w_condf ?_ (w_exit ?_) ?_))) w_gox) ?_)
    all_goals (first | (simp only [nz, rn, nzIns, nzFun, h2, Int.reduceLT, Int.reduceEq, List.contains_cons, List.contains_nil, Option.map_some, Option.map_none, reduceIte, reduceCtorEq, Nat.reduceEqDiff, Nat.reduceLT, Nat.reduceBEq, Nat.reduceAdd, Nat.reduceMul, Nat.reduceLeDiff, Nat.reduceSub, Bool.false_eq_true]; try rfl) | skip)
theorem r08_Preds_l20_ok (p0 : Fun) (out1 : List (List Int)) (b2 : Int) (s : List Int × Int) : Sim (r08_Preds_l20 p0 out1 b2 s) fun r => evX (evI T) (.loop x16_2 [1, 3, 4, 5, 6]) [(1, .box [.str p0.Name, .sl p0.Params.length (p0.Params.flatMap (cint .i64)), .int .i64 p0.Ret, .sl p0.Blocks.length (p0.Blocks.flatMap (csl cIns)), .int .i64 p0.At]), (3, mkOwn 1 out1.length (out1.flatMap (csl (cint .i64)))), (4, .int .i64 b2), (5, mkOwn 1 s.1.length (s.1.flatMap (cint .i64))), (6, .int .i64 s.2)] = some (.exit 2, [(1, .box [.str p0.Name, .sl p0.Params.length (p0.Params.flatMap (cint .i64)), .int .i64 p0.Ret, .sl p0.Blocks.length (p0.Blocks.flatMap (csl cIns)), .int .i64 p0.At]), (3, mkOwn 1 out1.length (out1.flatMap (csl (cint .i64)))), (4, .int .i64 b2), (5, mkOwn 1 r.length (r.flatMap (cint .i64)))]) := by
  unfold r08_Preds_l20
  exact loop_rule (C := evI T) (b := x16_2) (ks := [1, 3, 4, 5, 6]) (σ := List Int × Int) (ρ := List Int) (body := fun s => r08_Preds_l20_b p0 out1 b2 s.1 s.2) (E := fun s => [(1, .box [.str p0.Name, .sl p0.Params.length (p0.Params.flatMap (cint .i64)), .int .i64 p0.Ret, .sl p0.Blocks.length (p0.Blocks.flatMap (csl cIns)), .int .i64 p0.At]), (3, mkOwn 1 out1.length (out1.flatMap (csl (cint .i64)))), (4, .int .i64 b2), (5, mkOwn 1 s.1.length (s.1.flatMap (cint .i64))), (6, .int .i64 s.2)]) (R := fun r => (.exit 2, [(1, .box [.str p0.Name, .sl p0.Params.length (p0.Params.flatMap (cint .i64)), .int .i64 p0.Ret, .sl p0.Blocks.length (p0.Blocks.flatMap (csl cIns)), .int .i64 p0.At]), (3, mkOwn 1 out1.length (out1.flatMap (csl (cint .i64)))), (4, .int .i64 b2), (5, mkOwn 1 r.length (r.flatMap (cint .i64)))])) (fun r h => nomatch h) (fun s => r08_Preds_l20_bok p0 out1 b2 s.1 s.2) s
theorem r08_Preds_l21_bok (p0 : Fun) (out1 : List (List Int)) (b2 : Int) : Sim (r08_Preds_l21_b p0 out1 b2) fun x => fgt [1, 3, 4] (evX (evI T) x16_3 [(1, .box [.str p0.Name, .sl p0.Params.length (p0.Params.flatMap (cint .i64)), .int .i64 p0.Ret, .sl p0.Blocks.length (p0.Blocks.flatMap (csl cIns)), .int .i64 p0.At]), (3, mkOwn 1 out1.length (out1.flatMap (csl (cint .i64)))), (4, .int .i64 b2)]) = some (stpK (fun s => (.norm, [(1, .box [.str p0.Name, .sl p0.Params.length (p0.Params.flatMap (cint .i64)), .int .i64 p0.Ret, .sl p0.Blocks.length (p0.Blocks.flatMap (csl cIns)), .int .i64 p0.At]), (3, mkOwn 1 s.1.length (s.1.flatMap (csl (cint .i64)))), (4, .int .i64 s.2)])) (fun r => (.exit 0, [(3, mkOwn 1 r.length (r.flatMap (csl (cint .i64))))])) x) := by
  unfold r08_Preds_l21_b
  refine sim_if (fun h1 => ?_) (fun h1 => ?_)
  · refine sim_bind (fun l9 h12 => ?_)
    have f13 := r08_Preds_l20_ok p0 out1 b2 ([], 0) _ h12
    dsimp only at f13
    refine sim_bind (fun l_10 h14 => ?_)
    have f15 := app1_cond h14
    try simp only [nz, Nat.reduceLeDiff, Nat.reduceAdd, Nat.reduceMul, Nat.reduceSub] at f15
    have f15a : PV.own 1 (out1.length + 1) (out1.flatMap (csl (cint .i64)) ++ [.sl l9.length (l9.flatMap (cint .i64))]) = .own 1 l_10.length (l_10.flatMap (csl (cint .i64))) := app1_own h14 (csl (cint .i64)) 1
    have f15o := app1_own2 h14
    refine sim_some ?_
    rcases own_cases out1 with rfl | o_out1
    · obtain rfl := app_eq h14
      rcases own_cases l9 with rfl | o_l9
      · try simp only [nz, nzIns, nzFun, f15o] at f13
        all_goals
          refine' (w_fgt (w_seq (w_seq (w_reg (w_cons ?_ (w_cons ?_ (w_cons ?_ (w_cons ?_ (w_cons ?_ w_nil))))) ?_) (w_go (w_condt ?_ w_skip ?_))) (w_go (w_seq (w_block (w_seq (w_reg (w_cons ?_ w_nil) ?_) (w_go (w_seq (w_seq (w_reg (w_cons ?_ w_nil) ?_) (w_go (w_block f13 ?_))) (w_go (w_reg (w_cons ?_ (w_cons ?_ (w_cons ?_ (w_cons ?_ (w_cons ?_ w_nil))))) ?_))))) ?_) (w_go (w_reg (w_cons ?_ (w_cons ?_ (w_cons ?_ w_nil))) ?_))))) ?_)
          all_goals (first | (simp only [nz, rn, nzIns, nzFun, h1, Int.reduceLT, Int.reduceEq, List.contains_cons, List.contains_nil, Option.map_some, Option.map_none, reduceIte, reduceCtorEq, Nat.reduceEqDiff, Nat.reduceLT, Nat.reduceBEq, Nat.reduceAdd, Nat.reduceMul, Nat.reduceLeDiff, Nat.reduceSub, Bool.false_eq_true]; try rfl) | skip)
      · try simp only [nz, nzIns, nzFun, o_l9, f15o] at f13
        all_goals
          refine' (w_fgt (w_seq (w_seq (w_reg (w_cons ?_ (w_cons ?_ (w_cons ?_ (w_cons ?_ (w_cons ?_ w_nil))))) ?_) (w_go (w_condt ?_ w_skip ?_))) (w_go (w_seq (w_block (w_seq (w_reg (w_cons ?_ w_nil) ?_) (w_go (w_seq (w_seq (w_reg (w_cons ?_ w_nil) ?_) (w_go (w_block f13 ?_))) (w_go (w_reg (w_cons ?_ (w_cons ?_ (w_cons ?_ (w_cons ?_ (w_cons ?_ w_nil))))) ?_))))) ?_) (w_go (w_reg (w_cons ?_ (w_cons ?_ (w_cons ?_ w_nil))) ?_))))) ?_)
          all_goals (first | (simp only [nz, rn, nzIns, nzFun, h1, o_l9, Int.reduceLT, Int.reduceEq, List.contains_cons, List.contains_nil, Option.map_some, Option.map_none, reduceIte, reduceCtorEq, Nat.reduceEqDiff, Nat.reduceLT, Nat.reduceBEq, Nat.reduceAdd, Nat.reduceMul, Nat.reduceLeDiff, Nat.reduceSub, Bool.false_eq_true]; try rfl) | skip)
    · rcases own_cases l9 with rfl | o_l9
      · try simp only [nz, nzIns, nzFun, o_out1, f15o] at f13
        try simp only [nz, nzIns, nzFun, o_out1, f15o] at f15a
        all_goals
          refine' (w_fgt (w_seq (w_seq (w_reg (w_cons ?_ (w_cons ?_ (w_cons ?_ (w_cons ?_ (w_cons ?_ w_nil))))) ?_) (w_go (w_condt ?_ w_skip ?_))) (w_go (w_seq (w_block (w_seq (w_reg (w_cons ?_ w_nil) ?_) (w_go (w_seq (w_seq (w_reg (w_cons ?_ w_nil) ?_) (w_go (w_block f13 ?_))) (w_go (w_reg (w_cons ?_ (w_cons ?_ (w_cons ?_ (w_cons ?_ (w_cons ?_ w_nil))))) ?_))))) ?_) (w_go (w_reg (w_cons ?_ (w_cons ?_ (w_cons ?_ w_nil))) ?_))))) ?_)
          all_goals (first | (simp only [nz, rn, nzIns, nzFun, h1, f15, f15a, f15o, o_out1, Int.reduceLT, Int.reduceEq, List.contains_cons, List.contains_nil, Option.map_some, Option.map_none, reduceIte, reduceCtorEq, Nat.reduceEqDiff, Nat.reduceLT, Nat.reduceBEq, Nat.reduceAdd, Nat.reduceMul, Nat.reduceLeDiff, Nat.reduceSub, Bool.false_eq_true]; try rfl) | skip)
      · try simp only [nz, nzIns, nzFun, o_out1, o_l9, f15o] at f13
        all_goals
          refine' (w_fgt (w_seq (w_seq (w_reg (w_cons ?_ (w_cons ?_ (w_cons ?_ (w_cons ?_ (w_cons ?_ w_nil))))) ?_) (w_go (w_condt ?_ w_skip ?_))) (w_go (w_seq (w_block (w_seq (w_reg (w_cons ?_ w_nil) ?_) (w_go (w_seq (w_seq (w_reg (w_cons ?_ w_nil) ?_) (w_go (w_block f13 ?_))) (w_go (w_reg (w_cons ?_ (w_cons ?_ (w_cons ?_ (w_cons ?_ (w_cons ?_ w_nil))))) ?_))))) ?_) (w_go (w_reg (w_cons ?_ (w_cons ?_ (w_cons ?_ w_nil))) ?_))))) ?_)
          all_goals (first | (simp only [nz, rn, nzIns, nzFun, h1, f15, f15a, f15o, o_out1, o_l9, Int.reduceLT, Int.reduceEq, List.contains_cons, List.contains_nil, Option.map_some, Option.map_none, reduceIte, reduceCtorEq, Nat.reduceEqDiff, Nat.reduceLT, Nat.reduceBEq, Nat.reduceAdd, Nat.reduceMul, Nat.reduceLeDiff, Nat.reduceSub, Bool.false_eq_true]; try rfl) | skip)
  · refine sim_some ?_
    refine' (w_fgt (w_seq (w_seq (w_reg (w_cons ?_ (w_cons ?_ (w_cons ?_ (w_cons ?_ (w_cons ?_ w_nil))))) ?_) (w_go (w_condf ?_ (w_exit ?_) ?_))) w_gox) ?_)
    all_goals (first | (simp only [nz, rn, nzIns, nzFun, h1, Int.reduceLT, Int.reduceEq, List.contains_cons, List.contains_nil, Option.map_some, Option.map_none, reduceIte, reduceCtorEq, Nat.reduceEqDiff, Nat.reduceLT, Nat.reduceBEq, Nat.reduceAdd, Nat.reduceMul, Nat.reduceLeDiff, Nat.reduceSub, Bool.false_eq_true]; try rfl) | skip)
theorem r08_Preds_l21_ok (p0 : Fun) (s : List (List Int) × Int) : Sim (r08_Preds_l21 p0 s) fun r => evX (evI T) (.loop x16_3 [1, 3, 4]) [(1, .box [.str p0.Name, .sl p0.Params.length (p0.Params.flatMap (cint .i64)), .int .i64 p0.Ret, .sl p0.Blocks.length (p0.Blocks.flatMap (csl cIns)), .int .i64 p0.At]), (3, mkOwn 1 s.1.length (s.1.flatMap (csl (cint .i64)))), (4, .int .i64 s.2)] = some (.exit 0, [(3, mkOwn 1 r.length (r.flatMap (csl (cint .i64))))]) := by
  unfold r08_Preds_l21
  exact loop_rule (C := evI T) (b := x16_3) (ks := [1, 3, 4]) (σ := List (List Int) × Int) (ρ := List (List Int)) (body := fun s => r08_Preds_l21_b p0 s.1 s.2) (E := fun s => [(1, .box [.str p0.Name, .sl p0.Params.length (p0.Params.flatMap (cint .i64)), .int .i64 p0.Ret, .sl p0.Blocks.length (p0.Blocks.flatMap (csl cIns)), .int .i64 p0.At]), (3, mkOwn 1 s.1.length (s.1.flatMap (csl (cint .i64)))), (4, .int .i64 s.2)]) (R := fun r => (.exit 0, [(3, mkOwn 1 r.length (r.flatMap (csl (cint .i64))))])) (fun r h => nomatch h) (fun s => r08_Preds_l21_bok p0 s.1 s.2) s
theorem r08_Preds_ok (p0 : Fun) : Sim (r08_Preds p0) fun r => evI T 16 [.agg [.str p0.Name, .sl p0.Params.length (p0.Params.flatMap (cint .i64)), .int .i64 p0.Ret, .sl p0.Blocks.length (p0.Blocks.flatMap (csl cIns)), .int .i64 p0.At]] = some (.sl r.length (r.flatMap (csl (cint .i64))), [.none]) := by
  unfold r08_Preds
  refine sim_bind (fun out11 h16 => ?_)
  have f17 := r08_Preds_l21_ok p0 ([], 0) _ h16
  dsimp only at f17
  refine sim_some ?_
  refine evI_ret (x := x16) rfl rfl rfl ?_
  rcases own_cases out11 with rfl | o_out11
  · try simp only [nz, nzIns, nzFun] at f17
    all_goals
      refine' (w_fn rfl rfl (w_seq (w_reg (w_cons ?_ (w_cons ?_ w_nil)) ?_) (w_go (w_seq (w_reg (w_cons ?_ w_nil) ?_) (w_go (w_seq (w_seq (w_reg (w_cons ?_ w_nil) ?_) (w_go (w_block f17 ?_))) (w_go (w_seq (w_reg (w_cons ?_ (w_cons ?_ w_nil)) ?_) (w_go w_ret)))))))) ?_)
      all_goals (first | (simp only [x16, nz, rn, nzIns, nzFun, Int.reduceLT, Int.reduceEq, List.contains_cons, List.contains_nil, Option.map_some, Option.map_none, reduceIte, reduceCtorEq, Nat.reduceEqDiff, Nat.reduceLT, Nat.reduceBEq, Nat.reduceAdd, Nat.reduceMul, Nat.reduceLeDiff, Nat.reduceSub, Bool.false_eq_true]; try rfl) | skip)
  · try simp only [nz, nzIns, nzFun, o_out11] at f17
    all_goals
      refine' (w_fn rfl rfl (w_seq (w_reg (w_cons ?_ (w_cons ?_ w_nil)) ?_) (w_go (w_seq (w_reg (w_cons ?_ w_nil) ?_) (w_go (w_seq (w_seq (w_reg (w_cons ?_ w_nil) ?_) (w_go (w_block f17 ?_))) (w_go (w_seq (w_reg (w_cons ?_ (w_cons ?_ w_nil)) ?_) (w_go w_ret)))))))) ?_)
      all_goals (first | (simp only [x16, nz, rn, nzIns, nzFun, o_out11, Int.reduceLT, Int.reduceEq, List.contains_cons, List.contains_nil, Option.map_some, Option.map_none, reduceIte, reduceCtorEq, Nat.reduceEqDiff, Nat.reduceLT, Nat.reduceBEq, Nat.reduceAdd, Nat.reduceMul, Nat.reduceLeDiff, Nat.reduceSub, Bool.false_eq_true]; try rfl) | skip)
theorem r08_Preds_okN (p0 : Fun) : Sim (r08_Preds p0) fun r => ∀ ws, ws.map normA = [.agg [.str p0.Name, .sl p0.Params.length (p0.Params.flatMap (cint .i64)), .int .i64 p0.Ret, .sl p0.Blocks.length (p0.Blocks.flatMap (csl cIns)), .int .i64 p0.At]] → evI T 16 ws = some (.sl r.length (r.flatMap (csl (cint .i64))), [.none]) := fun r h => evI_okN (x := x16) rfl rfl rfl (r08_Preds_ok p0 r h)
end Go.Ab

/-
  Printed by gen.py.
-/
namespace Go.Ab
open Go
set_option linter.unusedVariables false
set_option linter.unusedSimpArgs false
set_option maxRecDepth 100000
set_option maxHeartbeats 4000000
theorem graph_walk_visit_s1_j4_ok (p0_0 : List (List Int)) (p1 : Int) (rec : (List (List Int)) → (List Bool) → (List Int) → Int → Option (List Bool × List Int)) (hrec : ∀ (p0_0 : List (List Int)) (p0_1 : List Bool) (p0_2 : List Int) (p1 : Int), Sim (rec p0_0 p0_1 p0_2 p1) fun r => ∀ ws, ws.map normA = [.box [.sl p0_0.length (p0_0.flatMap (csl (cint .i64))), mkOwn 1 p0_1.length (p0_1.flatMap cbool), mkOwn 1 p0_2.length (p0_2.flatMap (cint .i64))], .int .i64 p1] → evI T 34 ws = some (.tup [], [.box [.sl p0_0.length (p0_0.flatMap (csl (cint .i64))), mkOwn 1 r.1.length (r.1.flatMap cbool), mkOwn 1 r.2.length (r.2.flatMap (cint .i64))], .none])) (x_2 : List Int) (w3 : List Bool) (w4 : List Int) (v5 : Int) (x_6 : Int) (x_7 : Bool) : Sim (graph_walk_visit_s1_j4 p0_0 p1 rec x_2 w3 w4 v5 x_6 x_7) fun r => evX (evI T) x34_1 [(0, .box [.sl p0_0.length (p0_0.flatMap (csl (cint .i64))), mkOwn 1 w3.length (w3.flatMap cbool), mkOwn 1 w4.length (w4.flatMap (cint .i64))]), (1, .int .i64 p1), (5, .int .i64 x_6), (18, .sl x_2.length (x_2.flatMap (cint .i64))), (19, .int .i64 ((x_2.length : Int))), (20, .int .i64 v5), (31, .bool ((!x_7)))] = some (.norm, [(0, .box [.sl p0_0.length (p0_0.flatMap (csl (cint .i64))), mkOwn 1 r.1.length (r.1.flatMap cbool), mkOwn 1 r.2.length (r.2.flatMap (cint .i64))]), (1, .int .i64 p1), (18, .sl x_2.length (x_2.flatMap (cint .i64))), (19, .int .i64 ((x_2.length : Int))), (20, .int .i64 v5)]) := by
  unfold graph_walk_visit_s1_j4
  refine sim_if (fun h14 => ?_) (fun h14 => ?_)
  · refine sim_bind (fun qh15 h15 => ?_)
    obtain ⟨r8a, r8b⟩ := qh15
    dsimp only
    have f16 := hrec p0_0 w3 w4 x_6 _ h15
    dsimp only at f16
    refine sim_some ?_
    rcases own_cases w3 with rfl | o_w3
    · rcases own_cases w4 with rfl | o_w4
      · rcases own_cases r8a with rfl | o_r8a
        · rcases own_cases r8b with rfl | o_r8b
          · try simp only [nz] at f16
            all_goals
              refine' (w_condt ?_ (w_reg (w_cons ?_ (w_cons ?_ (w_cons ?_ w_nil))) ?_) ?_)
              all_goals (first | (simp only [nz, rn, h14, f16, Int.reduceLT, Int.reduceEq, List.contains_cons, List.contains_nil, Option.map_some, Option.map_none, reduceIte, reduceCtorEq, Nat.reduceEqDiff, Nat.reduceLT, Nat.reduceBEq, Nat.reduceAdd, Nat.reduceMul, Nat.reduceLeDiff, Nat.reduceSub, Bool.false_eq_true]; try rfl) | skip)
          · try simp only [nz, o_r8b] at f16
            all_goals
              refine' (w_condt ?_ (w_reg (w_cons ?_ (w_cons ?_ (w_cons ?_ w_nil))) ?_) ?_)
              all_goals (first | (simp only [nz, rn, h14, f16, o_r8b, Int.reduceLT, Int.reduceEq, List.contains_cons, List.contains_nil, Option.map_some, Option.map_none, reduceIte, reduceCtorEq, Nat.reduceEqDiff, Nat.reduceLT, Nat.reduceBEq, Nat.reduceAdd, Nat.reduceMul, Nat.reduceLeDiff, Nat.reduceSub, Bool.false_eq_true]; try rfl) | skip)
        · rcases own_cases r8b with rfl | o_r8b
          · try simp only [nz, o_r8a] at f16
            all_goals
              refine' (w_condt ?_ (w_reg (w_cons ?_ (w_cons ?_ (w_cons ?_ w_nil))) ?_) ?_)
              all_goals (first | (simp only [nz, rn, h14, f16, o_r8a, Int.reduceLT, Int.reduceEq, List.contains_cons, List.contains_nil, Option.map_some, Option.map_none, reduceIte, reduceCtorEq, Nat.reduceEqDiff, Nat.reduceLT, Nat.reduceBEq, Nat.reduceAdd, Nat.reduceMul, Nat.reduceLeDiff, Nat.reduceSub, Bool.false_eq_true]; try rfl) | skip)
          · try simp only [nz, o_r8a, o_r8b] at f16
            all_goals
              refine' (w_condt ?_ (w_reg (w_cons ?_ (w_cons ?_ (w_cons ?_ w_nil))) ?_) ?_)
              all_goals (first | (simp only [nz, rn, h14, f16, o_r8a, o_r8b, Int.reduceLT, Int.reduceEq, List.contains_cons, List.contains_nil, Option.map_some, Option.map_none, reduceIte, reduceCtorEq, Nat.reduceEqDiff, Nat.reduceLT, Nat.reduceBEq, Nat.reduceAdd, Nat.reduceMul, Nat.reduceLeDiff, Nat.reduceSub, Bool.false_eq_true]; try rfl) | skip)
      · rcases own_cases r8a with rfl | o_r8a
        · rcases own_cases r8b with rfl | o_r8b
          · try simp only [nz, o_w4] at f16
            all_goals
              refine' (w_condt ?_ (w_reg (w_cons ?_ (w_cons ?_ (w_cons ?_ w_nil))) ?_) ?_)
              all_goals (first | (simp only [nz, rn, h14, f16, o_w4, Int.reduceLT, Int.reduceEq, List.contains_cons, List.contains_nil, Option.map_some, Option.map_none, reduceIte, reduceCtorEq, Nat.reduceEqDiff, Nat.reduceLT, Nat.reduceBEq, Nat.reduceAdd, Nat.reduceMul, Nat.reduceLeDiff, Nat.reduceSub, Bool.false_eq_true]; try rfl) | skip)
          · try simp only [nz, o_w4, o_r8b] at f16
            all_goals
              refine' (w_condt ?_ (w_reg (w_cons ?_ (w_cons ?_ (w_cons ?_ w_nil))) ?_) ?_)
              all_goals (first | (simp only [nz, rn, h14, f16, o_w4, o_r8b, Int.reduceLT, Int.reduceEq, List.contains_cons, List.contains_nil, Option.map_some, Option.map_none, reduceIte, reduceCtorEq, Nat.reduceEqDiff, Nat.reduceLT, Nat.reduceBEq, Nat.reduceAdd, Nat.reduceMul, Nat.reduceLeDiff, Nat.reduceSub, Bool.false_eq_true]; try rfl) | skip)
        · rcases own_cases r8b with rfl | o_r8b
          · try simp only [nz, o_w4, o_r8a] at f16
            all_goals
              refine' (w_condt ?_ (w_reg (w_cons ?_ (w_cons ?_ (w_cons ?_ w_nil))) ?_) ?_)
              all_goals (first | (simp only [nz, rn, h14, f16, o_w4, o_r8a, Int.reduceLT, Int.reduceEq, List.contains_cons, List.contains_nil, Option.map_some, Option.map_none, reduceIte, reduceCtorEq, Nat.reduceEqDiff, Nat.reduceLT, Nat.reduceBEq, Nat.reduceAdd, Nat.reduceMul, Nat.reduceLeDiff, Nat.reduceSub, Bool.false_eq_true]; try rfl) | skip)
          · try simp only [nz, o_w4, o_r8a, o_r8b] at f16
            all_goals
              refine' (w_condt ?_ (w_reg (w_cons ?_ (w_cons ?_ (w_cons ?_ w_nil))) ?_) ?_)
              all_goals (first | (simp only [nz, rn, h14, f16, o_w4, o_r8a, o_r8b, Int.reduceLT, Int.reduceEq, List.contains_cons, List.contains_nil, Option.map_some, Option.map_none, reduceIte, reduceCtorEq, Nat.reduceEqDiff, Nat.reduceLT, Nat.reduceBEq, Nat.reduceAdd, Nat.reduceMul, Nat.reduceLeDiff, Nat.reduceSub, Bool.false_eq_true]; try rfl) | skip)
    · rcases own_cases w4 with rfl | o_w4
      · rcases own_cases r8a with rfl | o_r8a
        · rcases own_cases r8b with rfl | o_r8b
          · try simp only [nz, o_w3] at f16
            all_goals
              refine' (w_condt ?_ (w_reg (w_cons ?_ (w_cons ?_ (w_cons ?_ w_nil))) ?_) ?_)
              all_goals (first | (simp only [nz, rn, h14, f16, o_w3, Int.reduceLT, Int.reduceEq, List.contains_cons, List.contains_nil, Option.map_some, Option.map_none, reduceIte, reduceCtorEq, Nat.reduceEqDiff, Nat.reduceLT, Nat.reduceBEq, Nat.reduceAdd, Nat.reduceMul, Nat.reduceLeDiff, Nat.reduceSub, Bool.false_eq_true]; try rfl) | skip)
          · try simp only [nz, o_w3, o_r8b] at f16
            all_goals
              refine' (w_condt ?_ (w_reg (w_cons ?_ (w_cons ?_ (w_cons ?_ w_nil))) ?_) ?_)
              all_goals (first | (simp only [nz, rn, h14, f16, o_w3, o_r8b, Int.reduceLT, Int.reduceEq, List.contains_cons, List.contains_nil, Option.map_some, Option.map_none, reduceIte, reduceCtorEq, Nat.reduceEqDiff, Nat.reduceLT, Nat.reduceBEq, Nat.reduceAdd, Nat.reduceMul, Nat.reduceLeDiff, Nat.reduceSub, Bool.false_eq_true]; try rfl) | skip)
        · rcases own_cases r8b with rfl | o_r8b
          · try simp only [nz, o_w3, o_r8a] at f16
            all_goals
              refine' (w_condt ?_ (w_reg (w_cons ?_ (w_cons ?_ (w_cons ?_ w_nil))) ?_) ?_)
              all_goals (first | (simp only [nz, rn, h14, f16, o_w3, o_r8a, Int.reduceLT, Int.reduceEq, List.contains_cons, List.contains_nil, Option.map_some, Option.map_none, reduceIte, reduceCtorEq, Nat.reduceEqDiff, Nat.reduceLT, Nat.reduceBEq, Nat.reduceAdd, Nat.reduceMul, Nat.reduceLeDiff, Nat.reduceSub, Bool.false_eq_true]; try rfl) | skip)
          · try simp only [nz, o_w3, o_r8a, o_r8b] at f16
            all_goals
              refine' (w_condt ?_ (w_reg (w_cons ?_ (w_cons ?_ (w_cons ?_ w_nil))) ?_) ?_)
              all_goals (first | (simp only [nz, rn, h14, f16, o_w3, o_r8a, o_r8b, Int.reduceLT, Int.reduceEq, List.contains_cons, List.contains_nil, Option.map_some, Option.map_none, reduceIte, reduceCtorEq, Nat.reduceEqDiff, Nat.reduceLT, Nat.reduceBEq, Nat.reduceAdd, Nat.reduceMul, Nat.reduceLeDiff, Nat.reduceSub, Bool.false_eq_true]; try rfl) | skip)
      · rcases own_cases r8a with rfl | o_r8a
        · rcases own_cases r8b with rfl | o_r8b
          · try simp only [nz, o_w3, o_w4] at f16
            all_goals
              refine' (w_condt ?_ (w_reg (w_cons ?_ (w_cons ?_ (w_cons ?_ w_nil))) ?_) ?_)
              all_goals (first | (simp only [nz, rn, h14, f16, o_w3, o_w4, Int.reduceLT, Int.reduceEq, List.contains_cons, List.contains_nil, Option.map_some, Option.map_none, reduceIte, reduceCtorEq, Nat.reduceEqDiff, Nat.reduceLT, Nat.reduceBEq, Nat.reduceAdd, Nat.reduceMul, Nat.reduceLeDiff, Nat.reduceSub, Bool.false_eq_true]; try rfl) | skip)
          · try simp only [nz, o_w3, o_w4, o_r8b] at f16
            all_goals
              refine' (w_condt ?_ (w_reg (w_cons ?_ (w_cons ?_ (w_cons ?_ w_nil))) ?_) ?_)
              all_goals (first | (simp only [nz, rn, h14, f16, o_w3, o_w4, o_r8b, Int.reduceLT, Int.reduceEq, List.contains_cons, List.contains_nil, Option.map_some, Option.map_none, reduceIte, reduceCtorEq, Nat.reduceEqDiff, Nat.reduceLT, Nat.reduceBEq, Nat.reduceAdd, Nat.reduceMul, Nat.reduceLeDiff, Nat.reduceSub, Bool.false_eq_true]; try rfl) | skip)
        · rcases own_cases r8b with rfl | o_r8b
          · try simp only [nz, o_w3, o_w4, o_r8a] at f16
            all_goals
              refine' (w_condt ?_ (w_reg (w_cons ?_ (w_cons ?_ (w_cons ?_ w_nil))) ?_) ?_)
              all_goals (first | (simp only [nz, rn, h14, f16, o_w3, o_w4, o_r8a, Int.reduceLT, Int.reduceEq, List.contains_cons, List.contains_nil, Option.map_some, Option.map_none, reduceIte, reduceCtorEq, Nat.reduceEqDiff, Nat.reduceLT, Nat.reduceBEq, Nat.reduceAdd, Nat.reduceMul, Nat.reduceLeDiff, Nat.reduceSub, Bool.false_eq_true]; try rfl) | skip)
          · try simp only [nz, o_w3, o_w4, o_r8a, o_r8b] at f16
            all_goals
              refine' (w_condt ?_ (w_reg (w_cons ?_ (w_cons ?_ (w_cons ?_ w_nil))) ?_) ?_)
              all_goals (first | (simp only [nz, rn, h14, f16, o_w3, o_w4, o_r8a, o_r8b, Int.reduceLT, Int.reduceEq, List.contains_cons, List.contains_nil, Option.map_some, Option.map_none, reduceIte, reduceCtorEq, Nat.reduceEqDiff, Nat.reduceLT, Nat.reduceBEq, Nat.reduceAdd, Nat.reduceMul, Nat.reduceLeDiff, Nat.reduceSub, Bool.false_eq_true]; try rfl) | skip)
  · refine sim_some ?_
    refine' (w_condf ?_ w_skip ?_)
    all_goals (first | (simp only [nz, rn, h14, Int.reduceLT, Int.reduceEq, List.contains_cons, List.contains_nil, Option.map_some, Option.map_none, reduceIte, reduceCtorEq, Nat.reduceEqDiff, Nat.reduceLT, Nat.reduceBEq, Nat.reduceAdd, Nat.reduceMul, Nat.reduceLeDiff, Nat.reduceSub, Bool.false_eq_true]; try rfl) | skip)
theorem graph_walk_visit_s1_l5_bok (p0_0 : List (List Int)) (p1 : Int) (rec : (List (List Int)) → (List Bool) → (List Int) → Int → Option (List Bool × List Int)) (hrec : ∀ (p0_0 : List (List Int)) (p0_1 : List Bool) (p0_2 : List Int) (p1 : Int), Sim (rec p0_0 p0_1 p0_2 p1) fun r => ∀ ws, ws.map normA = [.box [.sl p0_0.length (p0_0.flatMap (csl (cint .i64))), mkOwn 1 p0_1.length (p0_1.flatMap cbool), mkOwn 1 p0_2.length (p0_2.flatMap (cint .i64))], .int .i64 p1] → evI T 34 ws = some (.tup [], [.box [.sl p0_0.length (p0_0.flatMap (csl (cint .i64))), mkOwn 1 r.1.length (r.1.flatMap cbool), mkOwn 1 r.2.length (r.2.flatMap (cint .i64))], .none])) (x_2 : List Int) (w3 : List Bool) (w4 : List Int) (v5 : Int) : Sim (graph_walk_visit_s1_l5_b p0_0 p1 rec x_2 w3 w4 v5) fun x => fgt [0, 1, 18, 19, 20] (evX (evI T) x34_2 [(0, .box [.sl p0_0.length (p0_0.flatMap (csl (cint .i64))), mkOwn 1 w3.length (w3.flatMap cbool), mkOwn 1 w4.length (w4.flatMap (cint .i64))]), (1, .int .i64 p1), (18, .sl x_2.length (x_2.flatMap (cint .i64))), (19, .int .i64 ((x_2.length : Int))), (20, .int .i64 v5)]) = some (stpK (fun s => (.norm, [(0, .box [.sl p0_0.length (p0_0.flatMap (csl (cint .i64))), mkOwn 1 s.1.length (s.1.flatMap cbool), mkOwn 1 s.2.1.length (s.2.1.flatMap (cint .i64))]), (1, .int .i64 p1), (18, .sl x_2.length (x_2.flatMap (cint .i64))), (19, .int .i64 ((x_2.length : Int))), (20, .int .i64 s.2.2)])) (fun r => (.exit 0, [(0, .box [.sl p0_0.length (p0_0.flatMap (csl (cint .i64))), mkOwn 1 r.1.length (r.1.flatMap cbool), mkOwn 1 r.2.length (r.2.flatMap (cint .i64))]), (1, .int .i64 p1)])) x) := by
  unfold graph_walk_visit_s1_l5_b
  refine sim_if (fun h7 => ?_) (fun h7 => ?_)
  · refine sim_bind (fun x_6 h8 => ?_)
    have f9 := ix_ok h8
    have f9o := ix_own2 h8
    have f10 := ix_cells (sz_int .i64) h8
    simp only [nz] at f10
    refine sim_bind (fun x_7 h11 => ?_)
    have f12 := ix_ok h11
    have f12o := ix_own2 h11
    have f13 : (w3.flatMap cbool)[x_6.toNat * 1]? = some (.bool x_7) := ix_cell0 sz_bool h11 rfl
    have f13a : (x_6.toNat * 1 + 1 ≤ w3.length * 1) = True := ix_le0 sz_bool h11 (by decide)
    refine sim_bind (fun qh17 h17 => ?_)
    obtain ⟨w9, w10⟩ := qh17
    dsimp only
    have f18 := graph_walk_visit_s1_j4_ok p0_0 p1 rec hrec x_2 w3 w4 v5 x_6 x_7 _ h17
    dsimp only at f18
    refine sim_some ?_
    try simp only [nz, f9o, f12o] at f18
    all_goals
      refine' (w_fgt (w_seq (w_reg (w_cons ?_ w_nil) ?_) (w_go (w_seq (w_condt ?_ w_skip ?_) (w_go (w_seq (w_block (w_seq (w_reg (w_cons ?_ (w_cons ?_ (w_cons ?_ w_nil))) ?_) (w_go (w_seq (w_reg (w_cons ?_ (w_cons ?_ (w_cons ?_ (w_cons ?_ (w_cons ?_ (w_cons ?_ (w_cons ?_ (w_cons ?_ w_nil)))))))) ?_) (w_go f18)))) ?_) (w_go (w_reg (w_cons ?_ (w_cons ?_ w_nil)) ?_))))))) ?_)
      all_goals (first | (simp only [nz, rn, h7, f9, f9o, f10, f12, f12o, f13, f13a, Int.reduceLT, Int.reduceEq, List.contains_cons, List.contains_nil, Option.map_some, Option.map_none, reduceIte, reduceCtorEq, Nat.reduceEqDiff, Nat.reduceLT, Nat.reduceBEq, Nat.reduceAdd, Nat.reduceMul, Nat.reduceLeDiff, Nat.reduceSub, Bool.false_eq_true]; try rfl) | skip)
  · refine sim_some ?_
    refine' (w_fgt (w_seq (w_reg (w_cons ?_ w_nil) ?_) (w_go (w_seq (w_condf ?_ (w_exit ?_) ?_) w_gox))) ?_)
    all_goals (first | (simp only [nz, rn, h7, Int.reduceLT, Int.reduceEq, List.contains_cons, List.contains_nil, Option.map_some, Option.map_none, reduceIte, reduceCtorEq, Nat.reduceEqDiff, Nat.reduceLT, Nat.reduceBEq, Nat.reduceAdd, Nat.reduceMul, Nat.reduceLeDiff, Nat.reduceSub, Bool.false_eq_true]; try rfl) | skip)
theorem graph_walk_visit_s1_l5_ok (p0_0 : List (List Int)) (p1 : Int) (rec : (List (List Int)) → (List Bool) → (List Int) → Int → Option (List Bool × List Int)) (hrec : ∀ (p0_0 : List (List Int)) (p0_1 : List Bool) (p0_2 : List Int) (p1 : Int), Sim (rec p0_0 p0_1 p0_2 p1) fun r => ∀ ws, ws.map normA = [.box [.sl p0_0.length (p0_0.flatMap (csl (cint .i64))), mkOwn 1 p0_1.length (p0_1.flatMap cbool), mkOwn 1 p0_2.length (p0_2.flatMap (cint .i64))], .int .i64 p1] → evI T 34 ws = some (.tup [], [.box [.sl p0_0.length (p0_0.flatMap (csl (cint .i64))), mkOwn 1 r.1.length (r.1.flatMap cbool), mkOwn 1 r.2.length (r.2.flatMap (cint .i64))], .none])) (x_2 : List Int) (s : List Bool × List Int × Int) : Sim (graph_walk_visit_s1_l5 p0_0 p1 rec x_2 s) fun r => evX (evI T) (.loop x34_2 [0, 1, 18, 19, 20]) [(0, .box [.sl p0_0.length (p0_0.flatMap (csl (cint .i64))), mkOwn 1 s.1.length (s.1.flatMap cbool), mkOwn 1 s.2.1.length (s.2.1.flatMap (cint .i64))]), (1, .int .i64 p1), (18, .sl x_2.length (x_2.flatMap (cint .i64))), (19, .int .i64 ((x_2.length : Int))), (20, .int .i64 s.2.2)] = some (.exit 0, [(0, .box [.sl p0_0.length (p0_0.flatMap (csl (cint .i64))), mkOwn 1 r.1.length (r.1.flatMap cbool), mkOwn 1 r.2.length (r.2.flatMap (cint .i64))]), (1, .int .i64 p1)]) := by
  unfold graph_walk_visit_s1_l5
  exact loop_rule (C := evI T) (b := x34_2) (ks := [0, 1, 18, 19, 20]) (σ := List Bool × List Int × Int) (ρ := List Bool × List Int) (body := fun s => graph_walk_visit_s1_l5_b p0_0 p1 rec x_2 s.1 s.2.1 s.2.2) (E := fun s => [(0, .box [.sl p0_0.length (p0_0.flatMap (csl (cint .i64))), mkOwn 1 s.1.length (s.1.flatMap cbool), mkOwn 1 s.2.1.length (s.2.1.flatMap (cint .i64))]), (1, .int .i64 p1), (18, .sl x_2.length (x_2.flatMap (cint .i64))), (19, .int .i64 ((x_2.length : Int))), (20, .int .i64 s.2.2)]) (R := fun r => (.exit 0, [(0, .box [.sl p0_0.length (p0_0.flatMap (csl (cint .i64))), mkOwn 1 r.1.length (r.1.flatMap cbool), mkOwn 1 r.2.length (r.2.flatMap (cint .i64))]), (1, .int .i64 p1)])) (fun r h => nomatch h) (fun s => graph_walk_visit_s1_l5_bok p0_0 p1 rec hrec x_2 s.1 s.2.1 s.2.2) s
theorem graph_walk_visit_s1_r_ok (rec : (List (List Int)) → (List Bool) → (List Int) → Int → Option (List Bool × List Int)) (hrec : ∀ (p0_0 : List (List Int)) (p0_1 : List Bool) (p0_2 : List Int) (p1 : Int), Sim (rec p0_0 p0_1 p0_2 p1) fun r => ∀ ws, ws.map normA = [.box [.sl p0_0.length (p0_0.flatMap (csl (cint .i64))), mkOwn 1 p0_1.length (p0_1.flatMap cbool), mkOwn 1 p0_2.length (p0_2.flatMap (cint .i64))], .int .i64 p1] → evI T 34 ws = some (.tup [], [.box [.sl p0_0.length (p0_0.flatMap (csl (cint .i64))), mkOwn 1 r.1.length (r.1.flatMap cbool), mkOwn 1 r.2.length (r.2.flatMap (cint .i64))], .none])) (p0_0 : List (List Int)) (p0_1 : List Bool) (p0_2 : List Int) (p1 : Int) : Sim (graph_walk_visit_s1_r rec p0_0 p0_1 p0_2 p1) fun r => evI T 34 [.box [.sl p0_0.length (p0_0.flatMap (csl (cint .i64))), mkOwn 1 p0_1.length (p0_1.flatMap cbool), mkOwn 1 p0_2.length (p0_2.flatMap (cint .i64))], .int .i64 p1] = some (.tup [], [.box [.sl p0_0.length (p0_0.flatMap (csl (cint .i64))), mkOwn 1 r.1.length (r.1.flatMap cbool), mkOwn 1 r.2.length (r.2.flatMap (cint .i64))], .none]) := by
  unfold graph_walk_visit_s1_r
  refine sim_bind (fun x_1 h1 => ?_)
  have f2 := ix_ok h1
  have f2o := ix_own2 h1
  have f3 : setCells (p0_1.flatMap cbool) (p1.toNat * 1) [.bool true] = (p0_1.set p1.toNat true).flatMap cbool := ix_set sz_bool h1 _
  have f3a := ix_le sz_bool h1
  refine sim_bind (fun x_2 h4 => ?_)
  have f5 := ix_ok h4
  have f5o := ix_own2 h4
  have f6 := ix_cells (sz_sl (cint .i64)) h4
  simp only [nz] at f6
  refine sim_bind (fun qh19 h19 => ?_)
  obtain ⟨w11, w12⟩ := qh19
  dsimp only
  have f20 := graph_walk_visit_s1_l5_ok p0_0 p1 rec hrec x_2 (p0_1.set p1.toNat true, p0_2, 0) _ h19
  dsimp only at f20
  refine sim_bind (fun l_13 h21 => ?_)
  have f22 := app1_cond h21
  try simp only [nz, Nat.reduceLeDiff, Nat.reduceAdd, Nat.reduceMul, Nat.reduceSub] at f22
  have f22a : PV.own 1 (w12.length + 1) (w12.flatMap (cint .i64) ++ [.int .i64 p1]) = .own 1 l_13.length (l_13.flatMap (cint .i64)) := app1_own h21 (cint .i64) 1
  have f22o := app1_own2 h21
  refine sim_some ?_
  refine evI_ret (x := x34) rfl rfl rfl ?_
  rcases own_cases w12 with rfl | o_w12
  · obtain rfl := app_eq h21
    rcases own_cases w11 with rfl | o_w11
    · try simp only [nz, f2o, f5o, f22o] at f20
      all_goals
        refine' (w_fn rfl rfl (w_seq (w_reg (w_cons ?_ (w_cons ?_ (w_cons ?_ (w_cons ?_ (w_cons ?_ (w_cons ?_ (w_cons ?_ w_nil))))))) ?_) (w_go (w_seq (w_seq (w_reg (w_cons ?_ (w_cons ?_ (w_cons ?_ (w_cons ?_ (w_cons ?_ (w_cons ?_ (w_cons ?_ (w_cons ?_ (w_cons ?_ w_nil))))))))) ?_) (w_go (w_block f20 ?_))) (w_go (w_reg (w_cons ?_ (w_cons ?_ (w_cons ?_ (w_cons ?_ (w_cons ?_ (w_cons ?_ (w_cons ?_ (w_cons ?_ (w_cons ?_ (w_cons ?_ (w_cons ?_ w_nil))))))))))) ?_))))) ?_)
        all_goals (first | (simp only [x34, nz, rn, f2, f2o, f3, f3a, f5, f5o, f6, Int.reduceLT, Int.reduceEq, List.contains_cons, List.contains_nil, Option.map_some, Option.map_none, reduceIte, reduceCtorEq, Nat.reduceEqDiff, Nat.reduceLT, Nat.reduceBEq, Nat.reduceAdd, Nat.reduceMul, Nat.reduceLeDiff, Nat.reduceSub, Bool.false_eq_true]; try rfl) | skip)
    · try simp only [nz, o_w11, f2o, f5o, f22o] at f20
      all_goals
        refine' (w_fn rfl rfl (w_seq (w_reg (w_cons ?_ (w_cons ?_ (w_cons ?_ (w_cons ?_ (w_cons ?_ (w_cons ?_ (w_cons ?_ w_nil))))))) ?_) (w_go (w_seq (w_seq (w_reg (w_cons ?_ (w_cons ?_ (w_cons ?_ (w_cons ?_ (w_cons ?_ (w_cons ?_ (w_cons ?_ (w_cons ?_ (w_cons ?_ w_nil))))))))) ?_) (w_go (w_block f20 ?_))) (w_go (w_reg (w_cons ?_ (w_cons ?_ (w_cons ?_ (w_cons ?_ (w_cons ?_ (w_cons ?_ (w_cons ?_ (w_cons ?_ (w_cons ?_ (w_cons ?_ (w_cons ?_ w_nil))))))))))) ?_))))) ?_)
        all_goals (first | (simp only [x34, nz, rn, f2, f2o, f3, f3a, f5, f5o, f6, o_w11, Int.reduceLT, Int.reduceEq, List.contains_cons, List.contains_nil, Option.map_some, Option.map_none, reduceIte, reduceCtorEq, Nat.reduceEqDiff, Nat.reduceLT, Nat.reduceBEq, Nat.reduceAdd, Nat.reduceMul, Nat.reduceLeDiff, Nat.reduceSub, Bool.false_eq_true]; try rfl) | skip)
  · rcases own_cases w11 with rfl | o_w11
    · try simp only [nz, o_w12, f2o, f5o, f22o] at f20
      try simp only [nz, o_w12, f2o, f5o, f22o] at f22a
      all_goals
        refine' (w_fn rfl rfl (w_seq (w_reg (w_cons ?_ (w_cons ?_ (w_cons ?_ (w_cons ?_ (w_cons ?_ (w_cons ?_ (w_cons ?_ w_nil))))))) ?_) (w_go (w_seq (w_seq (w_reg (w_cons ?_ (w_cons ?_ (w_cons ?_ (w_cons ?_ (w_cons ?_ (w_cons ?_ (w_cons ?_ (w_cons ?_ (w_cons ?_ w_nil))))))))) ?_) (w_go (w_block f20 ?_))) (w_go (w_reg (w_cons ?_ (w_cons ?_ (w_cons ?_ (w_cons ?_ (w_cons ?_ (w_cons ?_ (w_cons ?_ (w_cons ?_ (w_cons ?_ (w_cons ?_ (w_cons ?_ w_nil))))))))))) ?_))))) ?_)
        all_goals (first | (simp only [x34, nz, rn, f2, f2o, f3, f3a, f5, f5o, f6, f22, f22a, f22o, o_w12, Int.reduceLT, Int.reduceEq, List.contains_cons, List.contains_nil, Option.map_some, Option.map_none, reduceIte, reduceCtorEq, Nat.reduceEqDiff, Nat.reduceLT, Nat.reduceBEq, Nat.reduceAdd, Nat.reduceMul, Nat.reduceLeDiff, Nat.reduceSub, Bool.false_eq_true]; try rfl) | skip)
    · try simp only [nz, o_w12, o_w11, f2o, f5o, f22o] at f20
      all_goals
        refine' (w_fn rfl rfl (w_seq (w_reg (w_cons ?_ (w_cons ?_ (w_cons ?_ (w_cons ?_ (w_cons ?_ (w_cons ?_ (w_cons ?_ w_nil))))))) ?_) (w_go (w_seq (w_seq (w_reg (w_cons ?_ (w_cons ?_ (w_cons ?_ (w_cons ?_ (w_cons ?_ (w_cons ?_ (w_cons ?_ (w_cons ?_ (w_cons ?_ w_nil))))))))) ?_) (w_go (w_block f20 ?_))) (w_go (w_reg (w_cons ?_ (w_cons ?_ (w_cons ?_ (w_cons ?_ (w_cons ?_ (w_cons ?_ (w_cons ?_ (w_cons ?_ (w_cons ?_ (w_cons ?_ (w_cons ?_ w_nil))))))))))) ?_))))) ?_)
        all_goals (first | (simp only [x34, nz, rn, f2, f2o, f3, f3a, f5, f5o, f6, f22, f22a, f22o, o_w12, o_w11, Int.reduceLT, Int.reduceEq, List.contains_cons, List.contains_nil, Option.map_some, Option.map_none, reduceIte, reduceCtorEq, Nat.reduceEqDiff, Nat.reduceLT, Nat.reduceBEq, Nat.reduceAdd, Nat.reduceMul, Nat.reduceLeDiff, Nat.reduceSub, Bool.false_eq_true]; try rfl) | skip)
theorem graph_walk_visit_s1_nok : ∀ (n : Nat) (p0_0 : List (List Int)) (p0_1 : List Bool) (p0_2 : List Int) (p1 : Int), Sim (graph_walk_visit_s1_n n p0_0 p0_1 p0_2 p1) fun r => ∀ ws, ws.map normA = [.box [.sl p0_0.length (p0_0.flatMap (csl (cint .i64))), mkOwn 1 p0_1.length (p0_1.flatMap cbool), mkOwn 1 p0_2.length (p0_2.flatMap (cint .i64))], .int .i64 p1] → evI T 34 ws = some (.tup [], [.box [.sl p0_0.length (p0_0.flatMap (csl (cint .i64))), mkOwn 1 r.1.length (r.1.flatMap cbool), mkOwn 1 r.2.length (r.2.flatMap (cint .i64))], .none])
  | 0, _, _, _, _ => sim_none
  | n + 1, p0_0, p0_1, p0_2, p1 => fun r h => evI_okN (x := x34) rfl rfl rfl (graph_walk_visit_s1_r_ok (graph_walk_visit_s1_n n) (graph_walk_visit_s1_nok n) p0_0 p0_1 p0_2 p1 r h)
theorem graph_walk_visit_s1_okN (p0_0 : List (List Int)) (p0_1 : List Bool) (p0_2 : List Int) (p1 : Int) : Sim (graph_walk_visit_s1 p0_0 p0_1 p0_2 p1) fun r => ∀ ws, ws.map normA = [.box [.sl p0_0.length (p0_0.flatMap (csl (cint .i64))), mkOwn 1 p0_1.length (p0_1.flatMap cbool), mkOwn 1 p0_2.length (p0_2.flatMap (cint .i64))], .int .i64 p1] → evI T 34 ws = some (.tup [], [.box [.sl p0_0.length (p0_0.flatMap (csl (cint .i64))), mkOwn 1 r.1.length (r.1.flatMap cbool), mkOwn 1 r.2.length (r.2.flatMap (cint .i64))], .none]) := sim_lim fun n => graph_walk_visit_s1_nok n p0_0 p0_1 p0_2 p1
end Go.Ab

/-
  Printed by gen.py.
-/
namespace Go.Ab
open Go
set_option linter.unusedVariables false
set_option linter.unusedSimpArgs false
set_option maxRecDepth 100000
set_option maxHeartbeats 4000000
theorem graph_Order_ok (p0 : Fun) : Sim (graph_Order p0) fun r => evI T 18 [.agg [.str p0.Name, .sl p0.Params.length (p0.Params.flatMap (cint .i64)), .int .i64 p0.Ret, .sl p0.Blocks.length (p0.Blocks.flatMap (csl cIns)), .int .i64 p0.At]] = some (.sl r.length (r.flatMap (cint .i64)), [.none]) := by
  unfold graph_Order
  refine sim_bind (fun r1 h1 => ?_)
  have f2 := graph_Succs_okN p0 _ h1
  dsimp only at f2
  refine sim_bind (fun l_2 h3 => ?_)
  have f4 := mk_cond h3
  have f4a : mkOwn 1 ((p0.Blocks.length : Int)).toNat (rep ((p0.Blocks.length : Int)).toNat [.bool false]) = mkOwn 1 l_2.length (l_2.flatMap cbool) := mk_own h3 cbool 1
  refine sim_bind (fun qh5 h5 => ?_)
  obtain ⟨r3a, r3b⟩ := qh5
  dsimp only
  have f6 := graph_walk_visit_s1_okN r1 l_2 [] 0 _ h5
  dsimp only at f6
  refine sim_bind (fun l_4 h7 => ?_)
  obtain ⟨f8, f8a, f8b, f8c⟩ := rev_ok (T := T) (f := 35) (x := x35) rfl rfl h7
  refine sim_some ?_
  refine evI_ret (x := x18) rfl rfl rfl ?_
  rcases own_cases l_2 with rfl | o_l_2
  · rcases own_cases r3a with rfl | o_r3a
    · rcases own_cases r3b with rfl | o_r3b
      · obtain rfl := rev_nil h7
        try simp only [nz, nzIns, nzFun] at f2
        try simp only [nz, nzIns, nzFun] at f6
        all_goals
          refine' (w_fn rfl rfl (w_seq (w_reg (w_cons ?_ (w_cons ?_ w_nil)) ?_) (w_go (w_seq (w_regD ?_ ?_ (w_consD rfl ?_ ?_ ?_ (w_consD rfl ?_ ?_ ?_ (w_consD rfl ?_ ?_ ?_ (w_consD rfl ?_ ?_ ?_ (w_consD rfl ?_ ?_ ?_ (w_consD rfl ?_ ?_ ?_ (w_barD rfl rfl (w_cons ?_ (w_cons ?_ (w_cons ?_ w_nil)))))))))) ?_) (w_go (w_seq (w_reg (w_cons ?_ (w_cons ?_ w_nil)) ?_) (w_go (w_seq (w_reg (w_cons ?_ (w_cons ?_ (w_cons ?_ (w_cons ?_ (w_cons ?_ w_nil))))) ?_) (w_go (w_seq (w_reg (w_cons ?_ (w_cons ?_ (w_cons ?_ (w_cons ?_ (w_cons ?_ w_nil))))) ?_) (w_go w_ret)))))))))) ?_)
          all_goals (first | (simp only [x18, nz, rn, nzIns, nzFun, f2, f4, f4a, f6, f8, f8a, f8b, f8c, Int.reduceLT, Int.reduceEq, List.contains_cons, List.contains_nil, Option.map_some, Option.map_none, reduceIte, reduceCtorEq, Nat.reduceEqDiff, Nat.reduceLT, Nat.reduceBEq, Nat.reduceAdd, Nat.reduceMul, Nat.reduceLeDiff, Nat.reduceSub, Bool.false_eq_true]; try rfl) | skip)
      · have o_l_4 := rev_own2 h7 o_r3b
        try simp only [nz, nzIns, nzFun, o_r3b, o_l_4] at f2
        try simp only [nz, nzIns, nzFun, o_r3b, o_l_4] at f6
        all_goals
          refine' (w_fn rfl rfl (w_seq (w_reg (w_cons ?_ (w_cons ?_ w_nil)) ?_) (w_go (w_seq (w_regD ?_ ?_ (w_consD rfl ?_ ?_ ?_ (w_consD rfl ?_ ?_ ?_ (w_consD rfl ?_ ?_ ?_ (w_consD rfl ?_ ?_ ?_ (w_consD rfl ?_ ?_ ?_ (w_consD rfl ?_ ?_ ?_ (w_barD rfl rfl (w_cons ?_ (w_cons ?_ (w_cons ?_ w_nil)))))))))) ?_) (w_go (w_seq (w_reg (w_cons ?_ (w_cons ?_ w_nil)) ?_) (w_go (w_seq (w_reg (w_cons ?_ (w_cons ?_ (w_cons ?_ (w_cons ?_ (w_cons ?_ w_nil))))) ?_) (w_go (w_seq (w_reg (w_cons ?_ (w_cons ?_ (w_cons ?_ (w_cons ?_ (w_cons ?_ w_nil))))) ?_) (w_go w_ret)))))))))) ?_)
          all_goals (first | (simp only [x18, nz, rn, nzIns, nzFun, f2, f4, f4a, f6, f8, f8a, f8b, f8c, o_r3b, o_l_4, Int.reduceLT, Int.reduceEq, List.contains_cons, List.contains_nil, Option.map_some, Option.map_none, reduceIte, reduceCtorEq, Nat.reduceEqDiff, Nat.reduceLT, Nat.reduceBEq, Nat.reduceAdd, Nat.reduceMul, Nat.reduceLeDiff, Nat.reduceSub, Bool.false_eq_true]; try rfl) | skip)
    · rcases own_cases r3b with rfl | o_r3b
      · obtain rfl := rev_nil h7
        try simp only [nz, nzIns, nzFun, o_r3a] at f2
        try simp only [nz, nzIns, nzFun, o_r3a] at f6
        all_goals
          refine' (w_fn rfl rfl (w_seq (w_reg (w_cons ?_ (w_cons ?_ w_nil)) ?_) (w_go (w_seq (w_regD ?_ ?_ (w_consD rfl ?_ ?_ ?_ (w_consD rfl ?_ ?_ ?_ (w_consD rfl ?_ ?_ ?_ (w_consD rfl ?_ ?_ ?_ (w_consD rfl ?_ ?_ ?_ (w_consD rfl ?_ ?_ ?_ (w_barD rfl rfl (w_cons ?_ (w_cons ?_ (w_cons ?_ w_nil)))))))))) ?_) (w_go (w_seq (w_reg (w_cons ?_ (w_cons ?_ w_nil)) ?_) (w_go (w_seq (w_reg (w_cons ?_ (w_cons ?_ (w_cons ?_ (w_cons ?_ (w_cons ?_ w_nil))))) ?_) (w_go (w_seq (w_reg (w_cons ?_ (w_cons ?_ (w_cons ?_ (w_cons ?_ (w_cons ?_ w_nil))))) ?_) (w_go w_ret)))))))))) ?_)
          all_goals (first | (simp only [x18, nz, rn, nzIns, nzFun, f2, f4, f4a, f6, f8, f8a, f8b, f8c, o_r3a, Int.reduceLT, Int.reduceEq, List.contains_cons, List.contains_nil, Option.map_some, Option.map_none, reduceIte, reduceCtorEq, Nat.reduceEqDiff, Nat.reduceLT, Nat.reduceBEq, Nat.reduceAdd, Nat.reduceMul, Nat.reduceLeDiff, Nat.reduceSub, Bool.false_eq_true]; try rfl) | skip)
      · have o_l_4 := rev_own2 h7 o_r3b
        try simp only [nz, nzIns, nzFun, o_r3a, o_r3b, o_l_4] at f2
        try simp only [nz, nzIns, nzFun, o_r3a, o_r3b, o_l_4] at f6
        all_goals
          refine' (w_fn rfl rfl (w_seq (w_reg (w_cons ?_ (w_cons ?_ w_nil)) ?_) (w_go (w_seq (w_regD ?_ ?_ (w_consD rfl ?_ ?_ ?_ (w_consD rfl ?_ ?_ ?_ (w_consD rfl ?_ ?_ ?_ (w_consD rfl ?_ ?_ ?_ (w_consD rfl ?_ ?_ ?_ (w_consD rfl ?_ ?_ ?_ (w_barD rfl rfl (w_cons ?_ (w_cons ?_ (w_cons ?_ w_nil)))))))))) ?_) (w_go (w_seq (w_reg (w_cons ?_ (w_cons ?_ w_nil)) ?_) (w_go (w_seq (w_reg (w_cons ?_ (w_cons ?_ (w_cons ?_ (w_cons ?_ (w_cons ?_ w_nil))))) ?_) (w_go (w_seq (w_reg (w_cons ?_ (w_cons ?_ (w_cons ?_ (w_cons ?_ (w_cons ?_ w_nil))))) ?_) (w_go w_ret)))))))))) ?_)
          all_goals (first | (simp only [x18, nz, rn, nzIns, nzFun, f2, f4, f4a, f6, f8, f8a, f8b, f8c, o_r3a, o_r3b, o_l_4, Int.reduceLT, Int.reduceEq, List.contains_cons, List.contains_nil, Option.map_some, Option.map_none, reduceIte, reduceCtorEq, Nat.reduceEqDiff, Nat.reduceLT, Nat.reduceBEq, Nat.reduceAdd, Nat.reduceMul, Nat.reduceLeDiff, Nat.reduceSub, Bool.false_eq_true]; try rfl) | skip)
  · rcases own_cases r3a with rfl | o_r3a
    · rcases own_cases r3b with rfl | o_r3b
      · obtain rfl := rev_nil h7
        try simp only [nz, nzIns, nzFun, o_l_2] at f2
        try simp only [nz, nzIns, nzFun, o_l_2] at f6
        all_goals
          refine' (w_fn rfl rfl (w_seq (w_reg (w_cons ?_ (w_cons ?_ w_nil)) ?_) (w_go (w_seq (w_regD ?_ ?_ (w_consD rfl ?_ ?_ ?_ (w_consD rfl ?_ ?_ ?_ (w_consD rfl ?_ ?_ ?_ (w_consD rfl ?_ ?_ ?_ (w_consD rfl ?_ ?_ ?_ (w_consD rfl ?_ ?_ ?_ (w_barD rfl rfl (w_cons ?_ (w_cons ?_ (w_cons ?_ w_nil)))))))))) ?_) (w_go (w_seq (w_reg (w_cons ?_ (w_cons ?_ w_nil)) ?_) (w_go (w_seq (w_reg (w_cons ?_ (w_cons ?_ (w_cons ?_ (w_cons ?_ (w_cons ?_ w_nil))))) ?_) (w_go (w_seq (w_reg (w_cons ?_ (w_cons ?_ (w_cons ?_ (w_cons ?_ (w_cons ?_ w_nil))))) ?_) (w_go w_ret)))))))))) ?_)
          all_goals (first | (simp only [x18, nz, rn, nzIns, nzFun, f2, f4, f4a, f6, f8, f8a, f8b, f8c, o_l_2, Int.reduceLT, Int.reduceEq, List.contains_cons, List.contains_nil, Option.map_some, Option.map_none, reduceIte, reduceCtorEq, Nat.reduceEqDiff, Nat.reduceLT, Nat.reduceBEq, Nat.reduceAdd, Nat.reduceMul, Nat.reduceLeDiff, Nat.reduceSub, Bool.false_eq_true]; try rfl) | skip)
      · have o_l_4 := rev_own2 h7 o_r3b
        try simp only [nz, nzIns, nzFun, o_l_2, o_r3b, o_l_4] at f2
        try simp only [nz, nzIns, nzFun, o_l_2, o_r3b, o_l_4] at f6
        all_goals
          refine' (w_fn rfl rfl (w_seq (w_reg (w_cons ?_ (w_cons ?_ w_nil)) ?_) (w_go (w_seq (w_regD ?_ ?_ (w_consD rfl ?_ ?_ ?_ (w_consD rfl ?_ ?_ ?_ (w_consD rfl ?_ ?_ ?_ (w_consD rfl ?_ ?_ ?_ (w_consD rfl ?_ ?_ ?_ (w_consD rfl ?_ ?_ ?_ (w_barD rfl rfl (w_cons ?_ (w_cons ?_ (w_cons ?_ w_nil)))))))))) ?_) (w_go (w_seq (w_reg (w_cons ?_ (w_cons ?_ w_nil)) ?_) (w_go (w_seq (w_reg (w_cons ?_ (w_cons ?_ (w_cons ?_ (w_cons ?_ (w_cons ?_ w_nil))))) ?_) (w_go (w_seq (w_reg (w_cons ?_ (w_cons ?_ (w_cons ?_ (w_cons ?_ (w_cons ?_ w_nil))))) ?_) (w_go w_ret)))))))))) ?_)
          all_goals (first | (simp only [x18, nz, rn, nzIns, nzFun, f2, f4, f4a, f6, f8, f8a, f8b, f8c, o_l_2, o_r3b, o_l_4, Int.reduceLT, Int.reduceEq, List.contains_cons, List.contains_nil, Option.map_some, Option.map_none, reduceIte, reduceCtorEq, Nat.reduceEqDiff, Nat.reduceLT, Nat.reduceBEq, Nat.reduceAdd, Nat.reduceMul, Nat.reduceLeDiff, Nat.reduceSub, Bool.false_eq_true]; try rfl) | skip)
    · rcases own_cases r3b with rfl | o_r3b
      · obtain rfl := rev_nil h7
        try simp only [nz, nzIns, nzFun, o_l_2, o_r3a] at f2
        try simp only [nz, nzIns, nzFun, o_l_2, o_r3a] at f6
        all_goals
          refine' (w_fn rfl rfl (w_seq (w_reg (w_cons ?_ (w_cons ?_ w_nil)) ?_) (w_go (w_seq (w_regD ?_ ?_ (w_consD rfl ?_ ?_ ?_ (w_consD rfl ?_ ?_ ?_ (w_consD rfl ?_ ?_ ?_ (w_consD rfl ?_ ?_ ?_ (w_consD rfl ?_ ?_ ?_ (w_consD rfl ?_ ?_ ?_ (w_barD rfl rfl (w_cons ?_ (w_cons ?_ (w_cons ?_ w_nil)))))))))) ?_) (w_go (w_seq (w_reg (w_cons ?_ (w_cons ?_ w_nil)) ?_) (w_go (w_seq (w_reg (w_cons ?_ (w_cons ?_ (w_cons ?_ (w_cons ?_ (w_cons ?_ w_nil))))) ?_) (w_go (w_seq (w_reg (w_cons ?_ (w_cons ?_ (w_cons ?_ (w_cons ?_ (w_cons ?_ w_nil))))) ?_) (w_go w_ret)))))))))) ?_)
          all_goals (first | (simp only [x18, nz, rn, nzIns, nzFun, f2, f4, f4a, f6, f8, f8a, f8b, f8c, o_l_2, o_r3a, Int.reduceLT, Int.reduceEq, List.contains_cons, List.contains_nil, Option.map_some, Option.map_none, reduceIte, reduceCtorEq, Nat.reduceEqDiff, Nat.reduceLT, Nat.reduceBEq, Nat.reduceAdd, Nat.reduceMul, Nat.reduceLeDiff, Nat.reduceSub, Bool.false_eq_true]; try rfl) | skip)
      · have o_l_4 := rev_own2 h7 o_r3b
        try simp only [nz, nzIns, nzFun, o_l_2, o_r3a, o_r3b, o_l_4] at f2
        try simp only [nz, nzIns, nzFun, o_l_2, o_r3a, o_r3b, o_l_4] at f6
        all_goals
          refine' (w_fn rfl rfl (w_seq (w_reg (w_cons ?_ (w_cons ?_ w_nil)) ?_) (w_go (w_seq (w_regD ?_ ?_ (w_consD rfl ?_ ?_ ?_ (w_consD rfl ?_ ?_ ?_ (w_consD rfl ?_ ?_ ?_ (w_consD rfl ?_ ?_ ?_ (w_consD rfl ?_ ?_ ?_ (w_consD rfl ?_ ?_ ?_ (w_barD rfl rfl (w_cons ?_ (w_cons ?_ (w_cons ?_ w_nil)))))))))) ?_) (w_go (w_seq (w_reg (w_cons ?_ (w_cons ?_ w_nil)) ?_) (w_go (w_seq (w_reg (w_cons ?_ (w_cons ?_ (w_cons ?_ (w_cons ?_ (w_cons ?_ w_nil))))) ?_) (w_go (w_seq (w_reg (w_cons ?_ (w_cons ?_ (w_cons ?_ (w_cons ?_ (w_cons ?_ w_nil))))) ?_) (w_go w_ret)))))))))) ?_)
          all_goals (first | (simp only [x18, nz, rn, nzIns, nzFun, f2, f4, f4a, f6, f8, f8a, f8b, f8c, o_l_2, o_r3a, o_r3b, o_l_4, Int.reduceLT, Int.reduceEq, List.contains_cons, List.contains_nil, Option.map_some, Option.map_none, reduceIte, reduceCtorEq, Nat.reduceEqDiff, Nat.reduceLT, Nat.reduceBEq, Nat.reduceAdd, Nat.reduceMul, Nat.reduceLeDiff, Nat.reduceSub, Bool.false_eq_true]; try rfl) | skip)
theorem graph_Order_okN (p0 : Fun) : Sim (graph_Order p0) fun r => ∀ ws, ws.map normA = [.agg [.str p0.Name, .sl p0.Params.length (p0.Params.flatMap (cint .i64)), .int .i64 p0.Ret, .sl p0.Blocks.length (p0.Blocks.flatMap (csl cIns)), .int .i64 p0.At]] → evI T 18 ws = some (.sl r.length (r.flatMap (cint .i64)), [.none]) := fun r h => evI_okN (x := x18) rfl rfl rfl (graph_Order_ok p0 r h)
end Go.Ab

/-
  Printed by gen.py.
-/
namespace Go.Ab
open Go
set_option linter.unusedVariables false
set_option linter.unusedSimpArgs false
set_option maxRecDepth 100000
set_option maxHeartbeats 4000000
theorem r08_post_j9_ok (p0 : Fun) (p1 : Int) (r3 : List Int) (path4 : List Int) (path4b : Bool) (out5 : List Int) (i6 : Int) : Sim (r08_post_j9 p0 p1 r3 path4 path4b out5 i6) fun r => evX (evI T) x36_1 [(1, .int .i64 p1), (4, .box [.str p0.Name, .sl p0.Params.length (p0.Params.flatMap (cint .i64)), .int .i64 p0.Ret, .sl p0.Blocks.length (p0.Blocks.flatMap (csl cIns)), .int .i64 p0.At]), (9, eit path4b 1 path4.length (path4.flatMap (cint .i64))), (10, .sl out5.length (out5.flatMap (cint .i64))), (11, .sl r3.length (r3.flatMap (cint .i64))), (12, .int .i64 i6)] = some (.norm, [(1, .int .i64 p1), (4, .box [.str p0.Name, .sl p0.Params.length (p0.Params.flatMap (cint .i64)), .int .i64 p0.Ret, .sl p0.Blocks.length (p0.Blocks.flatMap (csl cIns)), .int .i64 p0.At]), (9, eit r.2.1 1 r.1.length (r.1.flatMap (cint .i64))), (10, .sl out5.length (out5.flatMap (cint .i64))), (11, .sl r3.length (r3.flatMap (cint .i64))), (12, .int .i64 i6), (46, .bool r.2.2)]) := by
  unfold r08_post_j9
  refine sim_bind (fun x_7 h8 => ?_)
  have f9 := ix_ok h8
  have f9o := ix_own2 h8
  have f10 := ix_cells (sz_int .i64) h8
  simp only [nz, nzIns, nzFun] at f10
  refine sim_bind (fun r8 h11 => ?_)
  have f12 := r08_Has_okN out5 x_7 _ h11
  dsimp only at f12
  refine sim_if (fun h13 => ?_) (fun h13 => ?_)
  · refine sim_if (fun h14 => ?_) (fun h14 => ?_)
    · have f15 := ix_cells (sz_int .i64) h8
      simp only [nz, nzIns, nzFun] at f15
      refine sim_bind (fun r9 h16 => ?_)
      have f17 := r08_Has_okN path4 x_7 _ h16
      dsimp only at f17
      refine sim_some ?_
      try simp only [nz, nzIns, nzFun, f9o] at f12
      try simp only [nz, nzIns, nzFun, f9o] at f17
      all_goals
        refine' (w_reg (w_cons ?_ (w_cons ?_ (w_cons ?_ (w_cons ?_ (w_cons ?_ (w_cons ?_ (w_cons ?_ (w_cons ?_ (w_cons ?_ (w_cons ?_ (w_cons ?_ (w_cons ?_ (w_cons ?_ (w_cons ?_ (w_cons ?_ (w_cons ?_ w_nil)))))))))))))))) ?_)
        all_goals (first | (simp only [nz, rn, nzIns, nzFun, f9, f9o, f10, f12, h13, h14, f15, f17, Int.reduceLT, Int.reduceEq, List.contains_cons, List.contains_nil, Option.map_some, Option.map_none, reduceIte, reduceCtorEq, Nat.reduceEqDiff, Nat.reduceLT, Nat.reduceBEq, Nat.reduceAdd, Nat.reduceMul, Nat.reduceLeDiff, Nat.reduceSub, Bool.false_eq_true]; try rfl) | skip)
    · have f18 := ix_cells (sz_int .i64) h8
      simp only [nz, nzIns, nzFun] at f18
      refine sim_bind (fun r10 h19 => ?_)
      have f20 := r08_Has_okN path4 x_7 _ h19
      dsimp only at f20
      refine sim_some ?_
      rcases own_cases path4 with rfl | o_path4
      · try simp only [nz, nzIns, nzFun, f9o] at f12
        try simp only [nz, nzIns, nzFun, f9o] at f20
        all_goals
          refine' (w_reg (w_cons ?_ (w_cons ?_ (w_cons ?_ (w_cons ?_ (w_cons ?_ (w_cons ?_ (w_cons ?_ (w_cons ?_ (w_cons ?_ (w_cons ?_ (w_cons ?_ (w_cons ?_ (w_cons ?_ (w_cons ?_ (w_cons ?_ (w_cons ?_ w_nil)))))))))))))))) ?_)
          all_goals (first | (simp only [nz, rn, nzIns, nzFun, f9, f9o, f10, f12, h13, h14, f18, f20, Int.reduceLT, Int.reduceEq, List.contains_cons, List.contains_nil, Option.map_some, Option.map_none, reduceIte, reduceCtorEq, Nat.reduceEqDiff, Nat.reduceLT, Nat.reduceBEq, Nat.reduceAdd, Nat.reduceMul, Nat.reduceLeDiff, Nat.reduceSub, Bool.false_eq_true]; try rfl) | skip)
      · try simp only [nz, nzIns, nzFun, o_path4, f9o] at f12
        try simp only [nz, nzIns, nzFun, o_path4, f9o] at f20
        all_goals
          refine' (w_reg (w_cons ?_ (w_cons ?_ (w_cons ?_ (w_cons ?_ (w_cons ?_ (w_cons ?_ (w_cons ?_ (w_cons ?_ (w_cons ?_ (w_cons ?_ (w_cons ?_ (w_cons ?_ (w_cons ?_ (w_cons ?_ (w_cons ?_ (w_cons ?_ w_nil)))))))))))))))) ?_)
          all_goals (first | (simp only [nz, rn, nzIns, nzFun, f9, f9o, f10, f12, h13, h14, f18, f20, o_path4, Int.reduceLT, Int.reduceEq, List.contains_cons, List.contains_nil, Option.map_some, Option.map_none, reduceIte, reduceCtorEq, Nat.reduceEqDiff, Nat.reduceLT, Nat.reduceBEq, Nat.reduceAdd, Nat.reduceMul, Nat.reduceLeDiff, Nat.reduceSub, Bool.false_eq_true]; try rfl) | skip)
  · refine sim_some ?_
    try simp only [nz, nzIns, nzFun, f9o] at f12
    all_goals
      refine' (w_reg (w_cons ?_ (w_cons ?_ (w_cons ?_ (w_cons ?_ (w_cons ?_ (w_cons ?_ (w_cons ?_ (w_cons ?_ (w_cons ?_ (w_cons ?_ (w_cons ?_ (w_cons ?_ (w_cons ?_ (w_cons ?_ (w_cons ?_ (w_cons ?_ w_nil)))))))))))))))) ?_)
      all_goals (first | (simp only [nz, rn, nzIns, nzFun, f9, f9o, f10, f12, h13, Int.reduceLT, Int.reduceEq, List.contains_cons, List.contains_nil, Option.map_some, Option.map_none, reduceIte, reduceCtorEq, Nat.reduceEqDiff, Nat.reduceLT, Nat.reduceBEq, Nat.reduceAdd, Nat.reduceMul, Nat.reduceLeDiff, Nat.reduceSub, Bool.false_eq_true]; try rfl) | skip)
theorem r08_post_j11_ok (p0 : Fun) (p1 : Int) (rec : Fun → Int → (List Int) → (List Int) → Option (List Int)) (hrec : ∀ (p0 : Fun) (p1 : Int) (p2 : List Int) (p3 : List Int), Sim (rec p0 p1 p2 p3) fun r => ∀ ws, ws.map normA = [.agg [.str p0.Name, .sl p0.Params.length (p0.Params.flatMap (cint .i64)), .int .i64 p0.Ret, .sl p0.Blocks.length (p0.Blocks.flatMap (csl cIns)), .int .i64 p0.At], .int .i64 p1, .sl p2.length (p2.flatMap (cint .i64)), .sl p3.length (p3.flatMap (cint .i64))] → evI T 36 ws = some (.sl r.length (r.flatMap (cint .i64)), [.none, .none, .none, .none])) (r3 : List Int) (out5 : List Int) (i6 : Int) (path11 : List Int) (path11b : Bool) (v12 : Bool) (k0 : (v12) = true) : Sim (r08_post_j11 p0 p1 rec r3 out5 i6 path11 path11b v12) fun r => evX (evI T) x36_3 [(1, .int .i64 p1), (4, .box [.str p0.Name, .sl p0.Params.length (p0.Params.flatMap (cint .i64)), .int .i64 p0.Ret, .sl p0.Blocks.length (p0.Blocks.flatMap (csl cIns)), .int .i64 p0.At]), (9, eit path11b 1 path11.length (path11.flatMap (cint .i64))), (10, .sl out5.length (out5.flatMap (cint .i64))), (11, .sl r3.length (r3.flatMap (cint .i64))), (12, .int .i64 i6), (46, .bool v12)] = some (.norm, [(1, .int .i64 p1), (4, .box [.str p0.Name, .sl p0.Params.length (p0.Params.flatMap (cint .i64)), .int .i64 p0.Ret, .sl p0.Blocks.length (p0.Blocks.flatMap (csl cIns)), .int .i64 p0.At]), (9, eit r.2.1 1 r.1.length (r.1.flatMap (cint .i64))), (10, .sl r.2.2.length (r.2.2.flatMap (cint .i64))), (11, .sl r3.length (r3.flatMap (cint .i64))), (12, .int .i64 i6)]) := by
  unfold r08_post_j11
  refine sim_bind (fun x_13 h24 => ?_)
  have f25 := ix_ok h24
  have f25o := ix_own2 h24
  have f26 := ix_cells (sz_int .i64) h24
  simp only [nz, nzIns, nzFun] at f26
  refine sim_if (fun h27 => ?_) (fun h27 => ?_)
  · refine sim_bind (fun r14 h28 => ?_)
    have f29 := hrec p0 x_13 out5 path11 _ h28
    dsimp only at f29
    refine sim_some ?_
    try simp only [nz, nzIns, nzFun, f25o] at f29
    all_goals
      refine' (w_regD ?_ ?_ (w_consD rfl ?_ ?_ ?_ (w_consD rfl ?_ ?_ ?_ (w_consD rfl ?_ ?_ ?_ (w_consD rfl ?_ ?_ ?_ (w_consD rfl ?_ ?_ ?_ (w_consD rfl ?_ ?_ ?_ (w_consD rfl ?_ ?_ ?_ (w_barD rfl rfl (w_cons ?_ (w_cons ?_ w_nil)))))))))) ?_)
      all_goals (first | (simp only [nz, rn, nzIns, nzFun, f25, f25o, f26, h27, f29, k0, Int.reduceLT, Int.reduceEq, List.contains_cons, List.contains_nil, Option.map_some, Option.map_none, reduceIte, reduceCtorEq, Nat.reduceEqDiff, Nat.reduceLT, Nat.reduceBEq, Nat.reduceAdd, Nat.reduceMul, Nat.reduceLeDiff, Nat.reduceSub, Bool.false_eq_true]; try rfl) | skip)
  · refine sim_bind (fun r15 h30 => ?_)
    have f31 := hrec p0 x_13 out5 path11 _ h30
    dsimp only at f31
    refine sim_some ?_
    rcases own_cases path11 with rfl | o_path11
    · try simp only [nz, nzIns, nzFun, f25o] at f31
      all_goals
        refine' (w_regD ?_ ?_ (w_consD rfl ?_ ?_ ?_ (w_consD rfl ?_ ?_ ?_ (w_consD rfl ?_ ?_ ?_ (w_consD rfl ?_ ?_ ?_ (w_consD rfl ?_ ?_ ?_ (w_consD rfl ?_ ?_ ?_ (w_consD rfl ?_ ?_ ?_ (w_barD rfl rfl (w_cons ?_ (w_cons ?_ w_nil)))))))))) ?_)
        all_goals (first | (simp only [nz, rn, nzIns, nzFun, f25, f25o, f26, h27, f31, k0, Int.reduceLT, Int.reduceEq, List.contains_cons, List.contains_nil, Option.map_some, Option.map_none, reduceIte, reduceCtorEq, Nat.reduceEqDiff, Nat.reduceLT, Nat.reduceBEq, Nat.reduceAdd, Nat.reduceMul, Nat.reduceLeDiff, Nat.reduceSub, Bool.false_eq_true]; try rfl) | skip)
    · try simp only [nz, nzIns, nzFun, o_path11, f25o] at f31
      all_goals
        refine' (w_regD ?_ ?_ (w_consD rfl ?_ ?_ ?_ (w_consD rfl ?_ ?_ ?_ (w_consD rfl ?_ ?_ ?_ (w_consD rfl ?_ ?_ ?_ (w_consD rfl ?_ ?_ ?_ (w_consD rfl ?_ ?_ ?_ (w_consD rfl ?_ ?_ ?_ (w_barD rfl rfl (w_cons ?_ (w_cons ?_ w_nil)))))))))) ?_)
        all_goals (first | (simp only [nz, rn, nzIns, nzFun, f25, f25o, f26, h27, f31, k0, o_path11, Int.reduceLT, Int.reduceEq, List.contains_cons, List.contains_nil, Option.map_some, Option.map_none, reduceIte, reduceCtorEq, Nat.reduceEqDiff, Nat.reduceLT, Nat.reduceBEq, Nat.reduceAdd, Nat.reduceMul, Nat.reduceLeDiff, Nat.reduceSub, Bool.false_eq_true]; try rfl) | skip)
theorem r08_post_j12_ok (p0 : Fun) (p1 : Int) (rec : Fun → Int → (List Int) → (List Int) → Option (List Int)) (hrec : ∀ (p0 : Fun) (p1 : Int) (p2 : List Int) (p3 : List Int), Sim (rec p0 p1 p2 p3) fun r => ∀ ws, ws.map normA = [.agg [.str p0.Name, .sl p0.Params.length (p0.Params.flatMap (cint .i64)), .int .i64 p0.Ret, .sl p0.Blocks.length (p0.Blocks.flatMap (csl cIns)), .int .i64 p0.At], .int .i64 p1, .sl p2.length (p2.flatMap (cint .i64)), .sl p3.length (p3.flatMap (cint .i64))] → evI T 36 ws = some (.sl r.length (r.flatMap (cint .i64)), [.none, .none, .none, .none])) (r3 : List Int) (out5 : List Int) (i6 : Int) (path11 : List Int) (path11b : Bool) (v12 : Bool) : Sim (r08_post_j12 p0 p1 rec r3 out5 i6 path11 path11b v12) fun r => evX (evI T) x36_2 [(1, .int .i64 p1), (4, .box [.str p0.Name, .sl p0.Params.length (p0.Params.flatMap (cint .i64)), .int .i64 p0.Ret, .sl p0.Blocks.length (p0.Blocks.flatMap (csl cIns)), .int .i64 p0.At]), (9, eit path11b 1 path11.length (path11.flatMap (cint .i64))), (10, .sl out5.length (out5.flatMap (cint .i64))), (11, .sl r3.length (r3.flatMap (cint .i64))), (12, .int .i64 i6), (46, .bool v12)] = some (.norm, [(1, .int .i64 p1), (4, .box [.str p0.Name, .sl p0.Params.length (p0.Params.flatMap (cint .i64)), .int .i64 p0.Ret, .sl p0.Blocks.length (p0.Blocks.flatMap (csl cIns)), .int .i64 p0.At]), (9, eit r.2.1 1 r.1.length (r.1.flatMap (cint .i64))), (10, .sl r.2.2.length (r.2.2.flatMap (cint .i64))), (11, .sl r3.length (r3.flatMap (cint .i64))), (12, .int .i64 i6)]) := by
  unfold r08_post_j12
  refine sim_if (fun h23 => ?_) (fun h23 => ?_)
  · refine sim_bind (fun qh32 h32 => ?_)
    obtain ⟨path16, path16b, out17⟩ := qh32
    dsimp only
    have f33 := r08_post_j11_ok p0 p1 rec hrec r3 out5 i6 path11 path11b v12 ‹_› _ h32
    dsimp only at f33
    refine sim_some ?_
    try simp only [nz, nzIns, nzFun] at f33
    all_goals
      refine' (w_condt ?_ f33 ?_)
      all_goals (first | (simp only [nz, rn, nzIns, nzFun, h23, Int.reduceLT, Int.reduceEq, List.contains_cons, List.contains_nil, Option.map_some, Option.map_none, reduceIte, reduceCtorEq, Nat.reduceEqDiff, Nat.reduceLT, Nat.reduceBEq, Nat.reduceAdd, Nat.reduceMul, Nat.reduceLeDiff, Nat.reduceSub, Bool.false_eq_true]; try rfl) | skip)
  · refine sim_some ?_
    refine' (w_condf ?_ w_skip ?_)
    all_goals (first | (simp only [nz, rn, nzIns, nzFun, h23, Int.reduceLT, Int.reduceEq, List.contains_cons, List.contains_nil, Option.map_some, Option.map_none, reduceIte, reduceCtorEq, Nat.reduceEqDiff, Nat.reduceLT, Nat.reduceBEq, Nat.reduceAdd, Nat.reduceMul, Nat.reduceLeDiff, Nat.reduceSub, Bool.false_eq_true]; try rfl) | skip)
theorem r08_post_l13_bok (p0 : Fun) (p1 : Int) (rec : Fun → Int → (List Int) → (List Int) → Option (List Int)) (hrec : ∀ (p0 : Fun) (p1 : Int) (p2 : List Int) (p3 : List Int), Sim (rec p0 p1 p2 p3) fun r => ∀ ws, ws.map normA = [.agg [.str p0.Name, .sl p0.Params.length (p0.Params.flatMap (cint .i64)), .int .i64 p0.Ret, .sl p0.Blocks.length (p0.Blocks.flatMap (csl cIns)), .int .i64 p0.At], .int .i64 p1, .sl p2.length (p2.flatMap (cint .i64)), .sl p3.length (p3.flatMap (cint .i64))] → evI T 36 ws = some (.sl r.length (r.flatMap (cint .i64)), [.none, .none, .none, .none])) (r3 : List Int) (path4 : List Int) (path4b : Bool) (out5 : List Int) (i6 : Int) : Sim (r08_post_l13_b p0 p1 rec r3 path4 path4b out5 i6) fun x => fgt [1, 4, 9, 10, 11, 12] (evX (evI T) x36_4 [(1, .int .i64 p1), (4, .box [.str p0.Name, .sl p0.Params.length (p0.Params.flatMap (cint .i64)), .int .i64 p0.Ret, .sl p0.Blocks.length (p0.Blocks.flatMap (csl cIns)), .int .i64 p0.At]), (9, eit path4b 1 path4.length (path4.flatMap (cint .i64))), (10, .sl out5.length (out5.flatMap (cint .i64))), (11, .sl r3.length (r3.flatMap (cint .i64))), (12, .int .i64 i6)]) = some (stpK (fun s => (.norm, [(1, .int .i64 p1), (4, .box [.str p0.Name, .sl p0.Params.length (p0.Params.flatMap (cint .i64)), .int .i64 p0.Ret, .sl p0.Blocks.length (p0.Blocks.flatMap (csl cIns)), .int .i64 p0.At]), (9, eit s.2.1 1 s.1.length (s.1.flatMap (cint .i64))), (10, .sl s.2.2.1.length (s.2.2.1.flatMap (cint .i64))), (11, .sl r3.length (r3.flatMap (cint .i64))), (12, .int .i64 s.2.2.2)])) (fun r => (.exit 0, [(1, .int .i64 p1), (10, .sl r.length (r.flatMap (cint .i64)))])) x) := by
  unfold r08_post_l13_b
  refine sim_if (fun h7 => ?_) (fun h7 => ?_)
  · refine sim_bind (fun qh21 h21 => ?_)
    obtain ⟨path11, path11b, v12⟩ := qh21
    dsimp only
    have f22 := r08_post_j9_ok p0 p1 r3 path4 path4b out5 i6 _ h21
    dsimp only at f22
    refine sim_bind (fun qh34 h34 => ?_)
    obtain ⟨path18, path18b, out19⟩ := qh34
    dsimp only
    have f35 := r08_post_j12_ok p0 p1 rec hrec r3 out5 i6 path11 path11b v12 _ h34
    dsimp only at f35
    refine sim_some ?_
    try simp only [nz, nzIns, nzFun] at f22
    try simp only [nz, nzIns, nzFun] at f35
    all_goals
      refine' (w_fgt (w_seq (w_seq (w_reg (w_cons ?_ (w_cons ?_ (w_cons ?_ (w_cons ?_ w_nil)))) ?_) (w_go (w_condt ?_ w_skip ?_))) (w_go (w_seq (w_block (w_seq f22 (w_go f35)) ?_) (w_go (w_reg (w_cons ?_ (w_cons ?_ (w_cons ?_ w_nil))) ?_))))) ?_)
      all_goals (first | (simp only [nz, rn, nzIns, nzFun, h7, Int.reduceLT, Int.reduceEq, List.contains_cons, List.contains_nil, Option.map_some, Option.map_none, reduceIte, reduceCtorEq, Nat.reduceEqDiff, Nat.reduceLT, Nat.reduceBEq, Nat.reduceAdd, Nat.reduceMul, Nat.reduceLeDiff, Nat.reduceSub, Bool.false_eq_true]; try rfl) | skip)
  · refine sim_some ?_
    refine' (w_fgt (w_seq (w_seq (w_reg (w_cons ?_ (w_cons ?_ (w_cons ?_ (w_cons ?_ w_nil)))) ?_) (w_go (w_condf ?_ (w_exit ?_) ?_))) w_gox) ?_)
    all_goals (first | (simp only [nz, rn, nzIns, nzFun, h7, Int.reduceLT, Int.reduceEq, List.contains_cons, List.contains_nil, Option.map_some, Option.map_none, reduceIte, reduceCtorEq, Nat.reduceEqDiff, Nat.reduceLT, Nat.reduceBEq, Nat.reduceAdd, Nat.reduceMul, Nat.reduceLeDiff, Nat.reduceSub, Bool.false_eq_true]; try rfl) | skip)
theorem r08_post_l13_ok (p0 : Fun) (p1 : Int) (rec : Fun → Int → (List Int) → (List Int) → Option (List Int)) (hrec : ∀ (p0 : Fun) (p1 : Int) (p2 : List Int) (p3 : List Int), Sim (rec p0 p1 p2 p3) fun r => ∀ ws, ws.map normA = [.agg [.str p0.Name, .sl p0.Params.length (p0.Params.flatMap (cint .i64)), .int .i64 p0.Ret, .sl p0.Blocks.length (p0.Blocks.flatMap (csl cIns)), .int .i64 p0.At], .int .i64 p1, .sl p2.length (p2.flatMap (cint .i64)), .sl p3.length (p3.flatMap (cint .i64))] → evI T 36 ws = some (.sl r.length (r.flatMap (cint .i64)), [.none, .none, .none, .none])) (r3 : List Int) (s : List Int × Bool × List Int × Int) : Sim (r08_post_l13 p0 p1 rec r3 s) fun r => evX (evI T) (.loop x36_4 [1, 4, 9, 10, 11, 12]) [(1, .int .i64 p1), (4, .box [.str p0.Name, .sl p0.Params.length (p0.Params.flatMap (cint .i64)), .int .i64 p0.Ret, .sl p0.Blocks.length (p0.Blocks.flatMap (csl cIns)), .int .i64 p0.At]), (9, eit s.2.1 1 s.1.length (s.1.flatMap (cint .i64))), (10, .sl s.2.2.1.length (s.2.2.1.flatMap (cint .i64))), (11, .sl r3.length (r3.flatMap (cint .i64))), (12, .int .i64 s.2.2.2)] = some (.exit 0, [(1, .int .i64 p1), (10, .sl r.length (r.flatMap (cint .i64)))]) := by
  unfold r08_post_l13
  exact loop_rule (C := evI T) (b := x36_4) (ks := [1, 4, 9, 10, 11, 12]) (σ := List Int × Bool × List Int × Int) (ρ := List Int) (body := fun s => r08_post_l13_b p0 p1 rec r3 s.1 s.2.1 s.2.2.1 s.2.2.2) (E := fun s => [(1, .int .i64 p1), (4, .box [.str p0.Name, .sl p0.Params.length (p0.Params.flatMap (cint .i64)), .int .i64 p0.Ret, .sl p0.Blocks.length (p0.Blocks.flatMap (csl cIns)), .int .i64 p0.At]), (9, eit s.2.1 1 s.1.length (s.1.flatMap (cint .i64))), (10, .sl s.2.2.1.length (s.2.2.1.flatMap (cint .i64))), (11, .sl r3.length (r3.flatMap (cint .i64))), (12, .int .i64 s.2.2.2)]) (R := fun r => (.exit 0, [(1, .int .i64 p1), (10, .sl r.length (r.flatMap (cint .i64)))])) (fun r h => nomatch h) (fun s => r08_post_l13_bok p0 p1 rec hrec r3 s.1 s.2.1 s.2.2.1 s.2.2.2) s
theorem r08_post_r_ok (rec : Fun → Int → (List Int) → (List Int) → Option (List Int)) (hrec : ∀ (p0 : Fun) (p1 : Int) (p2 : List Int) (p3 : List Int), Sim (rec p0 p1 p2 p3) fun r => ∀ ws, ws.map normA = [.agg [.str p0.Name, .sl p0.Params.length (p0.Params.flatMap (cint .i64)), .int .i64 p0.Ret, .sl p0.Blocks.length (p0.Blocks.flatMap (csl cIns)), .int .i64 p0.At], .int .i64 p1, .sl p2.length (p2.flatMap (cint .i64)), .sl p3.length (p3.flatMap (cint .i64))] → evI T 36 ws = some (.sl r.length (r.flatMap (cint .i64)), [.none, .none, .none, .none])) (p0 : Fun) (p1 : Int) (p2 : List Int) (p3 : List Int) : Sim (r08_post_r rec p0 p1 p2 p3) fun r => evI T 36 [.agg [.str p0.Name, .sl p0.Params.length (p0.Params.flatMap (cint .i64)), .int .i64 p0.Ret, .sl p0.Blocks.length (p0.Blocks.flatMap (csl cIns)), .int .i64 p0.At], .int .i64 p1, .sl p2.length (p2.flatMap (cint .i64)), .sl p3.length (p3.flatMap (cint .i64))] = some (.sl r.length (r.flatMap (cint .i64)), [.none, .none, .none, .none]) := by
  unfold r08_post_r
  refine sim_bind (fun l_1 h1 => ?_)
  have f2 := appL_cond h1
  try simp only [nz, Nat.reduceLeDiff, Nat.reduceAdd, Nat.reduceMul, Nat.reduceSub] at f2
  have f2a : mkOwn 1 p3.length (p3.flatMap (cint .i64)) = mkOwn 1 l_1.length (l_1.flatMap (cint .i64)) := appN_own h1 (cint .i64) 1
  refine sim_bind (fun l_2 h3 => ?_)
  have f4 := app1_cond h3
  try simp only [nz, Nat.reduceLeDiff, Nat.reduceAdd, Nat.reduceMul, Nat.reduceSub] at f4
  have f4a : PV.own 1 (l_1.length + 1) (l_1.flatMap (cint .i64) ++ [.int .i64 p1]) = .own 1 l_2.length (l_2.flatMap (cint .i64)) := app1_own h3 (cint .i64) 1
  have f4o := app1_own2 h3
  refine sim_bind (fun r3 h5 => ?_)
  have f6 := r08_Next_okN p0 p1 _ h5
  dsimp only at f6
  refine sim_bind (fun out20 h36 => ?_)
  have f37 := r08_post_l13_ok p0 p1 rec hrec r3 (l_2, false, p2, 0) _ h36
  dsimp only at f37
  refine sim_bind (fun l_21 h38 => ?_)
  have f39 := appL_cond h38
  try simp only [nz, Nat.reduceLeDiff, Nat.reduceAdd, Nat.reduceMul, Nat.reduceSub] at f39
  have f39a : mkOwn 1 out20.length (out20.flatMap (cint .i64)) = mkOwn 1 l_21.length (l_21.flatMap (cint .i64)) := appN_own h38 (cint .i64) 1
  refine sim_bind (fun l_22 h40 => ?_)
  have f41 := app1_cond h40
  try simp only [nz, Nat.reduceLeDiff, Nat.reduceAdd, Nat.reduceMul, Nat.reduceSub] at f41
  have f41a : PV.own 1 (l_21.length + 1) (l_21.flatMap (cint .i64) ++ [.int .i64 p1]) = .own 1 l_22.length (l_22.flatMap (cint .i64)) := app1_own h40 (cint .i64) 1
  have f41o := app1_own2 h40
  refine sim_some ?_
  refine evI_ret (x := x36) rfl rfl rfl ?_
  rcases own_cases l_1 with rfl | o_l_1
  · obtain rfl := app_eq h3
    rcases own_cases l_21 with rfl | o_l_21
    · obtain rfl := app_eq h40
      try simp only [nz, nzIns, nzFun, f4o, f41o] at f6
      try simp only [nz, nzIns, nzFun, f4o, f41o] at f37
      all_goals
        refine' (w_fn rfl rfl (w_seq (w_reg (w_cons ?_ (w_cons ?_ w_nil)) ?_) (w_go (w_seq (w_reg (w_cons ?_ w_nil) ?_) (w_go (w_seq (w_reg (w_cons ?_ (w_cons ?_ (w_cons ?_ (w_cons ?_ w_nil)))) ?_) (w_go (w_seq (w_reg (w_cons ?_ (w_cons ?_ (w_cons ?_ (w_cons ?_ (w_cons ?_ w_nil))))) ?_) (w_go (w_seq (w_reg (w_cons ?_ (w_cons ?_ w_nil)) ?_) (w_go (w_seq (w_reg (w_cons ?_ (w_cons ?_ (w_cons ?_ (w_cons ?_ w_nil)))) ?_) (w_go (w_seq (w_seq (w_reg (w_cons ?_ w_nil) ?_) (w_go (w_block f37 ?_))) (w_go (w_seq (w_reg (w_cons ?_ w_nil) ?_) (w_go (w_seq (w_reg (w_cons ?_ (w_cons ?_ (w_cons ?_ (w_cons ?_ w_nil)))) ?_) (w_go (w_seq (w_reg (w_cons ?_ (w_cons ?_ (w_cons ?_ (w_cons ?_ (w_cons ?_ w_nil))))) ?_) (w_go w_ret)))))))))))))))))))) ?_)
        all_goals (first | (simp only [x36, nz, rn, nzIns, nzFun, f2, f2a, f6, f39, f39a, Int.reduceLT, Int.reduceEq, List.contains_cons, List.contains_nil, Option.map_some, Option.map_none, reduceIte, reduceCtorEq, Nat.reduceEqDiff, Nat.reduceLT, Nat.reduceBEq, Nat.reduceAdd, Nat.reduceMul, Nat.reduceLeDiff, Nat.reduceSub, Bool.false_eq_true]; try rfl) | skip)
    · try simp only [nz, nzIns, nzFun, o_l_21, f4o, f41o] at f6
      try simp only [nz, nzIns, nzFun, o_l_21, f4o, f41o] at f37
      try simp only [nz, nzIns, nzFun, o_l_21, f4o, f41o] at f41a
      all_goals
        refine' (w_fn rfl rfl (w_seq (w_reg (w_cons ?_ (w_cons ?_ w_nil)) ?_) (w_go (w_seq (w_reg (w_cons ?_ w_nil) ?_) (w_go (w_seq (w_reg (w_cons ?_ (w_cons ?_ (w_cons ?_ (w_cons ?_ w_nil)))) ?_) (w_go (w_seq (w_reg (w_cons ?_ (w_cons ?_ (w_cons ?_ (w_cons ?_ (w_cons ?_ w_nil))))) ?_) (w_go (w_seq (w_reg (w_cons ?_ (w_cons ?_ w_nil)) ?_) (w_go (w_seq (w_reg (w_cons ?_ (w_cons ?_ (w_cons ?_ (w_cons ?_ w_nil)))) ?_) (w_go (w_seq (w_seq (w_reg (w_cons ?_ w_nil) ?_) (w_go (w_block f37 ?_))) (w_go (w_seq (w_reg (w_cons ?_ w_nil) ?_) (w_go (w_seq (w_reg (w_cons ?_ (w_cons ?_ (w_cons ?_ (w_cons ?_ w_nil)))) ?_) (w_go (w_seq (w_reg (w_cons ?_ (w_cons ?_ (w_cons ?_ (w_cons ?_ (w_cons ?_ w_nil))))) ?_) (w_go w_ret)))))))))))))))))))) ?_)
        all_goals (first | (simp only [x36, nz, rn, nzIns, nzFun, f2, f2a, f6, f39, f39a, f41, f41a, f41o, o_l_21, Int.reduceLT, Int.reduceEq, List.contains_cons, List.contains_nil, Option.map_some, Option.map_none, reduceIte, reduceCtorEq, Nat.reduceEqDiff, Nat.reduceLT, Nat.reduceBEq, Nat.reduceAdd, Nat.reduceMul, Nat.reduceLeDiff, Nat.reduceSub, Bool.false_eq_true]; try rfl) | skip)
  · rcases own_cases l_21 with rfl | o_l_21
    · obtain rfl := app_eq h40
      try simp only [nz, nzIns, nzFun, o_l_1, f4o, f41o] at f6
      try simp only [nz, nzIns, nzFun, o_l_1, f4o, f41o] at f37
      try simp only [nz, nzIns, nzFun, o_l_1, f4o, f41o] at f4a
      all_goals
        refine' (w_fn rfl rfl (w_seq (w_reg (w_cons ?_ (w_cons ?_ w_nil)) ?_) (w_go (w_seq (w_reg (w_cons ?_ w_nil) ?_) (w_go (w_seq (w_reg (w_cons ?_ (w_cons ?_ (w_cons ?_ (w_cons ?_ w_nil)))) ?_) (w_go (w_seq (w_reg (w_cons ?_ (w_cons ?_ (w_cons ?_ (w_cons ?_ (w_cons ?_ w_nil))))) ?_) (w_go (w_seq (w_reg (w_cons ?_ (w_cons ?_ w_nil)) ?_) (w_go (w_seq (w_reg (w_cons ?_ (w_cons ?_ (w_cons ?_ (w_cons ?_ w_nil)))) ?_) (w_go (w_seq (w_seq (w_reg (w_cons ?_ w_nil) ?_) (w_go (w_block f37 ?_))) (w_go (w_seq (w_reg (w_cons ?_ w_nil) ?_) (w_go (w_seq (w_reg (w_cons ?_ (w_cons ?_ (w_cons ?_ (w_cons ?_ w_nil)))) ?_) (w_go (w_seq (w_reg (w_cons ?_ (w_cons ?_ (w_cons ?_ (w_cons ?_ (w_cons ?_ w_nil))))) ?_) (w_go w_ret)))))))))))))))))))) ?_)
        all_goals (first | (simp only [x36, nz, rn, nzIns, nzFun, f2, f2a, f4, f4a, f4o, f6, f39, f39a, o_l_1, Int.reduceLT, Int.reduceEq, List.contains_cons, List.contains_nil, Option.map_some, Option.map_none, reduceIte, reduceCtorEq, Nat.reduceEqDiff, Nat.reduceLT, Nat.reduceBEq, Nat.reduceAdd, Nat.reduceMul, Nat.reduceLeDiff, Nat.reduceSub, Bool.false_eq_true]; try rfl) | skip)
    · try simp only [nz, nzIns, nzFun, o_l_1, o_l_21, f4o, f41o] at f6
      try simp only [nz, nzIns, nzFun, o_l_1, o_l_21, f4o, f41o] at f37
      all_goals
        refine' (w_fn rfl rfl (w_seq (w_reg (w_cons ?_ (w_cons ?_ w_nil)) ?_) (w_go (w_seq (w_reg (w_cons ?_ w_nil) ?_) (w_go (w_seq (w_reg (w_cons ?_ (w_cons ?_ (w_cons ?_ (w_cons ?_ w_nil)))) ?_) (w_go (w_seq (w_reg (w_cons ?_ (w_cons ?_ (w_cons ?_ (w_cons ?_ (w_cons ?_ w_nil))))) ?_) (w_go (w_seq (w_reg (w_cons ?_ (w_cons ?_ w_nil)) ?_) (w_go (w_seq (w_reg (w_cons ?_ (w_cons ?_ (w_cons ?_ (w_cons ?_ w_nil)))) ?_) (w_go (w_seq (w_seq (w_reg (w_cons ?_ w_nil) ?_) (w_go (w_block f37 ?_))) (w_go (w_seq (w_reg (w_cons ?_ w_nil) ?_) (w_go (w_seq (w_reg (w_cons ?_ (w_cons ?_ (w_cons ?_ (w_cons ?_ w_nil)))) ?_) (w_go (w_seq (w_reg (w_cons ?_ (w_cons ?_ (w_cons ?_ (w_cons ?_ (w_cons ?_ w_nil))))) ?_) (w_go w_ret)))))))))))))))))))) ?_)
        all_goals (first | (simp only [x36, nz, rn, nzIns, nzFun, f2, f2a, f4, f4a, f4o, f6, f39, f39a, f41, f41a, f41o, o_l_1, o_l_21, Int.reduceLT, Int.reduceEq, List.contains_cons, List.contains_nil, Option.map_some, Option.map_none, reduceIte, reduceCtorEq, Nat.reduceEqDiff, Nat.reduceLT, Nat.reduceBEq, Nat.reduceAdd, Nat.reduceMul, Nat.reduceLeDiff, Nat.reduceSub, Bool.false_eq_true]; try rfl) | skip)
theorem r08_post_nok : ∀ (n : Nat) (p0 : Fun) (p1 : Int) (p2 : List Int) (p3 : List Int), Sim (r08_post_n n p0 p1 p2 p3) fun r => ∀ ws, ws.map normA = [.agg [.str p0.Name, .sl p0.Params.length (p0.Params.flatMap (cint .i64)), .int .i64 p0.Ret, .sl p0.Blocks.length (p0.Blocks.flatMap (csl cIns)), .int .i64 p0.At], .int .i64 p1, .sl p2.length (p2.flatMap (cint .i64)), .sl p3.length (p3.flatMap (cint .i64))] → evI T 36 ws = some (.sl r.length (r.flatMap (cint .i64)), [.none, .none, .none, .none])
  | 0, _, _, _, _ => sim_none
  | n + 1, p0, p1, p2, p3 => fun r h => evI_okN (x := x36) rfl rfl rfl (r08_post_r_ok (r08_post_n n) (r08_post_nok n) p0 p1 p2 p3 r h)
theorem r08_post_okN (p0 : Fun) (p1 : Int) (p2 : List Int) (p3 : List Int) : Sim (r08_post p0 p1 p2 p3) fun r => ∀ ws, ws.map normA = [.agg [.str p0.Name, .sl p0.Params.length (p0.Params.flatMap (cint .i64)), .int .i64 p0.Ret, .sl p0.Blocks.length (p0.Blocks.flatMap (csl cIns)), .int .i64 p0.At], .int .i64 p1, .sl p2.length (p2.flatMap (cint .i64)), .sl p3.length (p3.flatMap (cint .i64))] → evI T 36 ws = some (.sl r.length (r.flatMap (cint .i64)), [.none, .none, .none, .none]) := sim_lim fun n => r08_post_nok n p0 p1 p2 p3
end Go.Ab
