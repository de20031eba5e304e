/-
  No cell of these rows narrows 'for every input' (looked for: loops, veiled, ifaces, maps, wideKeys, modest, calm, conditions, laid).
  DERIVED. THE GIVEN ROWS OF THIS SEAT. 4 by the template 'for every input the law returns true; each argument reads behind the call as it read before'; 0 by the template 'total and deterministic' (their statements: YtebfbfgighmedaaTotals.lean).
  GIVEN WITH THE SEED: the statements are not yours to turn. If you find one false, say at which input.
  Laid BY PROGRAM, IN A SANDBOX (cutbox-rows.mjs): the forced cells as the released guide's own fill.sh prints them over the translation 153023bb4138302c… (all of the seat's roots in one cut). By AI agents, Wed Nov 11 2026. No macro, syntax, notation, axiom, sorry.
-/
import Derived.Test.YtebfbfgighmedaaChecked
import GoSem.Claim
import GoSem.ClaimJoined
import GoSem.ClaimMapViews
import Derived.JoinedTies
import Derived.KernelRfl
namespace Go.Proofs.Ytebfbfgighmedaa
/- THE CELL 'sum', in the pinned program and in every row, IS THE sha256 OF THE DUMP (.gsa) THAT YtebfbfgighmedaaProg.lean LOADS. Nothing in Lean hashes anything: it is a label: what it is worth is what the hold of that sum in a sandbox is worth. -/
noncomputable def Try.pinned : Pinned := { name := "ytebfbfgighmedaa", sum := "153023bb4138302c1f259199b5891ea8fbf0d8eb5a993754586467b14a7f4335", checked := Try.checked }
namespace Rows
def none {H : Type} : Left H := { results := [], args := [] }

/-- 'turntablelaw08.GraphShapes': WHATEVER THE INPUT: true; the input reads as it did. -/
def graphShapesSpec : ChangeSpec := { name := "graphShapes", fn := fun _ => fun
  | [d] => { results := [.lit (.bool true)], args := [d] }
  | _ => none }
def graphShapesRow : OpenClaim := { program := "ytebfbfgighmedaa", sum := "153023bb4138302c1f259199b5891ea8fbf0d8eb5a993754586467b14a7f4335", func := "turntable/turntablelaw08.GraphShapes", spec := "graphShapes", unfollowed := true, recurses := true, apart := false }
def GraphShapesSaid : Prop := graphShapesRow.holds Try.pinned (OpenSpec.ofChange graphShapesSpec)

/-- ITS FALSE NEIGHBOUR: 'it returns false'. Refute it at one input. -/
def graphShapesWrong : ChangeSpec := { name := "graphShapes", fn := fun _ => fun
  | [d] => { results := [.lit (.bool false)], args := [d] }
  | _ => none }
def GraphShapesWrongFalsely : Prop := graphShapesRow.holds Try.pinned (OpenSpec.ofChange graphShapesWrong)

/-- 'turntablelaw08.GraphFollows': WHATEVER THE INPUT: true; the input reads as it did. -/
def graphFollowsSpec : ChangeSpec := { name := "graphFollows", fn := fun _ => fun
  | [d] => { results := [.lit (.bool true)], args := [d] }
  | _ => none }
def graphFollowsRow : OpenClaim := { program := "ytebfbfgighmedaa", sum := "153023bb4138302c1f259199b5891ea8fbf0d8eb5a993754586467b14a7f4335", func := "turntable/turntablelaw08.GraphFollows", spec := "graphFollows", unfollowed := true, recurses := true, apart := false }
def GraphFollowsSaid : Prop := graphFollowsRow.holds Try.pinned (OpenSpec.ofChange graphFollowsSpec)

/-- ITS FALSE NEIGHBOUR: 'it returns false'. Refute it at one input. -/
def graphFollowsWrong : ChangeSpec := { name := "graphFollows", fn := fun _ => fun
  | [d] => { results := [.lit (.bool false)], args := [d] }
  | _ => none }
def GraphFollowsWrongFalsely : Prop := graphFollowsRow.holds Try.pinned (OpenSpec.ofChange graphFollowsWrong)

/-- 'turntablelaw08.GraphReaches': WHATEVER THE INPUT: true; the input reads as it did. -/
def graphReachesSpec : ChangeSpec := { name := "graphReaches", fn := fun _ => fun
  | [d1, d2, d3] => { results := [.lit (.bool true)], args := [d1, d2, d3] }
  | _ => none }
def graphReachesRow : OpenClaim := { program := "ytebfbfgighmedaa", sum := "153023bb4138302c1f259199b5891ea8fbf0d8eb5a993754586467b14a7f4335", func := "turntable/turntablelaw08.GraphReaches", spec := "graphReaches", unfollowed := true, recurses := true, apart := false }
def GraphReachesSaid : Prop := graphReachesRow.holds Try.pinned (OpenSpec.ofChange graphReachesSpec)

/-- ITS FALSE NEIGHBOUR: 'it returns false'. Refute it at one input. -/
def graphReachesWrong : ChangeSpec := { name := "graphReaches", fn := fun _ => fun
  | [d1, d2, d3] => { results := [.lit (.bool false)], args := [d1, d2, d3] }
  | _ => none }
def GraphReachesWrongFalsely : Prop := graphReachesRow.holds Try.pinned (OpenSpec.ofChange graphReachesWrong)

/-- 'turntablelaw08.GraphRounds': WHATEVER THE INPUT: true; the input reads as it did. -/
def graphRoundsSpec : ChangeSpec := { name := "graphRounds", fn := fun _ => fun
  | [d] => { results := [.lit (.bool true)], args := [d] }
  | _ => none }
def graphRoundsRow : OpenClaim := { program := "ytebfbfgighmedaa", sum := "153023bb4138302c1f259199b5891ea8fbf0d8eb5a993754586467b14a7f4335", func := "turntable/turntablelaw08.GraphRounds", spec := "graphRounds", unfollowed := true, recurses := true, apart := false }
def GraphRoundsSaid : Prop := graphRoundsRow.holds Try.pinned (OpenSpec.ofChange graphRoundsSpec)

/-- ITS FALSE NEIGHBOUR: 'it returns false'. Refute it at one input. -/
def graphRoundsWrong : ChangeSpec := { name := "graphRounds", fn := fun _ => fun
  | [d] => { results := [.lit (.bool false)], args := [d] }
  | _ => none }
def GraphRoundsWrongFalsely : Prop := graphRoundsRow.holds Try.pinned (OpenSpec.ofChange graphRoundsWrong)

/- THE SECOND FORM. 'bulk': how many values and letters a reading holds, each counted each time it is reached (what is shared counts as often as it is met; a slice's spare places count too). A statement '..UptoSaid' is the law's where the arguments, and the package variables that the reading takes, are together of bulk at most 1048576: NARROWER than '..Said'. Prove '..Said' where nothing that the law and all that it calls make is longer than what came in: it says more and counts as full. Else prove '..UptoSaid'. A law counts once. -/
mutual
def uptoBulk {H : Type} : DataW H → Nat
  | .lit (.string bytes) => bytes.length + 1
  | .lit _ => 1
  | .nil => 1
  | .ptr d => uptoBulk d + 1
  | .slice elems spare => uptoBulkAll elems + uptoBulkAll spare + 1
  | .agg parts => uptoBulkAll parts + 1
  | .iface _ d => uptoBulk d + 1
  | .map entries => uptoBulkEntries entries + 1
  | .held _ => 1
def uptoBulkAll {H : Type} : List (DataW H) → Nat
  | [] => 0
  | d :: r => uptoBulk d + uptoBulkAll r
def uptoBulkEntries {H : Type} : List (Lit × DataW H) → Nat
  | [] => 0
  | x :: r => uptoBulkEntry x + uptoBulkEntries r
def uptoBulkEntry {H : Type} : Lit × DataW H → Nat
  | (.string bytes, d) => bytes.length + uptoBulk d + 1
  | (_, d) => uptoBulk d + 1
 end
def uptoSmall : (H : Type) → List (DataW H) → Bool := fun _ ds => decide (uptoBulkAll ds ≤ 1048576)
def OpenSpec.upto (s : _root_.Go.ChangeSpec) : _root_.Go.OpenSpec := { _root_.Go.OpenSpec.ofChange s with cond := some uptoSmall }

/-- 'turntablelaw08.GraphShapes', WHERE WHAT IT READS IS OF BULK AT MOST 1048576: true; the input reads as it did. -/
def graphShapesUptoRow : OpenClaim := { program := "ytebfbfgighmedaa", sum := "153023bb4138302c1f259199b5891ea8fbf0d8eb5a993754586467b14a7f4335", func := "turntable/turntablelaw08.GraphShapes", spec := "graphShapes", unfollowed := true, recurses := true, apart := false, narrowed := true }
def GraphShapesUptoSaid : Prop := graphShapesUptoRow.holds Try.pinned (OpenSpec.upto graphShapesSpec)

/-- 'turntablelaw08.GraphFollows', WHERE WHAT IT READS IS OF BULK AT MOST 1048576: true; the input reads as it did. -/
def graphFollowsUptoRow : OpenClaim := { program := "ytebfbfgighmedaa", sum := "153023bb4138302c1f259199b5891ea8fbf0d8eb5a993754586467b14a7f4335", func := "turntable/turntablelaw08.GraphFollows", spec := "graphFollows", unfollowed := true, recurses := true, apart := false, narrowed := true }
def GraphFollowsUptoSaid : Prop := graphFollowsUptoRow.holds Try.pinned (OpenSpec.upto graphFollowsSpec)

/-- 'turntablelaw08.GraphReaches', WHERE WHAT IT READS IS OF BULK AT MOST 1048576: true; the input reads as it did. -/
def graphReachesUptoRow : OpenClaim := { program := "ytebfbfgighmedaa", sum := "153023bb4138302c1f259199b5891ea8fbf0d8eb5a993754586467b14a7f4335", func := "turntable/turntablelaw08.GraphReaches", spec := "graphReaches", unfollowed := true, recurses := true, apart := false, narrowed := true }
def GraphReachesUptoSaid : Prop := graphReachesUptoRow.holds Try.pinned (OpenSpec.upto graphReachesSpec)

/-- 'turntablelaw08.GraphRounds', WHERE WHAT IT READS IS OF BULK AT MOST 1048576: true; the input reads as it did. -/
def graphRoundsUptoRow : OpenClaim := { program := "ytebfbfgighmedaa", sum := "153023bb4138302c1f259199b5891ea8fbf0d8eb5a993754586467b14a7f4335", func := "turntable/turntablelaw08.GraphRounds", spec := "graphRounds", unfollowed := true, recurses := true, apart := false, narrowed := true }
def GraphRoundsUptoSaid : Prop := graphRoundsUptoRow.holds Try.pinned (OpenSpec.upto graphRoundsSpec)

end Rows
end Go.Proofs.Ytebfbfgighmedaa
