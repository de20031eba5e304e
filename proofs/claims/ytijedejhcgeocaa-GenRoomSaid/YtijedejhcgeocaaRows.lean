/-
  No cell of these rows narrows 'for every input' (looked for: loops, veiled, ifaces, maps, wideKeys, modest, calm, conditions, laid).
  DERIVED. THE GIVEN ROWS OF THIS SEAT. 12 by the template 'for every input the law returns true; each argument reads behind the call as it read before'; 0 by the template 'total and deterministic' (their statements: YtijedejhcgeocaaTotals.lean).
  GIVEN WITH THE SEED: the statements are not yours to turn. If you find one false, say at which input.
  Laid BY PROGRAM, IN A SANDBOX (cutbox-rows.mjs): the forced cells as the released guide's own fill.sh prints them over the translation cd77e8f6c103298b… (all of the seat's roots in one cut). By AI agents, Wed Nov 11 2026. No macro, syntax, notation, axiom, sorry.
-/
import Derived.Test.YtijedejhcgeocaaChecked
import GoSem.Claim
import GoSem.ClaimJoined
import GoSem.ClaimMapViews
import Derived.JoinedTies
import Derived.KernelRfl
namespace Go.Proofs.Ytijedejhcgeocaa
/- THE CELL 'sum', in the pinned program and in every row, IS THE sha256 OF THE DUMP (.gsa) THAT YtijedejhcgeocaaProg.lean LOADS. Nothing in Lean hashes anything: it is a label: what it is worth is what the hold of that sum in a sandbox is worth. -/
noncomputable def Try.pinned : Pinned := { name := "ytijedejhcgeocaa", sum := "cd77e8f6c103298bcc26202e1fdc05f1c813af4b5a9e96dcb948c24ff418dfcb", checked := Try.checked }
namespace Rows
def none {H : Type} : Left H := { results := [], args := [] }

/-- 'turntablelaw26.SpaceAlike': WHATEVER THE INPUT: true; the input reads as it did. -/
def spaceAlikeSpec : ChangeSpec := { name := "spaceAlike", fn := fun _ => fun
  | [d1, d2, d3, d4] => { results := [.lit (.bool true)], args := [d1, d2, d3, d4] }
  | _ => none }
def spaceAlikeRow : OpenClaim := { program := "ytijedejhcgeocaa", sum := "cd77e8f6c103298bcc26202e1fdc05f1c813af4b5a9e96dcb948c24ff418dfcb", func := "turntable/turntablelaw26.SpaceAlike", spec := "spaceAlike", unfollowed := true, recurses := true, apart := false }
def SpaceAlikeSaid : Prop := spaceAlikeRow.holds Try.pinned (OpenSpec.ofChange spaceAlikeSpec)

/-- ITS FALSE NEIGHBOUR: 'it returns false'. Refute it at one input. -/
def spaceAlikeWrong : ChangeSpec := { name := "spaceAlike", fn := fun _ => fun
  | [d1, d2, d3, d4] => { results := [.lit (.bool false)], args := [d1, d2, d3, d4] }
  | _ => none }
def SpaceAlikeWrongFalsely : Prop := spaceAlikeRow.holds Try.pinned (OpenSpec.ofChange spaceAlikeWrong)

/-- 'turntablelaw26.SpaceDoes': WHATEVER THE INPUT: true; the input reads as it did. -/
def spaceDoesSpec : ChangeSpec := { name := "spaceDoes", fn := fun _ => fun
  | [d1, d2] => { results := [.lit (.bool true)], args := [d1, d2] }
  | _ => none }
def spaceDoesRow : OpenClaim := { program := "ytijedejhcgeocaa", sum := "cd77e8f6c103298bcc26202e1fdc05f1c813af4b5a9e96dcb948c24ff418dfcb", func := "turntable/turntablelaw26.SpaceDoes", spec := "spaceDoes", unfollowed := true, recurses := true, apart := false }
def SpaceDoesSaid : Prop := spaceDoesRow.holds Try.pinned (OpenSpec.ofChange spaceDoesSpec)

/-- ITS FALSE NEIGHBOUR: 'it returns false'. Refute it at one input. -/
def spaceDoesWrong : ChangeSpec := { name := "spaceDoes", fn := fun _ => fun
  | [d1, d2] => { results := [.lit (.bool false)], args := [d1, d2] }
  | _ => none }
def SpaceDoesWrongFalsely : Prop := spaceDoesRow.holds Try.pinned (OpenSpec.ofChange spaceDoesWrong)

/-- 'turntablelaw26.SpaceMoves': WHATEVER THE INPUT: true; the input reads as it did. -/
def spaceMovesSpec : ChangeSpec := { name := "spaceMoves", fn := fun _ => fun
  | [d1, d2, d3, d4] => { results := [.lit (.bool true)], args := [d1, d2, d3, d4] }
  | _ => none }
def spaceMovesRow : OpenClaim := { program := "ytijedejhcgeocaa", sum := "cd77e8f6c103298bcc26202e1fdc05f1c813af4b5a9e96dcb948c24ff418dfcb", func := "turntable/turntablelaw26.SpaceMoves", spec := "spaceMoves", unfollowed := true, recurses := true, apart := false }
def SpaceMovesSaid : Prop := spaceMovesRow.holds Try.pinned (OpenSpec.ofChange spaceMovesSpec)

/-- ITS FALSE NEIGHBOUR: 'it returns false'. Refute it at one input. -/
def spaceMovesWrong : ChangeSpec := { name := "spaceMoves", fn := fun _ => fun
  | [d1, d2, d3, d4] => { results := [.lit (.bool false)], args := [d1, d2, d3, d4] }
  | _ => none }
def SpaceMovesWrongFalsely : Prop := spaceMovesRow.holds Try.pinned (OpenSpec.ofChange spaceMovesWrong)

/-- 'turntablelaw28.CanonPools': WHATEVER THE INPUT: true; the input reads as it did. -/
def canonPoolsSpec : ChangeSpec := { name := "canonPools", fn := fun _ => fun
  | [d1, d2] => { results := [.lit (.bool true)], args := [d1, d2] }
  | _ => none }
def canonPoolsRow : OpenClaim := { program := "ytijedejhcgeocaa", sum := "cd77e8f6c103298bcc26202e1fdc05f1c813af4b5a9e96dcb948c24ff418dfcb", func := "turntable/turntablelaw28.CanonPools", spec := "canonPools", unfollowed := true, recurses := true, apart := false }
def CanonPoolsSaid : Prop := canonPoolsRow.holds Try.pinned (OpenSpec.ofChange canonPoolsSpec)

/-- ITS FALSE NEIGHBOUR: 'it returns false'. Refute it at one input. -/
def canonPoolsWrong : ChangeSpec := { name := "canonPools", fn := fun _ => fun
  | [d1, d2] => { results := [.lit (.bool false)], args := [d1, d2] }
  | _ => none }
def CanonPoolsWrongFalsely : Prop := canonPoolsRow.holds Try.pinned (OpenSpec.ofChange canonPoolsWrong)

/-- 'turntablelaw28.CanonChecks': WHATEVER THE INPUT: true; the input reads as it did. -/
def canonChecksSpec : ChangeSpec := { name := "canonChecks", fn := fun _ => fun
  | [d1, d2] => { results := [.lit (.bool true)], args := [d1, d2] }
  | _ => none }
def canonChecksRow : OpenClaim := { program := "ytijedejhcgeocaa", sum := "cd77e8f6c103298bcc26202e1fdc05f1c813af4b5a9e96dcb948c24ff418dfcb", func := "turntable/turntablelaw28.CanonChecks", spec := "canonChecks", unfollowed := true, recurses := true, apart := false }
def CanonChecksSaid : Prop := canonChecksRow.holds Try.pinned (OpenSpec.ofChange canonChecksSpec)

/-- ITS FALSE NEIGHBOUR: 'it returns false'. Refute it at one input. -/
def canonChecksWrong : ChangeSpec := { name := "canonChecks", fn := fun _ => fun
  | [d1, d2] => { results := [.lit (.bool false)], args := [d1, d2] }
  | _ => none }
def CanonChecksWrongFalsely : Prop := canonChecksRow.holds Try.pinned (OpenSpec.ofChange canonChecksWrong)

/-- 'turntablelaw28.CanonTells': WHATEVER THE INPUT: true; the input reads as it did. -/
def canonTellsSpec : ChangeSpec := { name := "canonTells", fn := fun _ => fun
  | [d1, d2, d3] => { results := [.lit (.bool true)], args := [d1, d2, d3] }
  | _ => none }
def canonTellsRow : OpenClaim := { program := "ytijedejhcgeocaa", sum := "cd77e8f6c103298bcc26202e1fdc05f1c813af4b5a9e96dcb948c24ff418dfcb", func := "turntable/turntablelaw28.CanonTells", spec := "canonTells", unfollowed := true, recurses := true, apart := false }
def CanonTellsSaid : Prop := canonTellsRow.holds Try.pinned (OpenSpec.ofChange canonTellsSpec)

/-- ITS FALSE NEIGHBOUR: 'it returns false'. Refute it at one input. -/
def canonTellsWrong : ChangeSpec := { name := "canonTells", fn := fun _ => fun
  | [d1, d2, d3] => { results := [.lit (.bool false)], args := [d1, d2, d3] }
  | _ => none }
def CanonTellsWrongFalsely : Prop := canonTellsRow.holds Try.pinned (OpenSpec.ofChange canonTellsWrong)

/-- 'turntablelaw28.CanonMoves': WHATEVER THE INPUT: true; the input reads as it did. -/
def canonMovesSpec : ChangeSpec := { name := "canonMoves", fn := fun _ => fun
  | [d1, d2, d3, d4] => { results := [.lit (.bool true)], args := [d1, d2, d3, d4] }
  | _ => none }
def canonMovesRow : OpenClaim := { program := "ytijedejhcgeocaa", sum := "cd77e8f6c103298bcc26202e1fdc05f1c813af4b5a9e96dcb948c24ff418dfcb", func := "turntable/turntablelaw28.CanonMoves", spec := "canonMoves", unfollowed := true, recurses := true, apart := false }
def CanonMovesSaid : Prop := canonMovesRow.holds Try.pinned (OpenSpec.ofChange canonMovesSpec)

/-- ITS FALSE NEIGHBOUR: 'it returns false'. Refute it at one input. -/
def canonMovesWrong : ChangeSpec := { name := "canonMoves", fn := fun _ => fun
  | [d1, d2, d3, d4] => { results := [.lit (.bool false)], args := [d1, d2, d3, d4] }
  | _ => none }
def CanonMovesWrongFalsely : Prop := canonMovesRow.holds Try.pinned (OpenSpec.ofChange canonMovesWrong)

/-- 'turntablelaw28.CanonBack': WHATEVER THE INPUT: true; the input reads as it did. -/
def canonBackSpec : ChangeSpec := { name := "canonBack", fn := fun _ => fun
  | [d1, d2, d3, d4] => { results := [.lit (.bool true)], args := [d1, d2, d3, d4] }
  | _ => none }
def canonBackRow : OpenClaim := { program := "ytijedejhcgeocaa", sum := "cd77e8f6c103298bcc26202e1fdc05f1c813af4b5a9e96dcb948c24ff418dfcb", func := "turntable/turntablelaw28.CanonBack", spec := "canonBack", unfollowed := true, recurses := true, apart := false }
def CanonBackSaid : Prop := canonBackRow.holds Try.pinned (OpenSpec.ofChange canonBackSpec)

/-- ITS FALSE NEIGHBOUR: 'it returns false'. Refute it at one input. -/
def canonBackWrong : ChangeSpec := { name := "canonBack", fn := fun _ => fun
  | [d1, d2, d3, d4] => { results := [.lit (.bool false)], args := [d1, d2, d3, d4] }
  | _ => none }
def CanonBackWrongFalsely : Prop := canonBackRow.holds Try.pinned (OpenSpec.ofChange canonBackWrong)

/-- 'turntablelaw27.GenBegins': WHATEVER THE INPUT: true; the input reads as it did. -/
def genBeginsSpec : ChangeSpec := { name := "genBegins", fn := fun _ => fun
  | [d1, d2] => { results := [.lit (.bool true)], args := [d1, d2] }
  | _ => none }
def genBeginsRow : OpenClaim := { program := "ytijedejhcgeocaa", sum := "cd77e8f6c103298bcc26202e1fdc05f1c813af4b5a9e96dcb948c24ff418dfcb", func := "turntable/turntablelaw27.GenBegins", spec := "genBegins", unfollowed := true, recurses := true, apart := false }
def GenBeginsSaid : Prop := genBeginsRow.holds Try.pinned (OpenSpec.ofChange genBeginsSpec)

/-- ITS FALSE NEIGHBOUR: 'it returns false'. Refute it at one input. -/
def genBeginsWrong : ChangeSpec := { name := "genBegins", fn := fun _ => fun
  | [d1, d2] => { results := [.lit (.bool false)], args := [d1, d2] }
  | _ => none }
def GenBeginsWrongFalsely : Prop := genBeginsRow.holds Try.pinned (OpenSpec.ofChange genBeginsWrong)

/-- 'turntablelaw27.GenRoom': WHATEVER THE INPUT: true; the input reads as it did. -/
def genRoomSpec : ChangeSpec := { name := "genRoom", fn := fun _ => fun
  | [d1, d2] => { results := [.lit (.bool true)], args := [d1, d2] }
  | _ => none }
def genRoomRow : OpenClaim := { program := "ytijedejhcgeocaa", sum := "cd77e8f6c103298bcc26202e1fdc05f1c813af4b5a9e96dcb948c24ff418dfcb", func := "turntable/turntablelaw27.GenRoom", spec := "genRoom", unfollowed := true, recurses := true, apart := false }
def GenRoomSaid : Prop := genRoomRow.holds Try.pinned (OpenSpec.ofChange genRoomSpec)

/-- ITS FALSE NEIGHBOUR: 'it returns false'. Refute it at one input. -/
def genRoomWrong : ChangeSpec := { name := "genRoom", fn := fun _ => fun
  | [d1, d2] => { results := [.lit (.bool false)], args := [d1, d2] }
  | _ => none }
def GenRoomWrongFalsely : Prop := genRoomRow.holds Try.pinned (OpenSpec.ofChange genRoomWrong)

/-- 'turntablelaw27.GenAlike': WHATEVER THE INPUT: true; the input reads as it did. -/
def genAlikeSpec : ChangeSpec := { name := "genAlike", fn := fun _ => fun
  | [d1, d2, d3, d4, d5] => { results := [.lit (.bool true)], args := [d1, d2, d3, d4, d5] }
  | _ => none }
def genAlikeRow : OpenClaim := { program := "ytijedejhcgeocaa", sum := "cd77e8f6c103298bcc26202e1fdc05f1c813af4b5a9e96dcb948c24ff418dfcb", func := "turntable/turntablelaw27.GenAlike", spec := "genAlike", unfollowed := true, recurses := true, apart := false }
def GenAlikeSaid : Prop := genAlikeRow.holds Try.pinned (OpenSpec.ofChange genAlikeSpec)

/-- ITS FALSE NEIGHBOUR: 'it returns false'. Refute it at one input. -/
def genAlikeWrong : ChangeSpec := { name := "genAlike", fn := fun _ => fun
  | [d1, d2, d3, d4, d5] => { results := [.lit (.bool false)], args := [d1, d2, d3, d4, d5] }
  | _ => none }
def GenAlikeWrongFalsely : Prop := genAlikeRow.holds Try.pinned (OpenSpec.ofChange genAlikeWrong)

/-- 'turntablelaw27.GenSound': WHATEVER THE INPUT: true; the input reads as it did. -/
def genSoundSpec : ChangeSpec := { name := "genSound", fn := fun _ => fun
  | [d1, d2, d3] => { results := [.lit (.bool true)], args := [d1, d2, d3] }
  | _ => none }
def genSoundRow : OpenClaim := { program := "ytijedejhcgeocaa", sum := "cd77e8f6c103298bcc26202e1fdc05f1c813af4b5a9e96dcb948c24ff418dfcb", func := "turntable/turntablelaw27.GenSound", spec := "genSound", unfollowed := true, recurses := true, apart := false }
def GenSoundSaid : Prop := genSoundRow.holds Try.pinned (OpenSpec.ofChange genSoundSpec)

/-- ITS FALSE NEIGHBOUR: 'it returns false'. Refute it at one input. -/
def genSoundWrong : ChangeSpec := { name := "genSound", fn := fun _ => fun
  | [d1, d2, d3] => { results := [.lit (.bool false)], args := [d1, d2, d3] }
  | _ => none }
def GenSoundWrongFalsely : Prop := genSoundRow.holds Try.pinned (OpenSpec.ofChange genSoundWrong)

/- THE SECOND FORM. 'bulk': how many values and letters a reading holds, each counted each time it is reached (what is shared counts as often as it is met; a slice's spare places count too). A statement '..UptoSaid' is the law's where the arguments, and the package variables that the reading takes, are together of bulk at most 1048576: NARROWER than '..Said'. Prove '..Said' where nothing that the law and all that it calls make is longer than what came in: it says more and counts as full. Else prove '..UptoSaid'. A law counts once. -/
mutual
def uptoBulk {H : Type} : DataW H → Nat
  | .lit (.string bytes) => bytes.length + 1
  | .lit _ => 1
  | .nil => 1
  | .ptr d => uptoBulk d + 1
  | .slice elems spare => uptoBulkAll elems + uptoBulkAll spare + 1
  | .agg parts => uptoBulkAll parts + 1
  | .iface _ d => uptoBulk d + 1
  | .map entries => uptoBulkEntries entries + 1
  | .held _ => 1
def uptoBulkAll {H : Type} : List (DataW H) → Nat
  | [] => 0
  | d :: r => uptoBulk d + uptoBulkAll r
def uptoBulkEntries {H : Type} : List (Lit × DataW H) → Nat
  | [] => 0
  | x :: r => uptoBulkEntry x + uptoBulkEntries r
def uptoBulkEntry {H : Type} : Lit × DataW H → Nat
  | (.string bytes, d) => bytes.length + uptoBulk d + 1
  | (_, d) => uptoBulk d + 1
 end
def uptoSmall : (H : Type) → List (DataW H) → Bool := fun _ ds => decide (uptoBulkAll ds ≤ 1048576)
def OpenSpec.upto (s : _root_.Go.ChangeSpec) : _root_.Go.OpenSpec := { _root_.Go.OpenSpec.ofChange s with cond := some uptoSmall }

/-- 'turntablelaw26.SpaceAlike', WHERE WHAT IT READS IS OF BULK AT MOST 1048576: true; the input reads as it did. -/
def spaceAlikeUptoRow : OpenClaim := { program := "ytijedejhcgeocaa", sum := "cd77e8f6c103298bcc26202e1fdc05f1c813af4b5a9e96dcb948c24ff418dfcb", func := "turntable/turntablelaw26.SpaceAlike", spec := "spaceAlike", unfollowed := true, recurses := true, apart := false, narrowed := true }
def SpaceAlikeUptoSaid : Prop := spaceAlikeUptoRow.holds Try.pinned (OpenSpec.upto spaceAlikeSpec)

/-- 'turntablelaw26.SpaceDoes', WHERE WHAT IT READS IS OF BULK AT MOST 1048576: true; the input reads as it did. -/
def spaceDoesUptoRow : OpenClaim := { program := "ytijedejhcgeocaa", sum := "cd77e8f6c103298bcc26202e1fdc05f1c813af4b5a9e96dcb948c24ff418dfcb", func := "turntable/turntablelaw26.SpaceDoes", spec := "spaceDoes", unfollowed := true, recurses := true, apart := false, narrowed := true }
def SpaceDoesUptoSaid : Prop := spaceDoesUptoRow.holds Try.pinned (OpenSpec.upto spaceDoesSpec)

/-- 'turntablelaw26.SpaceMoves', WHERE WHAT IT READS IS OF BULK AT MOST 1048576: true; the input reads as it did. -/
def spaceMovesUptoRow : OpenClaim := { program := "ytijedejhcgeocaa", sum := "cd77e8f6c103298bcc26202e1fdc05f1c813af4b5a9e96dcb948c24ff418dfcb", func := "turntable/turntablelaw26.SpaceMoves", spec := "spaceMoves", unfollowed := true, recurses := true, apart := false, narrowed := true }
def SpaceMovesUptoSaid : Prop := spaceMovesUptoRow.holds Try.pinned (OpenSpec.upto spaceMovesSpec)

/-- 'turntablelaw28.CanonPools', WHERE WHAT IT READS IS OF BULK AT MOST 1048576: true; the input reads as it did. -/
def canonPoolsUptoRow : OpenClaim := { program := "ytijedejhcgeocaa", sum := "cd77e8f6c103298bcc26202e1fdc05f1c813af4b5a9e96dcb948c24ff418dfcb", func := "turntable/turntablelaw28.CanonPools", spec := "canonPools", unfollowed := true, recurses := true, apart := false, narrowed := true }
def CanonPoolsUptoSaid : Prop := canonPoolsUptoRow.holds Try.pinned (OpenSpec.upto canonPoolsSpec)

/-- 'turntablelaw28.CanonChecks', WHERE WHAT IT READS IS OF BULK AT MOST 1048576: true; the input reads as it did. -/
def canonChecksUptoRow : OpenClaim := { program := "ytijedejhcgeocaa", sum := "cd77e8f6c103298bcc26202e1fdc05f1c813af4b5a9e96dcb948c24ff418dfcb", func := "turntable/turntablelaw28.CanonChecks", spec := "canonChecks", unfollowed := true, recurses := true, apart := false, narrowed := true }
def CanonChecksUptoSaid : Prop := canonChecksUptoRow.holds Try.pinned (OpenSpec.upto canonChecksSpec)

/-- 'turntablelaw28.CanonTells', WHERE WHAT IT READS IS OF BULK AT MOST 1048576: true; the input reads as it did. -/
def canonTellsUptoRow : OpenClaim := { program := "ytijedejhcgeocaa", sum := "cd77e8f6c103298bcc26202e1fdc05f1c813af4b5a9e96dcb948c24ff418dfcb", func := "turntable/turntablelaw28.CanonTells", spec := "canonTells", unfollowed := true, recurses := true, apart := false, narrowed := true }
def CanonTellsUptoSaid : Prop := canonTellsUptoRow.holds Try.pinned (OpenSpec.upto canonTellsSpec)

/-- 'turntablelaw28.CanonMoves', WHERE WHAT IT READS IS OF BULK AT MOST 1048576: true; the input reads as it did. -/
def canonMovesUptoRow : OpenClaim := { program := "ytijedejhcgeocaa", sum := "cd77e8f6c103298bcc26202e1fdc05f1c813af4b5a9e96dcb948c24ff418dfcb", func := "turntable/turntablelaw28.CanonMoves", spec := "canonMoves", unfollowed := true, recurses := true, apart := false, narrowed := true }
def CanonMovesUptoSaid : Prop := canonMovesUptoRow.holds Try.pinned (OpenSpec.upto canonMovesSpec)

/-- 'turntablelaw28.CanonBack', WHERE WHAT IT READS IS OF BULK AT MOST 1048576: true; the input reads as it did. -/
def canonBackUptoRow : OpenClaim := { program := "ytijedejhcgeocaa", sum := "cd77e8f6c103298bcc26202e1fdc05f1c813af4b5a9e96dcb948c24ff418dfcb", func := "turntable/turntablelaw28.CanonBack", spec := "canonBack", unfollowed := true, recurses := true, apart := false, narrowed := true }
def CanonBackUptoSaid : Prop := canonBackUptoRow.holds Try.pinned (OpenSpec.upto canonBackSpec)

/-- 'turntablelaw27.GenBegins', WHERE WHAT IT READS IS OF BULK AT MOST 1048576: true; the input reads as it did. -/
def genBeginsUptoRow : OpenClaim := { program := "ytijedejhcgeocaa", sum := "cd77e8f6c103298bcc26202e1fdc05f1c813af4b5a9e96dcb948c24ff418dfcb", func := "turntable/turntablelaw27.GenBegins", spec := "genBegins", unfollowed := true, recurses := true, apart := false, narrowed := true }
def GenBeginsUptoSaid : Prop := genBeginsUptoRow.holds Try.pinned (OpenSpec.upto genBeginsSpec)

/-- 'turntablelaw27.GenRoom', WHERE WHAT IT READS IS OF BULK AT MOST 1048576: true; the input reads as it did. -/
def genRoomUptoRow : OpenClaim := { program := "ytijedejhcgeocaa", sum := "cd77e8f6c103298bcc26202e1fdc05f1c813af4b5a9e96dcb948c24ff418dfcb", func := "turntable/turntablelaw27.GenRoom", spec := "genRoom", unfollowed := true, recurses := true, apart := false, narrowed := true }
def GenRoomUptoSaid : Prop := genRoomUptoRow.holds Try.pinned (OpenSpec.upto genRoomSpec)

/-- 'turntablelaw27.GenAlike', WHERE WHAT IT READS IS OF BULK AT MOST 1048576: true; the input reads as it did. -/
def genAlikeUptoRow : OpenClaim := { program := "ytijedejhcgeocaa", sum := "cd77e8f6c103298bcc26202e1fdc05f1c813af4b5a9e96dcb948c24ff418dfcb", func := "turntable/turntablelaw27.GenAlike", spec := "genAlike", unfollowed := true, recurses := true, apart := false, narrowed := true }
def GenAlikeUptoSaid : Prop := genAlikeUptoRow.holds Try.pinned (OpenSpec.upto genAlikeSpec)

/-- 'turntablelaw27.GenSound', WHERE WHAT IT READS IS OF BULK AT MOST 1048576: true; the input reads as it did. -/
def genSoundUptoRow : OpenClaim := { program := "ytijedejhcgeocaa", sum := "cd77e8f6c103298bcc26202e1fdc05f1c813af4b5a9e96dcb948c24ff418dfcb", func := "turntable/turntablelaw27.GenSound", spec := "genSound", unfollowed := true, recurses := true, apart := false, narrowed := true }
def GenSoundUptoSaid : Prop := genSoundUptoRow.holds Try.pinned (OpenSpec.upto genSoundSpec)

end Rows
end Go.Proofs.Ytijedejhcgeocaa
