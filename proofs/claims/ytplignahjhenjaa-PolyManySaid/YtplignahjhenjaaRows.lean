/-
  No cell of these rows narrows 'for every input' (looked for: loops, veiled, ifaces, maps, wideKeys, modest, calm, conditions, laid).
  DERIVED. THE GIVEN ROWS OF THIS SEAT. 7 by the template 'for every input the law returns true; each argument reads behind the call as it read before'; 0 by the template 'total and deterministic' (their statements: YtplignahjhenjaaTotals.lean).
  GIVEN WITH THE SEED: the statements are not yours to turn. If you find one false, say at which input.
  Laid BY PROGRAM, IN A SANDBOX (cutbox-rows.mjs): the forced cells as the released guide's own fill.sh prints them over the translation cc5033593d785522… (all of the seat's roots in one cut). By AI agents, Wed Nov 11 2026. No macro, syntax, notation, axiom, sorry.
-/
import Derived.Test.YtplignahjhenjaaChecked
import GoSem.Claim
import GoSem.ClaimJoined
import GoSem.ClaimMapViews
import Derived.JoinedTies
import Derived.KernelRfl
namespace Go.Proofs.Ytplignahjhenjaa
/- THE CELL 'sum', in the pinned program and in every row, IS THE sha256 OF THE DUMP (.gsa) THAT YtplignahjhenjaaProg.lean LOADS. Nothing in Lean hashes anything: it is a label: what it is worth is what the hold of that sum in a sandbox is worth. -/
noncomputable def Try.pinned : Pinned := { name := "ytplignahjhenjaa", sum := "cc5033593d7855225547681d0263cd5c3e162991a718310eec7f5813fa5ed8e5", checked := Try.checked }
namespace Rows
def none {H : Type} : Left H := { results := [], args := [] }

/-- 'rosettelaw23.PolyMoves': WHATEVER THE INPUT: true; the input reads as it did. -/
def polyMovesSpec : ChangeSpec := { name := "polyMoves", fn := fun _ => fun
  | [d1, d2] => { results := [.lit (.bool true)], args := [d1, d2] }
  | _ => none }
def polyMovesRow : OpenClaim := { program := "ytplignahjhenjaa", sum := "cc5033593d7855225547681d0263cd5c3e162991a718310eec7f5813fa5ed8e5", func := "rosette/rosettelaw23.PolyMoves", spec := "polyMoves", inPlace := ["math/bits.Add64", "math/bits.Sub64"], unfollowed := true, recurses := true, apart := false }
def PolyMovesSaid : Prop := polyMovesRow.holds Try.pinned (OpenSpec.ofChange polyMovesSpec)

/-- ITS FALSE NEIGHBOUR: 'it returns false'. Refute it at one input. -/
def polyMovesWrong : ChangeSpec := { name := "polyMoves", fn := fun _ => fun
  | [d1, d2] => { results := [.lit (.bool false)], args := [d1, d2] }
  | _ => none }
def PolyMovesWrongFalsely : Prop := polyMovesRow.holds Try.pinned (OpenSpec.ofChange polyMovesWrong)

/-- 'rosettelaw23.PolyMany': WHATEVER THE INPUT: true; the input reads as it did. -/
def polyManySpec : ChangeSpec := { name := "polyMany", fn := fun _ => fun
  | [d] => { results := [.lit (.bool true)], args := [d] }
  | _ => none }
def polyManyRow : OpenClaim := { program := "ytplignahjhenjaa", sum := "cc5033593d7855225547681d0263cd5c3e162991a718310eec7f5813fa5ed8e5", func := "rosette/rosettelaw23.PolyMany", spec := "polyMany", inPlace := ["math/bits.Add64", "math/bits.Sub64"], unfollowed := true, recurses := true, apart := false }
def PolyManySaid : Prop := polyManyRow.holds Try.pinned (OpenSpec.ofChange polyManySpec)

/-- ITS FALSE NEIGHBOUR: 'it returns false'. Refute it at one input. -/
def polyManyWrong : ChangeSpec := { name := "polyMany", fn := fun _ => fun
  | [d] => { results := [.lit (.bool false)], args := [d] }
  | _ => none }
def PolyManyWrongFalsely : Prop := polyManyRow.holds Try.pinned (OpenSpec.ofChange polyManyWrong)

/-- 'rosettelaw23.PolyTells': WHATEVER THE INPUT: true; the input reads as it did. -/
def polyTellsSpec : ChangeSpec := { name := "polyTells", fn := fun _ => fun
  | [d1, d2] => { results := [.lit (.bool true)], args := [d1, d2] }
  | _ => none }
def polyTellsRow : OpenClaim := { program := "ytplignahjhenjaa", sum := "cc5033593d7855225547681d0263cd5c3e162991a718310eec7f5813fa5ed8e5", func := "rosette/rosettelaw23.PolyTells", spec := "polyTells", inPlace := ["math/bits.Add64", "math/bits.Sub64"], unfollowed := true, recurses := true, apart := false }
def PolyTellsSaid : Prop := polyTellsRow.holds Try.pinned (OpenSpec.ofChange polyTellsSpec)

/-- ITS FALSE NEIGHBOUR: 'it returns false'. Refute it at one input. -/
def polyTellsWrong : ChangeSpec := { name := "polyTells", fn := fun _ => fun
  | [d1, d2] => { results := [.lit (.bool false)], args := [d1, d2] }
  | _ => none }
def PolyTellsWrongFalsely : Prop := polyTellsRow.holds Try.pinned (OpenSpec.ofChange polyTellsWrong)

/-- 'rosettelaw23.PolyWorth': WHATEVER THE INPUT: true; the input reads as it did. -/
def polyWorthSpec : ChangeSpec := { name := "polyWorth", fn := fun _ => fun
  | [d1, d2, d3, d4] => { results := [.lit (.bool true)], args := [d1, d2, d3, d4] }
  | _ => none }
def polyWorthRow : OpenClaim := { program := "ytplignahjhenjaa", sum := "cc5033593d7855225547681d0263cd5c3e162991a718310eec7f5813fa5ed8e5", func := "rosette/rosettelaw23.PolyWorth", spec := "polyWorth", inPlace := ["math/bits.Add64", "math/bits.Sub64"], unfollowed := true, recurses := true, apart := false }
def PolyWorthSaid : Prop := polyWorthRow.holds Try.pinned (OpenSpec.ofChange polyWorthSpec)

/-- ITS FALSE NEIGHBOUR: 'it returns false'. Refute it at one input. -/
def polyWorthWrong : ChangeSpec := { name := "polyWorth", fn := fun _ => fun
  | [d1, d2, d3, d4] => { results := [.lit (.bool false)], args := [d1, d2, d3, d4] }
  | _ => none }
def PolyWorthWrongFalsely : Prop := polyWorthRow.holds Try.pinned (OpenSpec.ofChange polyWorthWrong)

/-- 'rosettelaw23.PolyLaws': WHATEVER THE INPUT: true; the input reads as it did. -/
def polyLawsSpec : ChangeSpec := { name := "polyLaws", fn := fun _ => fun
  | [d1, d2, d3, d4] => { results := [.lit (.bool true)], args := [d1, d2, d3, d4] }
  | _ => none }
def polyLawsRow : OpenClaim := { program := "ytplignahjhenjaa", sum := "cc5033593d7855225547681d0263cd5c3e162991a718310eec7f5813fa5ed8e5", func := "rosette/rosettelaw23.PolyLaws", spec := "polyLaws", inPlace := ["math/bits.Add64", "math/bits.Sub64"], unfollowed := true, recurses := true, apart := false }
def PolyLawsSaid : Prop := polyLawsRow.holds Try.pinned (OpenSpec.ofChange polyLawsSpec)

/-- ITS FALSE NEIGHBOUR: 'it returns false'. Refute it at one input. -/
def polyLawsWrong : ChangeSpec := { name := "polyLaws", fn := fun _ => fun
  | [d1, d2, d3, d4] => { results := [.lit (.bool false)], args := [d1, d2, d3, d4] }
  | _ => none }
def PolyLawsWrongFalsely : Prop := polyLawsRow.holds Try.pinned (OpenSpec.ofChange polyLawsWrong)

/-- 'rosettelaw23.PolyBack': WHATEVER THE INPUT: true; the input reads as it did. -/
def polyBackSpec : ChangeSpec := { name := "polyBack", fn := fun _ => fun
  | [d1, d2, d3] => { results := [.lit (.bool true)], args := [d1, d2, d3] }
  | _ => none }
def polyBackRow : OpenClaim := { program := "ytplignahjhenjaa", sum := "cc5033593d7855225547681d0263cd5c3e162991a718310eec7f5813fa5ed8e5", func := "rosette/rosettelaw23.PolyBack", spec := "polyBack", inPlace := ["math/bits.Add64", "math/bits.Sub64"], unfollowed := true, recurses := true, apart := false }
def PolyBackSaid : Prop := polyBackRow.holds Try.pinned (OpenSpec.ofChange polyBackSpec)

/-- ITS FALSE NEIGHBOUR: 'it returns false'. Refute it at one input. -/
def polyBackWrong : ChangeSpec := { name := "polyBack", fn := fun _ => fun
  | [d1, d2, d3] => { results := [.lit (.bool false)], args := [d1, d2, d3] }
  | _ => none }
def PolyBackWrongFalsely : Prop := polyBackRow.holds Try.pinned (OpenSpec.ofChange polyBackWrong)

/-- 'rosettelaw23.PolyKeeps': WHATEVER THE INPUT: true; the input reads as it did. -/
def polyKeepsSpec : ChangeSpec := { name := "polyKeeps", fn := fun _ => fun
  | [d1, d2, d3] => { results := [.lit (.bool true)], args := [d1, d2, d3] }
  | _ => none }
def polyKeepsRow : OpenClaim := { program := "ytplignahjhenjaa", sum := "cc5033593d7855225547681d0263cd5c3e162991a718310eec7f5813fa5ed8e5", func := "rosette/rosettelaw23.PolyKeeps", spec := "polyKeeps", inPlace := ["math/bits.Add64", "math/bits.Sub64"], unfollowed := true, recurses := true, apart := false }
def PolyKeepsSaid : Prop := polyKeepsRow.holds Try.pinned (OpenSpec.ofChange polyKeepsSpec)

/-- ITS FALSE NEIGHBOUR: 'it returns false'. Refute it at one input. -/
def polyKeepsWrong : ChangeSpec := { name := "polyKeeps", fn := fun _ => fun
  | [d1, d2, d3] => { results := [.lit (.bool false)], args := [d1, d2, d3] }
  | _ => none }
def PolyKeepsWrongFalsely : Prop := polyKeepsRow.holds Try.pinned (OpenSpec.ofChange polyKeepsWrong)

/- THE SECOND FORM. 'bulk': how many values and letters a reading holds, each counted each time it is reached (what is shared counts as often as it is met; a slice's spare places count too). A statement '..UptoSaid' is the law's where the arguments, and the package variables that the reading takes, are together of bulk at most 1048576: NARROWER than '..Said'. Prove '..Said' where nothing that the law and all that it calls make is longer than what came in: it says more and counts as full. Else prove '..UptoSaid'. A law counts once. -/
mutual
def uptoBulk {H : Type} : DataW H → Nat
  | .lit (.string bytes) => bytes.length + 1
  | .lit _ => 1
  | .nil => 1
  | .ptr d => uptoBulk d + 1
  | .slice elems spare => uptoBulkAll elems + uptoBulkAll spare + 1
  | .agg parts => uptoBulkAll parts + 1
  | .iface _ d => uptoBulk d + 1
  | .map entries => uptoBulkEntries entries + 1
  | .held _ => 1
def uptoBulkAll {H : Type} : List (DataW H) → Nat
  | [] => 0
  | d :: r => uptoBulk d + uptoBulkAll r
def uptoBulkEntries {H : Type} : List (Lit × DataW H) → Nat
  | [] => 0
  | x :: r => uptoBulkEntry x + uptoBulkEntries r
def uptoBulkEntry {H : Type} : Lit × DataW H → Nat
  | (.string bytes, d) => bytes.length + uptoBulk d + 1
  | (_, d) => uptoBulk d + 1
 end
def uptoSmall : (H : Type) → List (DataW H) → Bool := fun _ ds => decide (uptoBulkAll ds ≤ 1048576)
def OpenSpec.upto (s : _root_.Go.ChangeSpec) : _root_.Go.OpenSpec := { _root_.Go.OpenSpec.ofChange s with cond := some uptoSmall }

/-- 'rosettelaw23.PolyMoves', WHERE WHAT IT READS IS OF BULK AT MOST 1048576: true; the input reads as it did. -/
def polyMovesUptoRow : OpenClaim := { program := "ytplignahjhenjaa", sum := "cc5033593d7855225547681d0263cd5c3e162991a718310eec7f5813fa5ed8e5", func := "rosette/rosettelaw23.PolyMoves", spec := "polyMoves", inPlace := ["math/bits.Add64", "math/bits.Sub64"], unfollowed := true, recurses := true, apart := false, narrowed := true }
def PolyMovesUptoSaid : Prop := polyMovesUptoRow.holds Try.pinned (OpenSpec.upto polyMovesSpec)

/-- 'rosettelaw23.PolyMany', WHERE WHAT IT READS IS OF BULK AT MOST 1048576: true; the input reads as it did. -/
def polyManyUptoRow : OpenClaim := { program := "ytplignahjhenjaa", sum := "cc5033593d7855225547681d0263cd5c3e162991a718310eec7f5813fa5ed8e5", func := "rosette/rosettelaw23.PolyMany", spec := "polyMany", inPlace := ["math/bits.Add64", "math/bits.Sub64"], unfollowed := true, recurses := true, apart := false, narrowed := true }
def PolyManyUptoSaid : Prop := polyManyUptoRow.holds Try.pinned (OpenSpec.upto polyManySpec)

/-- 'rosettelaw23.PolyTells', WHERE WHAT IT READS IS OF BULK AT MOST 1048576: true; the input reads as it did. -/
def polyTellsUptoRow : OpenClaim := { program := "ytplignahjhenjaa", sum := "cc5033593d7855225547681d0263cd5c3e162991a718310eec7f5813fa5ed8e5", func := "rosette/rosettelaw23.PolyTells", spec := "polyTells", inPlace := ["math/bits.Add64", "math/bits.Sub64"], unfollowed := true, recurses := true, apart := false, narrowed := true }
def PolyTellsUptoSaid : Prop := polyTellsUptoRow.holds Try.pinned (OpenSpec.upto polyTellsSpec)

/-- 'rosettelaw23.PolyWorth', WHERE WHAT IT READS IS OF BULK AT MOST 1048576: true; the input reads as it did. -/
def polyWorthUptoRow : OpenClaim := { program := "ytplignahjhenjaa", sum := "cc5033593d7855225547681d0263cd5c3e162991a718310eec7f5813fa5ed8e5", func := "rosette/rosettelaw23.PolyWorth", spec := "polyWorth", inPlace := ["math/bits.Add64", "math/bits.Sub64"], unfollowed := true, recurses := true, apart := false, narrowed := true }
def PolyWorthUptoSaid : Prop := polyWorthUptoRow.holds Try.pinned (OpenSpec.upto polyWorthSpec)

/-- 'rosettelaw23.PolyLaws', WHERE WHAT IT READS IS OF BULK AT MOST 1048576: true; the input reads as it did. -/
def polyLawsUptoRow : OpenClaim := { program := "ytplignahjhenjaa", sum := "cc5033593d7855225547681d0263cd5c3e162991a718310eec7f5813fa5ed8e5", func := "rosette/rosettelaw23.PolyLaws", spec := "polyLaws", inPlace := ["math/bits.Add64", "math/bits.Sub64"], unfollowed := true, recurses := true, apart := false, narrowed := true }
def PolyLawsUptoSaid : Prop := polyLawsUptoRow.holds Try.pinned (OpenSpec.upto polyLawsSpec)

/-- 'rosettelaw23.PolyBack', WHERE WHAT IT READS IS OF BULK AT MOST 1048576: true; the input reads as it did. -/
def polyBackUptoRow : OpenClaim := { program := "ytplignahjhenjaa", sum := "cc5033593d7855225547681d0263cd5c3e162991a718310eec7f5813fa5ed8e5", func := "rosette/rosettelaw23.PolyBack", spec := "polyBack", inPlace := ["math/bits.Add64", "math/bits.Sub64"], unfollowed := true, recurses := true, apart := false, narrowed := true }
def PolyBackUptoSaid : Prop := polyBackUptoRow.holds Try.pinned (OpenSpec.upto polyBackSpec)

/-- 'rosettelaw23.PolyKeeps', WHERE WHAT IT READS IS OF BULK AT MOST 1048576: true; the input reads as it did. -/
def polyKeepsUptoRow : OpenClaim := { program := "ytplignahjhenjaa", sum := "cc5033593d7855225547681d0263cd5c3e162991a718310eec7f5813fa5ed8e5", func := "rosette/rosettelaw23.PolyKeeps", spec := "polyKeeps", inPlace := ["math/bits.Add64", "math/bits.Sub64"], unfollowed := true, recurses := true, apart := false, narrowed := true }
def PolyKeepsUptoSaid : Prop := polyKeepsUptoRow.holds Try.pinned (OpenSpec.upto polyKeepsSpec)

end Rows
end Go.Proofs.Ytplignahjhenjaa
