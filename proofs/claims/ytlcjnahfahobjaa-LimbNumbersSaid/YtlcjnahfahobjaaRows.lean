/-
  No cell of these rows narrows 'for every input' (looked for: loops, veiled, ifaces, maps, wideKeys, modest, calm, conditions, laid).
  DERIVED. THE GIVEN ROWS OF THIS SEAT. 7 by the template 'for every input the law returns true; each argument reads behind the call as it read before'; 0 by the template 'total and deterministic' (their statements: YtlcjnahfahobjaaTotals.lean).
  GIVEN WITH THE SEED: the statements are not yours to turn. If you find one false, say at which input.
  Laid BY PROGRAM, IN A SANDBOX (cutbox-rows.mjs): the forced cells as the released guide's own fill.sh prints them over the translation feb65fc81c856159… (all of the seat's roots in one cut). By AI agents, Wed Nov 11 2026. No macro, syntax, notation, axiom, sorry.
-/
import Derived.Test.YtlcjnahfahobjaaChecked
import GoSem.Claim
import GoSem.ClaimJoined
import GoSem.ClaimMapViews
import Derived.JoinedTies
import Derived.KernelRfl
namespace Go.Proofs.Ytlcjnahfahobjaa
/- THE CELL 'sum', in the pinned program and in every row, IS THE sha256 OF THE DUMP (.gsa) THAT YtlcjnahfahobjaaProg.lean LOADS. Nothing in Lean hashes anything: it is a label: what it is worth is what the hold of that sum in a sandbox is worth. -/
noncomputable def Try.pinned : Pinned := { name := "ytlcjnahfahobjaa", sum := "feb65fc81c8561590d1c1a806ce01643b98f60fab6c5cd883771e106aeb55888", checked := Try.checked }
namespace Rows
def none {H : Type} : Left H := { results := [], args := [] }

/-- 'rosettelaw13.LimbTwo': WHATEVER THE INPUT: true; the input reads as it did. -/
def limbTwoSpec : ChangeSpec := { name := "limbTwo", fn := fun _ => fun
  | [d1, d2] => { results := [.lit (.bool true)], args := [d1, d2] }
  | _ => none }
def limbTwoRow : OpenClaim := { program := "ytlcjnahfahobjaa", sum := "feb65fc81c8561590d1c1a806ce01643b98f60fab6c5cd883771e106aeb55888", func := "rosette/rosettelaw13.LimbTwo", spec := "limbTwo", inPlace := ["math/bits.Add64", "math/bits.Sub64"], unfollowed := true, recurses := true, apart := false }
def LimbTwoSaid : Prop := limbTwoRow.holds Try.pinned (OpenSpec.ofChange limbTwoSpec)

/-- ITS FALSE NEIGHBOUR: 'it returns false'. Refute it at one input. -/
def limbTwoWrong : ChangeSpec := { name := "limbTwo", fn := fun _ => fun
  | [d1, d2] => { results := [.lit (.bool false)], args := [d1, d2] }
  | _ => none }
def LimbTwoWrongFalsely : Prop := limbTwoRow.holds Try.pinned (OpenSpec.ofChange limbTwoWrong)

/-- 'rosettelaw13.LimbGroup': WHATEVER THE INPUT: true; the input reads as it did. -/
def limbGroupSpec : ChangeSpec := { name := "limbGroup", fn := fun _ => fun
  | [d1, d2, d3] => { results := [.lit (.bool true)], args := [d1, d2, d3] }
  | _ => none }
def limbGroupRow : OpenClaim := { program := "ytlcjnahfahobjaa", sum := "feb65fc81c8561590d1c1a806ce01643b98f60fab6c5cd883771e106aeb55888", func := "rosette/rosettelaw13.LimbGroup", spec := "limbGroup", inPlace := ["math/bits.Add64", "math/bits.Sub64"], unfollowed := true, recurses := true, apart := false }
def LimbGroupSaid : Prop := limbGroupRow.holds Try.pinned (OpenSpec.ofChange limbGroupSpec)

/-- ITS FALSE NEIGHBOUR: 'it returns false'. Refute it at one input. -/
def limbGroupWrong : ChangeSpec := { name := "limbGroup", fn := fun _ => fun
  | [d1, d2, d3] => { results := [.lit (.bool false)], args := [d1, d2, d3] }
  | _ => none }
def LimbGroupWrongFalsely : Prop := limbGroupRow.holds Try.pinned (OpenSpec.ofChange limbGroupWrong)

/-- 'rosettelaw13.LimbShifts': WHATEVER THE INPUT: true; the input reads as it did. -/
def limbShiftsSpec : ChangeSpec := { name := "limbShifts", fn := fun _ => fun
  | [d1, d2, d3] => { results := [.lit (.bool true)], args := [d1, d2, d3] }
  | _ => none }
def limbShiftsRow : OpenClaim := { program := "ytlcjnahfahobjaa", sum := "feb65fc81c8561590d1c1a806ce01643b98f60fab6c5cd883771e106aeb55888", func := "rosette/rosettelaw13.LimbShifts", spec := "limbShifts", inPlace := ["math/bits.Add64", "math/bits.Sub64"], unfollowed := true, recurses := true, apart := false }
def LimbShiftsSaid : Prop := limbShiftsRow.holds Try.pinned (OpenSpec.ofChange limbShiftsSpec)

/-- ITS FALSE NEIGHBOUR: 'it returns false'. Refute it at one input. -/
def limbShiftsWrong : ChangeSpec := { name := "limbShifts", fn := fun _ => fun
  | [d1, d2, d3] => { results := [.lit (.bool false)], args := [d1, d2, d3] }
  | _ => none }
def LimbShiftsWrongFalsely : Prop := limbShiftsRow.holds Try.pinned (OpenSpec.ofChange limbShiftsWrong)

/-- 'rosettelaw13.LimbSpares': WHATEVER THE INPUT: true; the input reads as it did. -/
def limbSparesSpec : ChangeSpec := { name := "limbSpares", fn := fun _ => fun
  | [d1, d2, d3] => { results := [.lit (.bool true)], args := [d1, d2, d3] }
  | _ => none }
def limbSparesRow : OpenClaim := { program := "ytlcjnahfahobjaa", sum := "feb65fc81c8561590d1c1a806ce01643b98f60fab6c5cd883771e106aeb55888", func := "rosette/rosettelaw13.LimbSpares", spec := "limbSpares", inPlace := ["math/bits.Add64", "math/bits.Sub64"], unfollowed := true, recurses := true, apart := false }
def LimbSparesSaid : Prop := limbSparesRow.holds Try.pinned (OpenSpec.ofChange limbSparesSpec)

/-- ITS FALSE NEIGHBOUR: 'it returns false'. Refute it at one input. -/
def limbSparesWrong : ChangeSpec := { name := "limbSpares", fn := fun _ => fun
  | [d1, d2, d3] => { results := [.lit (.bool false)], args := [d1, d2, d3] }
  | _ => none }
def LimbSparesWrongFalsely : Prop := limbSparesRow.holds Try.pinned (OpenSpec.ofChange limbSparesWrong)

/-- 'rosettelaw13.LimbNumbers': WHATEVER THE INPUT: true; the input reads as it did. -/
def limbNumbersSpec : ChangeSpec := { name := "limbNumbers", fn := fun _ => fun
  | [] => { results := [.lit (.bool true)], args := [] }
  | _ => none }
def limbNumbersRow : OpenClaim := { program := "ytlcjnahfahobjaa", sum := "feb65fc81c8561590d1c1a806ce01643b98f60fab6c5cd883771e106aeb55888", func := "rosette/rosettelaw13.LimbNumbers", spec := "limbNumbers", inPlace := ["math/bits.Add64", "math/bits.Sub64"], unfollowed := true, recurses := true, apart := false }
def LimbNumbersSaid : Prop := limbNumbersRow.holds Try.pinned (OpenSpec.ofChange limbNumbersSpec)

/-- ITS FALSE NEIGHBOUR: 'it returns false'. Refute it at one input. -/
def limbNumbersWrong : ChangeSpec := { name := "limbNumbers", fn := fun _ => fun
  | [] => { results := [.lit (.bool false)], args := [] }
  | _ => none }
def LimbNumbersWrongFalsely : Prop := limbNumbersRow.holds Try.pinned (OpenSpec.ofChange limbNumbersWrong)

/-- 'rosettelaw13.LimbOne': WHATEVER THE INPUT: true; the input reads as it did. -/
def limbOneSpec : ChangeSpec := { name := "limbOne", fn := fun _ => fun
  | [d1, d2, d3] => { results := [.lit (.bool true)], args := [d1, d2, d3] }
  | _ => none }
def limbOneRow : OpenClaim := { program := "ytlcjnahfahobjaa", sum := "feb65fc81c8561590d1c1a806ce01643b98f60fab6c5cd883771e106aeb55888", func := "rosette/rosettelaw13.LimbOne", spec := "limbOne", inPlace := ["math/bits.Add64", "math/bits.Sub64"], unfollowed := true, recurses := true, apart := false }
def LimbOneSaid : Prop := limbOneRow.holds Try.pinned (OpenSpec.ofChange limbOneSpec)

/-- ITS FALSE NEIGHBOUR: 'it returns false'. Refute it at one input. -/
def limbOneWrong : ChangeSpec := { name := "limbOne", fn := fun _ => fun
  | [d1, d2, d3] => { results := [.lit (.bool false)], args := [d1, d2, d3] }
  | _ => none }
def LimbOneWrongFalsely : Prop := limbOneRow.holds Try.pinned (OpenSpec.ofChange limbOneWrong)

/-- 'rosettelaw13.LimbOrder': WHATEVER THE INPUT: true; the input reads as it did. -/
def limbOrderSpec : ChangeSpec := { name := "limbOrder", fn := fun _ => fun
  | [d1, d2, d3, d4, d5] => { results := [.lit (.bool true)], args := [d1, d2, d3, d4, d5] }
  | _ => none }
def limbOrderRow : OpenClaim := { program := "ytlcjnahfahobjaa", sum := "feb65fc81c8561590d1c1a806ce01643b98f60fab6c5cd883771e106aeb55888", func := "rosette/rosettelaw13.LimbOrder", spec := "limbOrder", inPlace := ["math/bits.Add64", "math/bits.Sub64"], unfollowed := true, recurses := true, apart := false }
def LimbOrderSaid : Prop := limbOrderRow.holds Try.pinned (OpenSpec.ofChange limbOrderSpec)

/-- ITS FALSE NEIGHBOUR: 'it returns false'. Refute it at one input. -/
def limbOrderWrong : ChangeSpec := { name := "limbOrder", fn := fun _ => fun
  | [d1, d2, d3, d4, d5] => { results := [.lit (.bool false)], args := [d1, d2, d3, d4, d5] }
  | _ => none }
def LimbOrderWrongFalsely : Prop := limbOrderRow.holds Try.pinned (OpenSpec.ofChange limbOrderWrong)

/- THE SECOND FORM. 'bulk': how many values and letters a reading holds, each counted each time it is reached (what is shared counts as often as it is met; a slice's spare places count too). A statement '..UptoSaid' is the law's where the arguments, and the package variables that the reading takes, are together of bulk at most 1048576: NARROWER than '..Said'. Prove '..Said' where nothing that the law and all that it calls make is longer than what came in: it says more and counts as full. Else prove '..UptoSaid'. A law counts once. -/
mutual
def uptoBulk {H : Type} : DataW H → Nat
  | .lit (.string bytes) => bytes.length + 1
  | .lit _ => 1
  | .nil => 1
  | .ptr d => uptoBulk d + 1
  | .slice elems spare => uptoBulkAll elems + uptoBulkAll spare + 1
  | .agg parts => uptoBulkAll parts + 1
  | .iface _ d => uptoBulk d + 1
  | .map entries => uptoBulkEntries entries + 1
  | .held _ => 1
def uptoBulkAll {H : Type} : List (DataW H) → Nat
  | [] => 0
  | d :: r => uptoBulk d + uptoBulkAll r
def uptoBulkEntries {H : Type} : List (Lit × DataW H) → Nat
  | [] => 0
  | x :: r => uptoBulkEntry x + uptoBulkEntries r
def uptoBulkEntry {H : Type} : Lit × DataW H → Nat
  | (.string bytes, d) => bytes.length + uptoBulk d + 1
  | (_, d) => uptoBulk d + 1
 end
def uptoSmall : (H : Type) → List (DataW H) → Bool := fun _ ds => decide (uptoBulkAll ds ≤ 1048576)
def OpenSpec.upto (s : _root_.Go.ChangeSpec) : _root_.Go.OpenSpec := { _root_.Go.OpenSpec.ofChange s with cond := some uptoSmall }

/-- 'rosettelaw13.LimbTwo', WHERE WHAT IT READS IS OF BULK AT MOST 1048576: true; the input reads as it did. -/
def limbTwoUptoRow : OpenClaim := { program := "ytlcjnahfahobjaa", sum := "feb65fc81c8561590d1c1a806ce01643b98f60fab6c5cd883771e106aeb55888", func := "rosette/rosettelaw13.LimbTwo", spec := "limbTwo", inPlace := ["math/bits.Add64", "math/bits.Sub64"], unfollowed := true, recurses := true, apart := false, narrowed := true }
def LimbTwoUptoSaid : Prop := limbTwoUptoRow.holds Try.pinned (OpenSpec.upto limbTwoSpec)

/-- 'rosettelaw13.LimbGroup', WHERE WHAT IT READS IS OF BULK AT MOST 1048576: true; the input reads as it did. -/
def limbGroupUptoRow : OpenClaim := { program := "ytlcjnahfahobjaa", sum := "feb65fc81c8561590d1c1a806ce01643b98f60fab6c5cd883771e106aeb55888", func := "rosette/rosettelaw13.LimbGroup", spec := "limbGroup", inPlace := ["math/bits.Add64", "math/bits.Sub64"], unfollowed := true, recurses := true, apart := false, narrowed := true }
def LimbGroupUptoSaid : Prop := limbGroupUptoRow.holds Try.pinned (OpenSpec.upto limbGroupSpec)

/-- 'rosettelaw13.LimbShifts', WHERE WHAT IT READS IS OF BULK AT MOST 1048576: true; the input reads as it did. -/
def limbShiftsUptoRow : OpenClaim := { program := "ytlcjnahfahobjaa", sum := "feb65fc81c8561590d1c1a806ce01643b98f60fab6c5cd883771e106aeb55888", func := "rosette/rosettelaw13.LimbShifts", spec := "limbShifts", inPlace := ["math/bits.Add64", "math/bits.Sub64"], unfollowed := true, recurses := true, apart := false, narrowed := true }
def LimbShiftsUptoSaid : Prop := limbShiftsUptoRow.holds Try.pinned (OpenSpec.upto limbShiftsSpec)

/-- 'rosettelaw13.LimbSpares', WHERE WHAT IT READS IS OF BULK AT MOST 1048576: true; the input reads as it did. -/
def limbSparesUptoRow : OpenClaim := { program := "ytlcjnahfahobjaa", sum := "feb65fc81c8561590d1c1a806ce01643b98f60fab6c5cd883771e106aeb55888", func := "rosette/rosettelaw13.LimbSpares", spec := "limbSpares", inPlace := ["math/bits.Add64", "math/bits.Sub64"], unfollowed := true, recurses := true, apart := false, narrowed := true }
def LimbSparesUptoSaid : Prop := limbSparesUptoRow.holds Try.pinned (OpenSpec.upto limbSparesSpec)

/-- 'rosettelaw13.LimbNumbers', WHERE WHAT IT READS IS OF BULK AT MOST 1048576: true; the input reads as it did. -/
def limbNumbersUptoRow : OpenClaim := { program := "ytlcjnahfahobjaa", sum := "feb65fc81c8561590d1c1a806ce01643b98f60fab6c5cd883771e106aeb55888", func := "rosette/rosettelaw13.LimbNumbers", spec := "limbNumbers", inPlace := ["math/bits.Add64", "math/bits.Sub64"], unfollowed := true, recurses := true, apart := false, narrowed := true }
def LimbNumbersUptoSaid : Prop := limbNumbersUptoRow.holds Try.pinned (OpenSpec.upto limbNumbersSpec)

/-- 'rosettelaw13.LimbOne', WHERE WHAT IT READS IS OF BULK AT MOST 1048576: true; the input reads as it did. -/
def limbOneUptoRow : OpenClaim := { program := "ytlcjnahfahobjaa", sum := "feb65fc81c8561590d1c1a806ce01643b98f60fab6c5cd883771e106aeb55888", func := "rosette/rosettelaw13.LimbOne", spec := "limbOne", inPlace := ["math/bits.Add64", "math/bits.Sub64"], unfollowed := true, recurses := true, apart := false, narrowed := true }
def LimbOneUptoSaid : Prop := limbOneUptoRow.holds Try.pinned (OpenSpec.upto limbOneSpec)

/-- 'rosettelaw13.LimbOrder', WHERE WHAT IT READS IS OF BULK AT MOST 1048576: true; the input reads as it did. -/
def limbOrderUptoRow : OpenClaim := { program := "ytlcjnahfahobjaa", sum := "feb65fc81c8561590d1c1a806ce01643b98f60fab6c5cd883771e106aeb55888", func := "rosette/rosettelaw13.LimbOrder", spec := "limbOrder", inPlace := ["math/bits.Add64", "math/bits.Sub64"], unfollowed := true, recurses := true, apart := false, narrowed := true }
def LimbOrderUptoSaid : Prop := limbOrderUptoRow.holds Try.pinned (OpenSpec.upto limbOrderSpec)

end Rows
end Go.Proofs.Ytlcjnahfahobjaa
