/- limb: LimbNumbers: the numbers laid. -/
import Derived.Test.YtlcjnahfahobjaaLbNh
namespace Go.Proofs.Ytlcjnahfahobjaa.Lb
open Go.RowKit
set_option linter.unusedVariables false
set_option linter.unusedSimpArgs false
theorem pow_told (n : Nat) (h : n = 262143) : ((if rightB false (toL (2 ^ n)) then ((bitN (nv (toL (2 ^ n))) : Nat) : Int) else 0), (if rightB false (toL (2 ^ n)) then (0 : Int) else 2)) = (262144, 0) := by
  rw [pow_right n (by omega), pow_bits n, if_pos rfl, if_pos rfl]
  refine Prod.ext ?_ rfl
  show ((n + 1 : Nat) : Int) = 262144
  omega
theorem less1_len (n : Nat) : (less1 n).length = n + 1 := by unfold less1; simp [ones_len]
theorem less1_head (n : Nat) : (less1 n).getD 0 0 = 18446744073709551614 := by unfold less1; rfl
theorem numbers_n (n : Nat) (h : n = 262143) (w : World) :
    Calls Try.prog 7 #[] w fun e w' => e = .returned (.bool true) ∧ Below w.heap.size w w' := by
  refine numbers_c w (ones 4096) (less1 4095) ⟨rfl⟩ ⟨rfl⟩ ⟨ones_ok _⟩ ⟨by rw [ones_len]; omega⟩ ⟨big_add⟩ ⟨big_sub⟩ ⟨big_sub1⟩ ⟨less1_ok 4095⟩ ⟨less1_len 4095⟩ ⟨less1_head 4095⟩ ⟨s13⟩ (toL (2 ^ n)) ⟨?_⟩ ⟨pow_told n h⟩ ⟨okL_toL _⟩ ⟨?_⟩ 4097 ⟨rfl⟩
  · have h1 := pow_shift n (by omega)
    rwa [show ((n : Nat) : Int) = 262143 by omega] at h1
  · have h1 := pow_lim n (by omega)
    omega
theorem numbers_all (w : World) :
    Calls Try.prog 7 #[] w fun e w' => e = .returned (.bool true) ∧ Below w.heap.size w w' := numbers_n _ rfl w
end Go.Proofs.Ytlcjnahfahobjaa.Lb
