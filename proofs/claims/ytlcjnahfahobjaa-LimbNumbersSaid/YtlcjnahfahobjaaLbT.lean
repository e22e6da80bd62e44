/- limb: Bits. -/
import Derived.Test.YtlcjnahfahobjaaLbS
namespace Go.Proofs.Ytlcjnahfahobjaa.Lb
open Go.RowKit Go.Proofs.YtlcjnahfahobjaaW.PrintWords Go.Proofs.YtlcjnahfahobjaaW.PrintLast Go.Proofs.YtlcjnahfahobjaaW.PrintMore
set_option linter.unusedVariables false
set_option linter.unusedSimpArgs false

/-- How many bits a number has. -/
def bitN (n : Nat) : Nat := if n = 0 then 0 else n.log2 + 1
theorem bitN_le {n k : Nat} : bitN n ≤ k ↔ n < 2 ^ k := by
  unfold bitN
  split
  · rename_i h
    subst h
    exact ⟨fun _ => Nat.two_pow_pos k, fun _ => Nat.zero_le _⟩
  · rename_i h
    rw [← Nat.log2_lt h]; omega
theorem bitN_zero : bitN 0 = 0 := rfl
theorem bitN_of {n k : Nat} (h1 : n < 2 ^ (k + 1)) (h2 : 2 ^ k ≤ n) : bitN n = k + 1 := by
  have a := bitN_le.2 h1
  have b : ¬ bitN n ≤ k := fun h => by have := bitN_le.1 h; omega
  omega
theorem bitN_pos {n : Nat} (h : n ≠ 0) : ∃ k, bitN n = k + 1 ∧ 2 ^ k ≤ n := by
  refine ⟨n.log2, by unfold bitN; rw [if_neg h], ?_⟩
  have : ¬ bitN n ≤ n.log2 := by unfold bitN; rw [if_neg h]; omega
  rw [bitN_le] at this
  omega
theorem bitLenAux_bitN : ∀ (f x : Nat), x < 2 ^ f → Lib.bitLenAux f x = bitN x
  | 0, x, h => by
    have : x = 0 := by simpa using h
    subst this; rfl
  | f + 1, x, h => by
    unfold Lib.bitLenAux
    split
    · rename_i h0; subst h0; rfl
    · rename_i h0
      rw [bitLenAux_bitN f (x / 2) (by rw [Nat.pow_succ] at h; omega)]
      obtain ⟨k, hk, hk2⟩ := bitN_pos h0
      rw [hk]
      have h3 := (bitN_le (n := x) (k := k + 1)).1 (by omega)
      cases k with
      | zero =>
        have : x = 1 := by simp at h3; omega
        subst this; rfl
      | succ k =>
        rw [Nat.pow_succ] at h3 hk2
        rw [bitN_of (n := x / 2) (k := k) (by omega) (by omega)]
        omega
theorem bitLen_bitN (x : Nat) (h : x < 2 ^ 64) : Lib.bitLen x = bitN x := bitLenAux_bitN 64 x h
theorem bitN_top {l : List Int} (ho : okL l) {k : Nat} (hl : l.length = k + 1) (hx : l.getD k 0 ≠ 0) : bitN (nv l) = 64 * k + bitN (l.getD k 0).toNat := by
  have h := getD_ok ho k
  have hs := nv_take_succ l k
  rw [List.take_of_length_le (by omega)] at hs
  have hlt := nv_lt (okL_take ho k)
  rw [List.length_take, Nat.min_eq_left (by omega), B64_pow2] at hlt
  rw [B64_pow2] at hs
  obtain ⟨j, hj, hj2⟩ := bitN_pos (n := (l.getD k 0).toNat) (by omega)
  have hj3 := (bitN_le (n := (l.getD k 0).toNat) (k := j + 1)).1 (by omega)
  rw [hj, hs, ← Nat.add_assoc]
  generalize (l.getD k 0).toNat = x at *
  refine bitN_of ?_ ?_
  · rw [show 64 * k + j + 1 = 64 * k + (j + 1) by omega, Nat.pow_add]
    have := Nat.mul_le_mul_left (2 ^ (64 * k)) (Nat.succ_le_of_lt hj3)
    rw [Nat.mul_succ] at this
    omega
  · rw [Nat.pow_add]
    have := Nat.mul_le_mul_left (2 ^ (64 * k)) hj2
    omega
theorem bits_f (s : Bool) (l : List Int) (ho : okL l) (hm : l.length ≤ 9223372036854775807) : PA.limb_Bits.f s l = some (if rightB s l then ((bitN (nv l) : Nat) : Int) else 0, if rightB s l then 0 else 2) := by
  unfold PA.limb_Bits.f
  rw [right_f s l hm]
  simp only [Option.bind_some]
  by_cases hr : rightB s l = true
  · have hl := right_len hr
    rw [hr]
    simp only [if_true]
    by_cases h0 : l.length = 0
    · rw [if_neg (by omega)]
      rw [List.eq_nil_of_length_eq_zero h0]
      rfl
    · obtain ⟨k, hk⟩ : ∃ k, l.length = k + 1 := ⟨l.length - 1, by omega⟩
      have hx : l.getD k 0 ≠ 0 := by
        unfold rightB at hr
        rw [if_neg h0] at hr
        simp only [Bool.and_eq_true, bne_iff_ne, ne_eq, decide_eq_true_eq] at hr
        have := hr.2
        rwa [hk, Nat.add_sub_cancel] at this
      have hg := getD_ok ho k
      have hw : wrap64 ((l.length : Int) - 1) = (k : Int) := by unfold wrap64; omega
      rw [if_pos (by omega), hw, if_pos (by omega), if_pos (by omega)]
      have e1 : rd l (k : Int) = l.getD k 0 := by simp [rd]
      rw [e1]
      unfold PA.bits_LeadingZeros64.f PA.bits_Len64.f
      rw [if_pos (by omega)]
      simp only [Option.bind_some]
      rw [bitLen_bitN _ (by omega), bitN_top ho hk hx]
      have hb := (bitN_le (n := (l.getD k 0).toNat) (k := 64)).2 (by omega)
      generalize bitN (l.getD k 0).toNat = b at *
      refine congrArg some (Prod.ext ?_ rfl)
      show wrap64 (wrap64 (64 * (l.length : Int)) - wrap64 (64 - (b : Int))) = _
      unfold wrap64
      omega
  · have hr : rightB s l = false := by simpa using hr
    rw [hr]
    simp
end Go.Proofs.Ytlcjnahfahobjaa.Lb
