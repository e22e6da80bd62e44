/- times: products of whole numbers: what is told, plain. -/
import Derived.Test.YtplignahjhenjaaPoI
import Derived.Test.YtplignahjhenjaaPoSc
set_option linter.unusedVariables false
namespace Go.Proofs.Ytplignahjhenjaa.Lb

/-- A number of so many limbs is so great. -/
theorem lm_ge {z : Int} {k : Nat} (h : k < (lm z).length) : B64 ^ k ≤ z.natAbs := by
  rcases Nat.lt_or_ge z.natAbs (B64 ^ k) with h1 | h1
  · have := length_toL_le.2 h1
    unfold lm at h
    omega
  · exact h1
theorem lm_nil {z : Int} (h : (lm z).length = 0) : z = 0 := by
  have h1 := length_toL_le.1 (Nat.le_of_eq h)
  rw [Nat.pow_zero] at h1
  omega
theorem lm_pos {z : Int} (h : z ≠ 0) : 0 < (lm z).length := by
  rcases Nat.eq_zero_or_pos (lm z).length with h1 | h1
  · exact absurd (lm_nil h1) h
  · exact h1
/-- So many limbs together: the product is too long. -/
theorem mul_over (K : Nat) {a b : Int} (ha : 0 < (lm a).length) (hb : 0 < (lm b).length) (h : K + 1 < (lm a).length + (lm b).length) : ¬ lim K (a * b) := by
  unfold lim
  rw [Int.natAbs_mul]
  have h1 := lm_ge (show (lm a).length - 1 < (lm a).length by omega)
  have h2 := lm_ge (show (lm b).length - 1 < (lm b).length by omega)
  have h3 := Nat.mul_le_mul h1 h2
  rw [← Nat.pow_add] at h3
  have h4 : B64 ^ K ≤ B64 ^ ((lm a).length - 1 + ((lm b).length - 1)) := Nat.pow_le_pow_right (by decide) (by omega)
  omega
theorem sg_mul (a b : Int) : sg (a * b) = (decide (0 < (lm (a * b)).length) && (sg a != sg b)) := by
  by_cases ha : a = 0
  · subst ha
    simp [sg, lm, toL_zero]
  · by_cases hb : b = 0
    · subst hb
      simp [sg, lm, toL_zero]
    · have hab : a * b ≠ 0 := Int.mul_ne_zero ha hb
      have h1 := lm_pos hab
      rw [decide_eq_true h1, Bool.true_and]
      unfold sg
      rcases Int.lt_or_gt_of_ne ha with h2 | h2 <;> rcases Int.lt_or_gt_of_ne hb with h3 | h3
      · have := Int.mul_pos_of_neg_of_neg h2 h3
        rw [decide_eq_true h2, decide_eq_true h3, decide_eq_false (by omega)]
        rfl
      · have := Int.mul_neg_of_neg_of_pos h2 h3
        rw [decide_eq_true h2, decide_eq_false (show ¬ b < 0 by omega), decide_eq_true this]
        rfl
      · have := Int.mul_neg_of_pos_of_neg h2 h3
        rw [decide_eq_false (show ¬ a < 0 by omega), decide_eq_true h3, decide_eq_true this]
        rfl
      · have := Int.mul_pos h2 h3
        rw [decide_eq_false (show ¬ a < 0 by omega), decide_eq_false (show ¬ b < 0 by omega), decide_eq_false (show ¬ a * b < 0 by omega)]
        rfl
/-- What the product comes to: its limbs are too many, or it is told. -/
theorem mul_told (K : Nat) (hK : K = 4096) (a b : Int) : mkS (a * b) = if K < (lm (a * b)).length then (false, [], 3) else (decide (0 < (lm (a * b)).length) && (sg a != sg b), lm (a * b), 0) := by
  by_cases h : K < (lm (a * b)).length
  · rw [if_pos h]
    refine mkS_big fun hl => ?_
    have := lm_len hl
    omega
  · rw [if_neg h, ← sg_mul]
    refine mkS_lim ?_
    rw [← hK]
    exact length_toL_le.1 (by unfold lm at h; omega)
end Go.Proofs.Ytplignahjhenjaa.Lb
