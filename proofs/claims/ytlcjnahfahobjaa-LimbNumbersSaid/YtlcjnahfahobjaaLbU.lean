/- limb: what Shift comes to, in numbers. -/
import Derived.Test.YtlcjnahfahobjaaLbT
namespace Go.Proofs.Ytlcjnahfahobjaa.Lb
open Go.RowKit Go.Proofs.YtlcjnahfahobjaaW.PrintWords Go.Proofs.YtlcjnahfahobjaaW.PrintLast Go.Proofs.YtlcjnahfahobjaaW.PrintMore
set_option linter.unusedVariables false
set_option linter.unusedSimpArgs false

/-- `Shift`'s answer. -/
def shiftS (s : Bool) (l : List Int) (b : Int) : Bool × List Int × Int :=
  if rightB s l then
    (if nv l = 0 then (false, [], 0) else if 262144 - (bitN (nv l) : Int) < b then (false, [], 3) else if 0 ≤ b then mkS (iv s l * 2 ^ b.toNat) else mkS (iv s l / 2 ^ (-b).toNat))
  else (false, [], 2)
theorem mkS_sign (s : Bool) (n : Nat) : mkS (if s then -(n : Int) else n) = toldS s n := by
  unfold mkS
  have e : (if s then -(n : Int) else n).natAbs = n := by cases s <;> simp
  rw [e]
  refine toldS_eq _ _ _ (fun h => ?_)
  cases s <;> simp <;> omega
theorem pow_cast (k : Nat) : ((2 ^ k : Nat) : Int) = (2 : Int) ^ k := by simp
theorem shift_up {s : Bool} {l : List Int} {b : Nat} (hr : rightB s l = true) (h0 : nv l ≠ 0) (h1 : ¬ 262144 - (bitN (nv l) : Int) < b) : shiftS s l b = toldS s (nv l * 2 ^ b) := by
  unfold shiftS
  rw [if_pos hr, if_neg h0, if_neg h1, if_pos (by omega), ← mkS_sign]
  congr 1
  rw [Int.toNat_natCast, ← pow_cast]
  unfold iv
  cases s
  · simp
  · simp [Int.neg_mul]
theorem neg_div_pos (n d : Nat) (hd : 0 < d) : (-(n : Int)) / (d : Int) = if n % d = 0 then -((n / d : Nat) : Int) else -((n / d : Nat) : Int) - 1 := by
  have h := Nat.div_add_mod n d
  have hm := Nat.mod_lt n hd
  split
  · rename_i h0
    have e : (-(n : Int)) = (d : Int) * (-((n / d : Nat) : Int)) := by
      rw [Int.mul_neg, ← Int.natCast_mul]; omega
    rw [e, Int.mul_ediv_cancel_left _ (by omega)]
  · rename_i h0
    have e : (-(n : Int)) = ((d : Int) - ((n % d : Nat) : Int)) + (d : Int) * (-((n / d : Nat) : Int) - 1) := by
      rw [Int.mul_sub, Int.mul_neg, ← Int.natCast_mul]; omega
    rw [e, Int.add_mul_ediv_left _ _ (by omega), Int.ediv_eq_zero_of_lt (by omega) (by omega)]
    omega
theorem bits_len {l : List Int} (ho : okL l) : bitN (nv l) ≤ 64 * l.length := by
  rw [bitN_le, ← B64_pow2]
  exact nv_lt ho
theorem shift_down {s : Bool} {l : List Int} {k : Nat} (ho : okL l) (hr : rightB s l = true) (h0 : nv l ≠ 0) (hk : 0 < k) :
    shiftS s l (-(k : Int)) = if s && decide (nv l % 2 ^ k ≠ 0) then mkS (-((nv l / 2 ^ k : Nat) : Int) - 1) else toldS s (nv l / 2 ^ k) := by
  have hb : bitN (nv l) ≤ 262144 := by
    have := bits_len ho
    have := right_len hr
    omega
  unfold shiftS
  rw [if_pos hr, if_neg h0, if_neg (by omega), if_neg (by omega)]
  rw [show (-(-(k : Int))).toNat = k by omega, ← pow_cast]
  unfold iv
  cases s
  · simp only [Bool.false_eq_true, if_false, Bool.false_and]
    rw [← mkS_sign]
    rfl
  · simp only [if_true, Bool.true_and, decide_eq_true_eq]
    rw [neg_div_pos _ _ (Nat.two_pow_pos k)]
    by_cases hz : nv l % 2 ^ k = 0
    · rw [if_pos hz, if_neg (by simpa using hz), ← mkS_sign]
      rfl
    · rw [if_neg hz, if_pos hz]
theorem shift_low_pos {l : List Int} {B : Nat} (ho : okL l) (hr : rightB false l = true) (h0 : nv l ≠ 0) (hb : bitN (nv l) ≤ B) (h1 : ¬ 262144 - (bitN (nv l) : Int) < -(B : Int)) (hB : 0 < B) : shiftS false l (-(B : Int)) = (false, [], 0) := by
  rw [shift_down ho hr h0 hB]
  have hlt := bitN_le.1 hb
  rw [Nat.div_eq_of_lt hlt]
  simp [toldS, toL_zero]
theorem shift_low_neg {l : List Int} {B : Nat} (ho : okL l) (hr : rightB true l = true) (h0 : nv l ≠ 0) (hb : bitN (nv l) ≤ B) (h1 : ¬ 262144 - (bitN (nv l) : Int) < -(B : Int)) (hB : 0 < B) : shiftS true l (-(B : Int)) = ((ofS (-1)).1, (ofS (-1)).2, 0) := by
  rw [shift_down ho hr h0 hB]
  have hlt := bitN_le.1 hb
  rw [Nat.div_eq_of_lt hlt, Nat.mod_eq_of_lt hlt, if_pos (by simpa using h0), ← ofS_told (-1) (by decide) (by decide)]
  rfl
theorem one_lt_k (k : Nat) (h : 1 ≤ k) : 1 < B64 ^ k := Nat.lt_of_lt_of_le (show 1 < B64 ^ 1 by decide) (Nat.pow_le_pow_right (by decide) h)
theorem one_lt : 1 < B64 ^ 4096 := one_lt_k 4096 (by omega)
theorem of1_right : rightB (ofS 1).1 (ofS 1).2 = true := right_toL false 1 one_lt (fun h => absurd h (by decide))
theorem of1_iv : iv (ofS 1).1 (ofS 1).2 = 1 := by
  unfold ofS iv
  simp [nv_toL]
theorem of_len (n : Int) (h0 : -9223372036854775808 ≤ n) (h1 : n ≤ 9223372036854775807) : (ofS n).2.length ≤ 1 := length_toL_le.2 (by unfold B64; omega)
theorem shift_sub {l : List Int} {B : Nat} (ho : okL l) (hr : rightB true l = true) (h0 : nv l ≠ 0) (hB : 0 < B) (hm : nv l % 2 ^ B ≠ 0) :
    shiftS true l (-(B : Int)) = subS (toldS true (nv l / 2 ^ B)).1 (toldS true (nv l / 2 ^ B)).2.1 (ofS 1).1 (ofS 1).2 := by
  have hlt : nv l / 2 ^ B < B64 ^ 4096 := Nat.lt_of_le_of_lt (Nat.div_le_self _ _) (nv_small hr ho)
  rw [shift_down ho hr h0 hB, if_pos (by simpa using hm)]
  unfold subS
  rw [toldS_right, of1_right, of1_iv, (toldS_iv true _ hlt).2]
  rfl
end Go.Proofs.Ytlcjnahfahobjaa.Lb
