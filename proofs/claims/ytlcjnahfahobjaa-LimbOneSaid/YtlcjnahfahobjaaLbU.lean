/- limb: what Shift comes to, in numbers. -/
import Derived.Test.YtlcjnahfahobjaaLbS
/- limb: Bits. -/
namespace Go.Proofs.Ytlcjnahfahobjaa.Lb
open Go.RowKit Go.Proofs.YtlcjnahfahobjaaW.PrintWords Go.Proofs.YtlcjnahfahobjaaW.PrintLast Go.Proofs.YtlcjnahfahobjaaW.PrintMore
set_option linter.unusedVariables false
set_option linter.unusedSimpArgs false

/-- How many bits a number has. -/
def bitN (n : Nat) : Nat := if n = 0 then 0 else n.log2 + 1
theorem bitN_le {n k : Nat} : bitN n ≤ k ↔ n < 2 ^ k := by
  unfold bitN
  split
  · rename_i h
    subst h
    exact ⟨fun _ => Nat.two_pow_pos k, fun _ => Nat.zero_le _⟩
  · rename_i h
    rw [← Nat.log2_lt h]; omega
theorem bitN_zero : bitN 0 = 0 := rfl
theorem bitN_of {n k : Nat} (h1 : n < 2 ^ (k + 1)) (h2 : 2 ^ k ≤ n) : bitN n = k + 1 := by
  have a := bitN_le.2 h1
  have b : ¬ bitN n ≤ k := fun h => by have := bitN_le.1 h; omega
  omega
theorem bitN_pos {n : Nat} (h : n ≠ 0) : ∃ k, bitN n = k + 1 ∧ 2 ^ k ≤ n := by
  refine ⟨n.log2, by unfold bitN; rw [if_neg h], ?_⟩
  have : ¬ bitN n ≤ n.log2 := by unfold bitN; rw [if_neg h]; omega
  rw [bitN_le] at this
  omega
theorem bitLenAux_bitN : ∀ (f x : Nat), x < 2 ^ f → Lib.bitLenAux f x = bitN x
  | 0, x, h => by
    have : x = 0 := by simpa using h
    subst this; rfl
  | f + 1, x, h => by
    unfold Lib.bitLenAux
    split
    · rename_i h0; subst h0; rfl
    · rename_i h0
      rw [bitLenAux_bitN f (x / 2) (by rw [Nat.pow_succ] at h; omega)]
      obtain ⟨k, hk, hk2⟩ := bitN_pos h0
      rw [hk]
      have h3 := (bitN_le (n := x) (k := k + 1)).1 (by omega)
      cases k with
      | zero =>
        have : x = 1 := by simp at h3; omega
        subst this; rfl
      | succ k =>
        rw [Nat.pow_succ] at h3 hk2
        rw [bitN_of (n := x / 2) (k := k) (by omega) (by omega)]
        omega
theorem bitLen_bitN (x : Nat) (h : x < 2 ^ 64) : Lib.bitLen x = bitN x := bitLenAux_bitN 64 x h
theorem bitN_top {l : List Int} (ho : okL l) {k : Nat} (hl : l.length = k + 1) (hx : l.getD k 0 ≠ 0) : bitN (nv l) = 64 * k + bitN (l.getD k 0).toNat := by
  have h := getD_ok ho k
  have hs := nv_take_succ l k
  rw [List.take_of_length_le (by omega)] at hs
  have hlt := nv_lt (okL_take ho k)
  rw [List.length_take, Nat.min_eq_left (by omega), B64_pow2] at hlt
  rw [B64_pow2] at hs
  obtain ⟨j, hj, hj2⟩ := bitN_pos (n := (l.getD k 0).toNat) (by omega)
  have hj3 := (bitN_le (n := (l.getD k 0).toNat) (k := j + 1)).1 (by omega)
  rw [hj, hs, ← Nat.add_assoc]
  generalize (l.getD k 0).toNat = x at *
  refine bitN_of ?_ ?_
  · rw [show 64 * k + j + 1 = 64 * k + (j + 1) by omega, Nat.pow_add]
    have := Nat.mul_le_mul_left (2 ^ (64 * k)) (Nat.succ_le_of_lt hj3)
    rw [Nat.mul_succ] at this
    omega
  · rw [Nat.pow_add]
    have := Nat.mul_le_mul_left (2 ^ (64 * k)) hj2
    omega
theorem bits_f (s : Bool) (l : List Int) (ho : okL l) (hm : l.length ≤ 9223372036854775807) : PA.limb_Bits.f s l = some (if rightB s l then ((bitN (nv l) : Nat) : Int) else 0, if rightB s l then 0 else 2) := by
  unfold PA.limb_Bits.f
  rw [right_f s l hm]
  simp only [Option.bind_some]
  by_cases hr : rightB s l = true
  · have hl := right_len hr
    rw [hr]
    simp only [if_true]
    by_cases h0 : l.length = 0
    · rw [if_neg (by omega)]
      rw [List.eq_nil_of_length_eq_zero h0]
      rfl
    · obtain ⟨k, hk⟩ : ∃ k, l.length = k + 1 := ⟨l.length - 1, by omega⟩
      have hx : l.getD k 0 ≠ 0 := by
        unfold rightB at hr
        rw [if_neg h0] at hr
        simp only [Bool.and_eq_true, bne_iff_ne, ne_eq, decide_eq_true_eq] at hr
        have := hr.2
        rwa [hk, Nat.add_sub_cancel] at this
      have hg := getD_ok ho k
      have hw : wrap64 ((l.length : Int) - 1) = (k : Int) := by unfold wrap64; omega
      rw [if_pos (by omega), hw, if_pos (by omega), if_pos (by omega)]
      have e1 : rd l (k : Int) = l.getD k 0 := by simp [rd]
      rw [e1]
      unfold PA.bits_LeadingZeros64.f PA.bits_Len64.f
      rw [if_pos (by omega)]
      simp only [Option.bind_some]
      rw [bitLen_bitN _ (by omega), bitN_top ho hk hx]
      have hb := (bitN_le (n := (l.getD k 0).toNat) (k := 64)).2 (by omega)
      generalize bitN (l.getD k 0).toNat = b at *
      refine congrArg some (Prod.ext ?_ rfl)
      show wrap64 (wrap64 (64 * (l.length : Int)) - wrap64 (64 - (b : Int))) = _
      unfold wrap64
      omega
  · have hr : rightB s l = false := by simpa using hr
    rw [hr]
    simp
end Go.Proofs.Ytlcjnahfahobjaa.Lb
namespace Go.Proofs.Ytlcjnahfahobjaa.Lb
open Go.RowKit Go.Proofs.YtlcjnahfahobjaaW.PrintWords Go.Proofs.YtlcjnahfahobjaaW.PrintLast Go.Proofs.YtlcjnahfahobjaaW.PrintMore
set_option linter.unusedVariables false
set_option linter.unusedSimpArgs false

/-- `Shift`'s answer. -/
def shiftS (s : Bool) (l : List Int) (b : Int) : Bool × List Int × Int :=
  if rightB s l then
    (if nv l = 0 then (false, [], 0) else if 262144 - (bitN (nv l) : Int) < b then (false, [], 3) else if 0 ≤ b then mkS (iv s l * 2 ^ b.toNat) else mkS (iv s l / 2 ^ (-b).toNat))
  else (false, [], 2)
theorem mkS_sign (s : Bool) (n : Nat) : mkS (if s then -(n : Int) else n) = toldS s n := by
  unfold mkS
  have e : (if s then -(n : Int) else n).natAbs = n := by cases s <;> simp
  rw [e]
  refine toldS_eq _ _ _ (fun h => ?_)
  cases s <;> simp <;> omega
theorem pow_cast (k : Nat) : ((2 ^ k : Nat) : Int) = (2 : Int) ^ k := by simp
theorem shift_up {s : Bool} {l : List Int} {b : Nat} (hr : rightB s l = true) (h0 : nv l ≠ 0) (h1 : ¬ 262144 - (bitN (nv l) : Int) < b) : shiftS s l b = toldS s (nv l * 2 ^ b) := by
  unfold shiftS
  rw [if_pos hr, if_neg h0, if_neg h1, if_pos (by omega), ← mkS_sign]
  congr 1
  rw [Int.toNat_natCast, ← pow_cast]
  unfold iv
  cases s
  · simp
  · simp [Int.neg_mul]
theorem neg_div_pos (n d : Nat) (hd : 0 < d) : (-(n : Int)) / (d : Int) = if n % d = 0 then -((n / d : Nat) : Int) else -((n / d : Nat) : Int) - 1 := by
  have h := Nat.div_add_mod n d
  have hm := Nat.mod_lt n hd
  split
  · rename_i h0
    have e : (-(n : Int)) = (d : Int) * (-((n / d : Nat) : Int)) := by
      rw [Int.mul_neg, ← Int.natCast_mul]; omega
    rw [e, Int.mul_ediv_cancel_left _ (by omega)]
  · rename_i h0
    have e : (-(n : Int)) = ((d : Int) - ((n % d : Nat) : Int)) + (d : Int) * (-((n / d : Nat) : Int) - 1) := by
      rw [Int.mul_sub, Int.mul_neg, ← Int.natCast_mul]; omega
    rw [e, Int.add_mul_ediv_left _ _ (by omega), Int.ediv_eq_zero_of_lt (by omega) (by omega)]
    omega
theorem bits_len {l : List Int} (ho : okL l) : bitN (nv l) ≤ 64 * l.length := by
  rw [bitN_le, ← B64_pow2]
  exact nv_lt ho
theorem shift_down {s : Bool} {l : List Int} {k : Nat} (ho : okL l) (hr : rightB s l = true) (h0 : nv l ≠ 0) (hk : 0 < k) :
    shiftS s l (-(k : Int)) = if s && decide (nv l % 2 ^ k ≠ 0) then mkS (-((nv l / 2 ^ k : Nat) : Int) - 1) else toldS s (nv l / 2 ^ k) := by
  have hb : bitN (nv l) ≤ 262144 := by
    have := bits_len ho
    have := right_len hr
    omega
  unfold shiftS
  rw [if_pos hr, if_neg h0, if_neg (by omega), if_neg (by omega)]
  rw [show (-(-(k : Int))).toNat = k by omega, ← pow_cast]
  unfold iv
  cases s
  · simp only [Bool.false_eq_true, if_false, Bool.false_and]
    rw [← mkS_sign]
    rfl
  · simp only [if_true, Bool.true_and, decide_eq_true_eq]
    rw [neg_div_pos _ _ (Nat.two_pow_pos k)]
    by_cases hz : nv l % 2 ^ k = 0
    · rw [if_pos hz, if_neg (by simpa using hz), ← mkS_sign]
      rfl
    · rw [if_neg hz, if_pos hz]
theorem shift_low_pos {l : List Int} {B : Nat} (ho : okL l) (hr : rightB false l = true) (h0 : nv l ≠ 0) (hb : bitN (nv l) ≤ B) (h1 : ¬ 262144 - (bitN (nv l) : Int) < -(B : Int)) (hB : 0 < B) : shiftS false l (-(B : Int)) = (false, [], 0) := by
  rw [shift_down ho hr h0 hB]
  have hlt := bitN_le.1 hb
  rw [Nat.div_eq_of_lt hlt]
  simp [toldS, toL_zero]
theorem shift_low_neg {l : List Int} {B : Nat} (ho : okL l) (hr : rightB true l = true) (h0 : nv l ≠ 0) (hb : bitN (nv l) ≤ B) (h1 : ¬ 262144 - (bitN (nv l) : Int) < -(B : Int)) (hB : 0 < B) : shiftS true l (-(B : Int)) = ((ofS (-1)).1, (ofS (-1)).2, 0) := by
  rw [shift_down ho hr h0 hB]
  have hlt := bitN_le.1 hb
  rw [Nat.div_eq_of_lt hlt, Nat.mod_eq_of_lt hlt, if_pos (by simpa using h0), ← ofS_told (-1) (by decide) (by decide)]
  rfl
theorem one_lt_k (k : Nat) (h : 1 ≤ k) : 1 < B64 ^ k := Nat.lt_of_lt_of_le (show 1 < B64 ^ 1 by decide) (Nat.pow_le_pow_right (by decide) h)
theorem one_lt : 1 < B64 ^ 4096 := one_lt_k 4096 (by omega)
theorem of1_right : rightB (ofS 1).1 (ofS 1).2 = true := right_toL false 1 one_lt (fun h => absurd h (by decide))
theorem of1_iv : iv (ofS 1).1 (ofS 1).2 = 1 := by
  unfold ofS iv
  simp [nv_toL]
theorem of_len (n : Int) (h0 : -9223372036854775808 ≤ n) (h1 : n ≤ 9223372036854775807) : (ofS n).2.length ≤ 1 := length_toL_le.2 (by unfold B64; omega)
theorem shift_sub {l : List Int} {B : Nat} (ho : okL l) (hr : rightB true l = true) (h0 : nv l ≠ 0) (hB : 0 < B) (hm : nv l % 2 ^ B ≠ 0) :
    shiftS true l (-(B : Int)) = subS (toldS true (nv l / 2 ^ B)).1 (toldS true (nv l / 2 ^ B)).2.1 (ofS 1).1 (ofS 1).2 := by
  have hlt : nv l / 2 ^ B < B64 ^ 4096 := Nat.lt_of_le_of_lt (Nat.div_le_self _ _) (nv_small hr ho)
  rw [shift_down ho hr h0 hB, if_pos (by simpa using hm)]
  unfold subS
  rw [toldS_right, of1_right, of1_iv, (toldS_iv true _ hlt).2]
  rfl
end Go.Proofs.Ytlcjnahfahobjaa.Lb
