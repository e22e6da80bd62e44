/- limb: plain: the chapter's numbers: the greatest number, one beyond, shifts. -/
import Derived.Test.YtlcjnahfahobjaaPDx0
import Derived.Test.YtlcjnahfahobjaaLbC
import Derived.Test.YtlcjnahfahobjaaLbPc
import Derived.Test.YtlcjnahfahobjaaLbU
import Derived.Test.YtlcjnahfahobjaaLbI
namespace Go.Proofs.Ytlcjnahfahobjaa.Lb
open Go.RowKit Go.Proofs.YtlcjnahfahobjaaW.PrintWords
set_option linter.unusedVariables false
set_option linter.unusedSimpArgs false

/-- So many limbs, all ones. -/
def ones (n : Nat) : List Int := List.replicate n 18446744073709551615
theorem ones_ok (n : Nat) : okL (ones n) := fun x hx => by
  rw [List.eq_of_mem_replicate hx]; omega
theorem ones_len (n : Nat) : (ones n).length = n := by simp [ones]
theorem nv_ones (n : Nat) : nv (ones n) + 1 = B64 ^ n := by
  induction n with
  | zero => rfl
  | succ n ih =>
    have e : ones (n + 1) = 18446744073709551615 :: ones n := rfl
    rw [e, Nat.pow_succ, ← ih]
    simp only [nv]
    have hB : B64 = 18446744073709551616 := rfl
    rw [hB]
    omega
theorem ones_right (s : Bool) (n : Nat) (h0 : 0 < n) (h : n ≤ 4096) : rightB s (ones n) = true := by
  unfold rightB
  rw [ones_len, if_neg (by omega)]
  have : (ones n).getD (n - 1) 0 = 18446744073709551615 := by
    simp only [ones, List.getD_eq_getElem?_getD]
    rw [List.getElem?_eq_getElem (by simp; omega)]
    simp
  rw [this]
  simp [h]
theorem one_right : rightB false [1] = true := by decide
theorem nv_one : nv [1] = 1 := by decide
theorem big_add : addS false (ones 4096) false [1] = (false, [], 3) := by
  unfold addS
  rw [ones_right false 4096 (by omega) (by omega), one_right, Bool.and_self, if_pos rfl]
  have h1 : iv false (ones 4096) = (nv (ones 4096) : Int) := rfl
  have h2 : iv false [1] = 1 := by unfold iv; rw [nv_one]; rfl
  have h3 := nv_ones 4096
  rw [h1, h2]
  generalize hN : nv (ones 4096) = N at h3 ⊢
  refine mkS_big ?_
  unfold lim
  rw [← h3]
  omega
theorem big_sub : subS true (ones 4096) false [1] = (false, [], 3) := by
  unfold subS
  rw [ones_right true 4096 (by omega) (by omega), one_right, Bool.and_self, if_pos rfl]
  have h1 : iv true (ones 4096) = -(nv (ones 4096) : Int) := rfl
  have h2 : iv false [1] = 1 := by unfold iv; rw [nv_one]; rfl
  have h3 := nv_ones 4096
  rw [h1, h2]
  generalize hN : nv (ones 4096) = N at h3 ⊢
  refine mkS_big ?_
  unfold lim
  rw [← h3]
  omega
/-- One less than the greatest. -/
def less1 (n : Nat) : List Int := 18446744073709551614 :: ones n
theorem nv_less1 (n : Nat) : nv (less1 n) + 2 = B64 ^ (n + 1) := by
  unfold less1
  rw [Nat.pow_succ, ← nv_ones n]
  simp only [nv]
  have hB : B64 = 18446744073709551616 := rfl
  rw [hB]
  omega
theorem lt_less1 (n : Nat) : nv (less1 n) < B64 ^ (n + 1) := by have := nv_less1 n; omega
theorem lim_less1 (n : Nat) : lim (n + 1) (nv (less1 n) : Int) := by
  unfold lim
  rw [Int.natAbs_natCast]
  exact lt_less1 n
theorem ones_less (n : Nat) : nv (ones (n + 1)) + 1 = nv (less1 n) + 2 := (nv_ones (n + 1)).trans (nv_less1 n).symm
theorem less1_ok (n : Nat) : okL (less1 n) := by
  unfold less1
  rw [okL_cons]
  exact ⟨by omega, ones_ok n⟩
theorem less1_canon (n : Nat) (h : 0 < n) : canon (less1 n) := by
  have : rightB false (ones n) = true ∨ True := .inr trivial
  refine .inr ?_
  unfold less1
  obtain ⟨m, rfl⟩ : ∃ m, n = m + 1 := ⟨n - 1, by omega⟩
  have e : ones (m + 1) = ones m ++ [18446744073709551615] := by
    unfold ones
    rw [List.replicate_succ']
  rw [e, ← List.cons_append, List.getLast?_concat]
  simp
theorem big_sub1 : subS false (ones 4096) false [1] = (false, less1 4095, 0) := by
  unfold subS
  rw [ones_right false 4096 (by omega) (by omega), one_right, Bool.and_self, if_pos rfl]
  have h1 : iv false (ones 4096) = (nv (ones 4096) : Int) := rfl
  have h2 : iv false [1] = 1 := by unfold iv; rw [nv_one]; rfl
  have h3 := nv_ones 4096
  rw [h1, h2]
  have hz : (nv (ones 4096) : Int) - 1 = (nv (less1 4095) : Int) := by
    have : nv (ones 4096) + 1 = nv (less1 4095) + 2 := ones_less 4095
    omega
  rw [hz]
  have hlim : lim 4096 (nv (less1 4095) : Int) := lim_less1 4095
  rw [mkS_lim hlim]
  have e1 : sg (nv (less1 4095) : Int) = false := by unfold sg; exact decide_eq_false (by omega)
  have e2 : lm (nv (less1 4095) : Int) = less1 4095 := lm_lit (less1_ok _) (less1_canon _ (by omega)) rfl
  rw [e1, e2]
theorem bitN_ones (k N : Nat) (h : N + 1 = 2 ^ (k + 1)) : bitN N = k + 1 := by
  have hp := Nat.two_pow_pos k
  rw [Nat.pow_succ] at h
  refine bitN_of ?_ ?_
  · rw [Nat.pow_succ]; omega
  · omega
theorem bitN_onesK (K : Nat) (hK : 0 < K) : bitN (nv (ones K)) = 64 * K := by
  have h := nv_ones K
  rw [B64_pow2] at h
  obtain ⟨m, hm⟩ : ∃ m, 64 * K = m + 1 := ⟨64 * K - 1, by omega⟩
  rw [hm] at h ⊢
  exact bitN_ones m _ h
theorem bitN_big : bitN (nv (ones 4096)) = 262144 := bitN_onesK 4096 (by omega)
/-! ### shifts -/
theorem sh_long {s : Bool} {l : List Int} {b : Int} (hr : rightB s l = true) (h0 : nv l ≠ 0) (h : 262144 - (bitN (nv l) : Int) < b) : shiftS s l b = (false, [], 3) := by
  unfold shiftS
  rw [if_pos hr, if_neg h0, if_pos h]
theorem sh_none {b : Int} : shiftS false [] b = (false, [], 0) := by
  unfold shiftS
  rw [if_pos (by decide), if_pos (show nv [] = 0 from rfl)]
/-- What is told of a number whose limbs are known. -/
theorem mkS_of (z : Int) (s : Bool) (l : List Int) (hs : decide (z < 0) = s) (hl : okL l) (hc : canon l) (hz : nv l = z.natAbs) (h0 : l ≠ []) (hlen : l.length ≤ 4096) : mkS z = (s, l, 0) := by
  unfold mkS toldS
  have e : toL z.natAbs = l := by rw [← hz]; exact toL_nv hl hc
  have hne : z.natAbs ≠ 0 := fun h => h0 (by rw [← e, h, toL_zero])
  rw [e, if_neg (by omega), if_neg hne, hs]
theorem sh_up {s : Bool} {l : List Int} {n : Nat} {s2 : Bool} {l2 : List Int} (hr : rightB s l = true) (h0 : nv l ≠ 0) (h : ¬ 262144 - (bitN (nv l) : Int) < (n : Int)) (hm : mkS (iv s l * 2 ^ n) = (s2, l2, 0)) : shiftS s l n = (s2, l2, 0) := by
  unfold shiftS
  rw [if_pos hr, if_neg h0, if_neg h, if_pos (by omega), Int.toNat_natCast, hm]
theorem sh_down {s : Bool} {l : List Int} {n : Nat} {s2 : Bool} {l2 : List Int} {e : Int} (hn : 0 < n) (hr : rightB s l = true) (h0 : nv l ≠ 0) (hb : bitN (nv l) ≤ 262144) (hm : mkS (iv s l / 2 ^ n) = (s2, l2, e)) : shiftS s l (-(n : Int)) = (s2, l2, e) := by
  unfold shiftS
  rw [if_pos hr, if_neg h0, if_neg (by omega), if_neg (by omega), Int.neg_neg, Int.toNat_natCast, hm]
/-- Far down: 0 or -1. -/
theorem floor_far (s : Bool) (v n : Nat) (h : v < 2 ^ n) (h0 : v ≠ 0) : vz s v / 2 ^ n = if s then -1 else 0 := by
  obtain ⟨P, hP⟩ : ∃ P : Nat, 2 ^ n = P := ⟨_, rfl⟩
  have hPi : (2 : Int) ^ n = (P : Int) := by rw [← hP]; simp
  rw [hP] at h
  rw [hPi]
  cases s
  · simp only [vz, Bool.false_eq_true, if_false]
    exact Int.ediv_eq_zero_of_lt (by omega) (by omega)
  · simp only [vz, if_true]
    have e : -(v : Int) = ((P : Int) - (v : Int)) + (P : Int) * (-1) := by omega
    rw [e, Int.add_mul_ediv_left _ _ (by omega), Int.ediv_eq_zero_of_lt (by omega) (by omega)]
    omega
theorem small_pow (v n : Nat) (h : v < 16) (hn : 4 ≤ n) : v < 2 ^ n := Nat.lt_of_lt_of_le (show v < 2 ^ 4 by omega) (Nat.pow_le_pow_right (by decide) hn)
theorem s1 : shiftS false [5] 64 = (false, [0, 5], 0) := sh_up (n := 64) (by decide) (by decide) (by decide) (mkS_of _ _ _ (by decide) (by decide) (.inr (by decide)) (by decide) (by decide) (by decide))
theorem s2 : shiftS true [5] (-1) = (true, [3], 0) := sh_down (n := 1) (by decide) (by decide) (by decide) (by decide) (mkS_of _ _ _ (by decide) (by decide) (.inr (by decide)) (by decide) (by decide) (by decide))
theorem far_neg (x : Int) (v n : Nat) (hx : iv true [x] = vz true v) (hr : rightB true [x] = true) (h0 : nv [x] ≠ 0) (hb : bitN (nv [x]) ≤ 262144) (hv : v < 16) (hv0 : v ≠ 0) (hn : 4 ≤ n) : shiftS true [x] (-(n : Int)) = (true, [1], 0) := by
  refine sh_down (by omega) hr h0 hb ?_
  rw [hx, floor_far true v n (small_pow v n hv hn) hv0, if_pos rfl]
  exact mkS_of _ _ _ (by decide) (by decide) (.inr (by decide)) (by decide) (by decide) (by decide)
theorem s3 : shiftS true [1] (-1000) = (true, [1], 0) := far_neg 1 1 1000 (by decide) (by decide) (by decide) (by decide) (by omega) (by omega) (by omega)
theorem s4 : shiftS false [5] (-1000) = (false, [], 0) := by
  refine sh_down (n := 1000) (by omega) (by decide) (by decide) (by decide) ?_
  rw [show iv false [5] = vz false 5 by decide, floor_far false 5 1000 (small_pow 5 1000 (by omega) (by omega)) (by omega), if_neg (by decide)]
  unfold mkS toldS
  rw [show (0 : Int).natAbs = 0 from rfl, toL_zero]
  rfl
theorem s5 : shiftS false [1] 262144 = (false, [], 3) := sh_long (by decide) (by decide) (by decide)
theorem s6 : shiftS false [1] 9223372036854775807 = (false, [], 3) := sh_long (by decide) (by decide) (by decide)
theorem s7 : shiftS false [] 9223372036854775807 = (false, [], 0) := sh_none
theorem s8 : shiftS true [7] (-9223372036854775808) = (true, [1], 0) := far_neg 7 7 9223372036854775808 (by decide) (by decide) (by decide) (by decide) (by omega) (by omega) (by omega)
theorem s9 : shiftS true [8] (-3) = (true, [1], 0) := sh_down (n := 3) (by decide) (by decide) (by decide) (by decide) (mkS_of _ _ _ (by decide) (by decide) (.inr (by decide)) (by decide) (by decide) (by decide))
theorem s10 : shiftS true [9] (-3) = (true, [2], 0) := sh_down (n := 3) (by decide) (by decide) (by decide) (by decide) (mkS_of _ _ _ (by decide) (by decide) (.inr (by decide)) (by decide) (by decide) (by decide))
theorem s11 : shiftS true [0, 1] (-64) = (true, [1], 0) := sh_down (n := 64) (by decide) (by decide) (by decide) (by decide) (mkS_of _ _ _ (by decide) (by decide) (.inr (by decide)) (by decide) (by decide) (by decide))
theorem s12 : shiftS true [1, 1] (-64) = (true, [2], 0) := sh_down (n := 64) (by decide) (by decide) (by decide) (by decide) (mkS_of _ _ _ (by decide) (by decide) (.inr (by decide)) (by decide) (by decide) (by decide))
theorem s13 : shiftS false (ones 4096) 1 = (false, [], 3) := by
  have hb := bitN_big
  have h0 : nv (ones 4096) ≠ 0 := fun h => by rw [h, bitN_zero] at hb; omega
  exact sh_long (ones_right false 4096 (by omega) (by omega)) h0 (by rw [hb]; decide)
theorem s14 : shiftS false [1, 0] 1 = (false, [], 2) := by
  unfold shiftS
  rw [if_neg (by decide)]
theorem pow_bits (n : Nat) : bitN (nv (toL (2 ^ n))) = n + 1 := by
  rw [nv_toL]
  have := Nat.two_pow_pos n
  exact bitN_of (by rw [Nat.pow_succ]; omega) (Nat.le_refl _)
theorem pow_limK (n K : Nat) (h : n < 64 * K) (hb : bitN (2 ^ n) = n + 1) : (toL (2 ^ n)).length ≤ K := (bit_len (2 ^ n) K).1 (by omega)
theorem right_lenK (v K : Nat) (hK : K = 4096) (h : (toL v).length ≤ K) : rightB false (toL v) = true := by
  refine right_toL false _ ?_ (fun _ => rfl)
  have := length_toL_le.1 h
  rwa [hK] at this
theorem pow_lim (n : Nat) (h : n < 262144) : (toL (2 ^ n)).length ≤ 4096 := by
  have := pow_bits n
  rw [nv_toL] at this
  exact pow_limK n 4096 h this
theorem pow_right (n : Nat) (h : n < 262144) : rightB false (toL (2 ^ n)) = true :=
  right_lenK _ 4096 rfl (pow_lim n h)
theorem pow_shift (n : Nat) (h : n < 262144) : shiftS false [1] (n : Int) = (false, toL (2 ^ n), 0) := by
  refine sh_up (n := n) (by decide) (by decide) (by rw [show bitN (nv [1]) = 1 by decide]; omega) ?_
  have e : iv false [1] * 2 ^ n = ((2 ^ n : Nat) : Int) := by
    rw [show iv false [1] = 1 by decide]; simp
  rw [e]
  have hp := Nat.two_pow_pos n
  have hl := pow_lim n h
  unfold mkS toldS
  rw [Int.natAbs_natCast, if_neg (by omega), if_neg (by omega)]
  congr 1
theorem z8 : rightB true [8] = true ∧ bitN (nv [8]) = 4 := by decide
theorem c10 : cmpS false [1] false [1, 0] = (0, 2) := by
  unfold cmpS
  rw [show (rightB false [1] && rightB false [1, 0]) = false by decide]
  rfl
theorem n0 : negS true [] = (false, [], 2) := by
  unfold negS
  rw [show rightB true [] = false by decide]
  rfl
theorem a63 : smallS true [9223372036854775808] = (-9223372036854775808, true) := by
  unfold smallS
  have e : iv true [9223372036854775808] = -9223372036854775808 := by decide
  rw [e, if_pos ⟨by decide, by omega, by omega⟩]
theorem b63 : smallS false [9223372036854775808] = (0, false) := by
  unfold smallS
  have e : iv false [9223372036854775808] = 9223372036854775808 := by decide
  rw [e, if_neg (by omega)]
theorem e0 : smallS true [] = (0, false) := by
  unfold smallS
  rw [if_neg (fun h => by have := h.1; revert this; decide)]
end Go.Proofs.Ytlcjnahfahobjaa.Lb
