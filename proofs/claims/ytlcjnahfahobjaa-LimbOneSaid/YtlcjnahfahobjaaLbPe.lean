/- limb: plain: the document's opposite, bits, shifts, of an int64, are the program's. -/
import Derived.Test.YtlcjnahfahobjaaLbPd
namespace Go.Proofs.Ytlcjnahfahobjaa.Lb
open Go.RowKit Go.Proofs.YtlcjnahfahobjaaW.PrintWords Go.Proofs.Ytlcjnahfahobjaa.PD
set_option linter.unusedVariables false
set_option linter.unusedSimpArgs false

theorem bitN_mulP {n : Nat} (h : n ≠ 0) (M : Nat) : bitN (n * 2 ^ M) = bitN n + M := by
  obtain ⟨k, hk, hk2⟩ := bitN_pos h
  have h3 := (bitN_le (n := n) (k := k + 1)).1 (by omega)
  rw [hk, show k + 1 + M = (k + M) + 1 by omega]
  refine bitN_of ?_ ?_
  · rw [show k + M + 1 = (k + 1) + M by omega, Nat.pow_add]
    exact Nat.mul_lt_mul_of_pos_right h3 (Nat.two_pow_pos M)
  · rw [Nat.pow_add]
    exact Nat.mul_le_mul_right _ hk2
theorem refNeg_f (s : Bool) (l : List Int) (ol : okL l) (hl : l.length ≤ 9223372036854775807) : rosetteref13_Neg.f 50000001 s l = some (negS s l) := by
  unfold rosetteref13_Neg.f negS rosetteref00_Minus.f
  rw [rref_f s l hl, Option.bind_some]
  by_cases h : rightB s l = true
  · rw [if_pos h, if_pos h]
    have l1 := right_len h
    have b1 := toL_nv_len ol
    rw [int_f s l ol (by omega), Option.bind_some, Option.bind_some]
    dsimp only
    rw [told_f 50000001 (!s) (nv l) (by omega) (by omega), Option.bind_some]
    unfold mkS
    rw [vz_abs]
    congr 1
    by_cases h0 : nv l = 0
    · unfold toldS
      rw [h0, toL_zero, if_neg (by simp), if_pos rfl, if_neg (by simp), if_pos rfl]
    · rw [vz_lt (!s) _ h0]
  · rw [if_neg h, if_neg h]
theorem refBits_f (s : Bool) (l : List Int) (ol : okL l) (hl : l.length ≤ 9223372036854775807) : rosetteref13_Bits.f 50000001 s l = some (if rightB s l then ((bitN (nv l) : Nat) : Int) else 0, if rightB s l then 0 else 2) := by
  unfold rosetteref13_Bits.f
  rw [rref_f s l hl, Option.bind_some]
  by_cases h : rightB s l = true
  · have l1 := right_len h
    rw [if_pos h, if_pos h, if_pos h, natBits_f l ol (by omega) _ (by omega), Option.bind_some]
  · rw [if_neg h, if_neg h, if_neg h]
theorem told_g (k : Nat) (σ : Bool) (n e : Nat) (hn0 : n ≠ 0) (hn : (toL n).length ≤ 4096000) (he : e ≤ 262144) (hk : 50000000 ≤ k) : rosetteref13_Told.f k σ (toL n) (e : Int) = some (if 262144 < bitN n + e then (false, [], 3) else (σ, toL (n * 2 ^ e), 0)) := by
  unfold rosetteref13_Told.f rosetteref00_TellInt.f
  rw [zero_f k σ n _ hn (by omega), Option.bind_some, if_neg (by simpa using hn0)]
  unfold rosetteref00_Num_Top.f
  rw [natBits_f _ (okL_toL n) hn k (by omega), Option.bind_some, nv_toL, Option.bind_some]
  have hb := (bit_len n 4096000).2 hn
  rw [show wrap64 ((e : Int) + ((bitN n : Nat) : Int)) = ((bitN n + e : Nat) : Int) by unfold wrap64; omega]
  by_cases h : 262144 < bitN n + e
  · rw [if_pos (by omega), if_pos h, Option.bind_some, if_neg (by simp)]
  · rw [if_neg (by omega), if_neg h, natUp_f (toL n) (okL_toL n) hn e (by omega) k hk, Option.bind_some, nv_toL, Option.bind_some, if_pos rfl]
/-- Cut and told: rounded down. -/
theorem cut_f (k : Nat) (s : Bool) (v n : Nat) (h0 : v ≠ 0) (hv : (toL v).length ≤ 40960) (hn0 : 0 < n) (hn : n ≤ 262145) (hk : 50000001 ≤ k) : ∃ m, rosetteref00_Cut.f k s (toL v) (-(n : Int)) 0 false = some (s, toL m, 0) ∧ vz s m = vz s v / 2 ^ n ∧ m ≤ v := by
  unfold rosetteref00_Cut.f
  rw [zero_f k s v _ (by omega) (by omega), Option.bind_some, if_neg (by simpa using h0), if_neg (by omega), show wrap64 (0 - -(n : Int)) = (n : Int) by unfold wrap64; omega, natDown_f (toL v) (okL_toL v) (by omega) n (by omega) k (by omega), Option.bind_some, nv_toL]
  dsimp only
  obtain ⟨k, rfl⟩ : ∃ q, k = q + 1 := ⟨k - 1, by omega⟩
  obtain ⟨P, hP⟩ : ∃ P : Nat, 2 ^ n = P := ⟨_, rfl⟩
  have hPi : (2 : Int) ^ n = (P : Int) := by rw [← hP]; simp
  have hP1 : 1 < P := by rw [← hP]; exact Nat.one_lt_two_pow (by omega)
  rw [hP, hPi]
  have hd := Nat.div_add_mod v P
  have hm := Nat.mod_lt v (show 0 < P by omega)
  have hle : v / P ≤ v := Nat.div_le_self v P
  have hlt : v / P < v := Nat.div_lt_self (by omega) hP1
  have hlen : (toL (v / P)).length ≤ 40961 := sum_len (K := 40960) (a := v) (b := 0) hv (by rw [toL_zero]; simp) (by omega)
  obtain ⟨q, hq⟩ : ∃ q, v / P = q := ⟨_, rfl⟩
  obtain ⟨r, hr⟩ : ∃ r, v % P = r := ⟨_, rfl⟩
  rw [hq] at hd hle hlt hlen ⊢
  rw [hr] at hd hm ⊢
  have one : rosetteref00_NatOf.f 1 = some (toL 1) := by
    unfold rosetteref00_NatOf.f
    rw [trim_f _ (by rw [okL_cons]; exact ⟨by omega, okL_nil⟩) (by simp), Option.bind_some]
    rfl
  have hv2 : (v : Int) = (P : Int) * (q : Int) + (r : Int) := by rw [← hd]; simp
  by_cases hr0 : r = 0
  · rw [show decide (r ≠ 0) = false by simp [hr0], if_neg (by simp), rosetteref00_Cut.j0, if_neg (by simp)]
    refine ⟨q, rfl, ?_, hle⟩
    have e : (v : Int) = (P : Int) * (q : Int) := by rw [hv2, hr0]; simp
    cases s
    · simp only [vz, Bool.false_eq_true, if_false]
      rw [e, Int.mul_ediv_cancel_left _ (by omega)]
    · simp only [vz, if_true]
      rw [e, ← Int.mul_neg, Int.mul_ediv_cancel_left _ (by omega)]
  · rw [show decide (r ≠ 0) = true by simp [hr0], if_pos rfl, rosetteref00_Cut.j0]
    cases s
    · rw [if_neg (by simp)]
      refine ⟨q, rfl, ?_, hle⟩
      simp only [vz, Bool.false_eq_true, if_false]
      rw [hv2, Int.add_comm, Int.add_mul_ediv_left _ _ (by omega), Int.ediv_eq_zero_of_lt (by omega) (by omega)]
      omega
    · rw [if_pos (by simp), one, Option.bind_some, natAdd_f _ _ (okL_toL q) (okL_toL 1) (by omega) (by rw [show toL 1 = [1] from lm_one (by decide) (by decide) 1 rfl]; simp) k (by omega), Option.bind_some, nv_toL, nv_toL]
      refine ⟨q + 1, rfl, ?_, by omega⟩
      simp only [vz, if_true]
      have e : -(v : Int) = ((P : Int) - (r : Int)) + (P : Int) * (-((q : Int) + 1)) := by
        rw [hv2, Int.mul_neg, Int.mul_add]; omega
      rw [e, Int.add_mul_ediv_left _ _ (by omega), Int.ediv_eq_zero_of_lt (by omega) (by omega)]
      omega
theorem vz_floor_small (s : Bool) (v : Nat) (n m : Nat) (h1 : v < 2 ^ n) (h2 : v < 2 ^ m) : vz s v / 2 ^ n = vz s v / 2 ^ m := by
  have key : ∀ k : Nat, v < 2 ^ k → vz s v / 2 ^ k = if s = true ∧ v ≠ 0 then -1 else 0 := by
    intro k hk
    obtain ⟨P, hP⟩ : ∃ P : Nat, 2 ^ k = P := ⟨_, rfl⟩
    have hPi : (2 : Int) ^ k = (P : Int) := by rw [← hP]; simp
    rw [hP] at hk
    rw [hPi]
    cases s
    · simp only [vz, Bool.false_eq_true, if_false, false_and]
      exact Int.ediv_eq_zero_of_lt (by omega) (by omega)
    · simp only [vz, if_true, true_and]
      by_cases h0 : v = 0
      · subst h0; simp
      · rw [if_pos h0]
        have e : -(v : Int) = ((P : Int) - (v : Int)) + (P : Int) * (-1) := by omega
        rw [e, Int.add_mul_ediv_left _ _ (by omega), Int.ediv_eq_zero_of_lt (by omega) (by omega)]
        omega
  rw [key n h1, key m h2]
theorem refShift_f (s : Bool) (l : List Int) (b : Int) (ol : okL l) (hl : l.length ≤ 9223372036854775807) (b0 : -9223372036854775808 ≤ b) (b1 : b ≤ 9223372036854775807) : rosetteref13_Shift.f 50000003 s l b = some (shiftS s l b) := by
  unfold rosetteref13_Shift.f shiftS
  rw [rref_f s l hl, Option.bind_some]
  by_cases h : rightB s l = true
  · rw [if_pos h, if_pos h]
    have l1 := right_len h
    have t1 := toL_nv_len ol
    rw [natBits_f l ol (by omega) _ (by omega), Option.bind_some, iv_vz]
    have hbl := bits_len ol
    have eint := int_f s l ol (by omega)
    obtain ⟨v, hv⟩ : ∃ v, nv l = v := ⟨_, rfl⟩
    rw [hv] at hbl t1 eint ⊢
    by_cases h0 : v = 0
    · subst h0
      rw [if_pos (by rw [bitN_zero]; rfl), if_pos rfl]
    · obtain ⟨j, hj, hj2⟩ := bitN_pos h0
      rw [if_neg (by omega), if_neg h0]
      have low : ∀ n : Nat, 0 < n → n ≤ 262145 → rosetteref13_Shift.j0 50000003 (-(n : Int)) s l = some (mkS (vz s v / 2 ^ n)) := by
        intro n hn0 hn
        rw [rosetteref13_Shift.j0, eint, Option.bind_some]
        unfold rosetteref00_Scaled.f
        rw [Option.bind_some]
        dsimp only
        rw [show wrap64 (0 + -(n : Int)) = -(n : Int) by unfold wrap64; omega]
        obtain ⟨m, em, h2, h3⟩ := cut_f 50000002 s v n h0 (by omega) hn0 hn (by omega)
        have hml := sum_len (K := 40960) (a := v) (b := 0) (n := m) (by omega) (by rw [toL_zero]; simp) (by omega)
        rw [em, Option.bind_some]
        dsimp only
        rw [told_f 50000002 s m (by omega) (by omega), Option.bind_some, h2]
      by_cases hb1 : b > 262144
      · rw [if_pos hb1, if_pos (by omega)]
      · rw [if_neg hb1]
        by_cases hb2 : b < -((bitN v : Nat) : Int)
        · rw [show wrap64 (-((bitN v : Nat) : Int)) = -((bitN v : Nat) : Int) by unfold wrap64; omega, if_pos hb2, show wrap64 (-((bitN v : Nat) : Int) - 1) = -((bitN v + 1 : Nat) : Int) by unfold wrap64; omega]
          rw [low (bitN v + 1) (by omega) (by omega), if_neg (by omega), if_neg (by omega)]
          have hlt := (bitN_le (n := v) (k := bitN v)).1 (Nat.le_refl _)
          rw [vz_floor_small s v (bitN v + 1) (-b).toNat (Nat.lt_of_lt_of_le hlt (Nat.pow_le_pow_right (by decide) (by omega))) (Nat.lt_of_lt_of_le hlt (Nat.pow_le_pow_right (by decide) (by omega)))]
        · rw [show wrap64 (-((bitN v : Nat) : Int)) = -((bitN v : Nat) : Int) by unfold wrap64; omega, if_neg hb2]
          by_cases hb3 : 0 ≤ b
          · obtain ⟨e, rfl⟩ := Int.eq_ofNat_of_zero_le hb3
            rw [rosetteref13_Shift.j0, eint, Option.bind_some]
            unfold rosetteref00_Scaled.f
            rw [Option.bind_some]
            dsimp only
            rw [show wrap64 (0 + (e : Int)) = (e : Int) by unfold wrap64; omega]
            unfold rosetteref00_Cut.f
            rw [zero_f _ s v _ (by omega) (by omega), Option.bind_some, if_neg (by simpa using h0), if_pos (by omega), Option.bind_some]
            dsimp only
            rw [told_g 50000002 s v e h0 (by omega) (by omega) (by omega), Option.bind_some]
            by_cases hb4 : 262144 < bitN v + e
            · rw [if_pos hb4, if_pos (by omega)]
            · rw [if_neg hb4, if_neg (by omega), if_pos hb3, Int.toNat_natCast]
              have hne : v * 2 ^ e ≠ 0 := Nat.mul_ne_zero h0 (by have := Nat.two_pow_pos e; omega)
              have hz : vz s v * 2 ^ e = vz s (v * 2 ^ e) := by
                cases s <;> simp [vz, Int.neg_mul]
              have hlen := (bit_len (v * 2 ^ e) 4096).1 (by rw [bitN_mulP h0]; omega)
              rw [hz]
              unfold mkS toldS
              rw [vz_abs, vz_lt s _ hne, if_neg (by omega), if_neg hne]
          · obtain ⟨n, hn⟩ : ∃ n : Nat, b = -(n : Int) := ⟨(-b).toNat, by omega⟩
            subst hn
            rw [low n (by omega) (by omega), if_neg (by omega), if_neg hb3, Int.neg_neg, Int.toNat_natCast]
  · rw [if_neg h, if_neg h]
theorem refOf_f (n : Int) (h0 : -9223372036854775808 ≤ n) (h1 : n ≤ 9223372036854775807) : rosetteref13_Of.f 50000001 n = some ((mkS n).1, (mkS n).2.1) := by
  have hw : rosetteref00_Whole.f n = some (decide (n < 0), toL n.natAbs, 0) := by
    unfold rosetteref00_Whole.f rosetteref00_NatOf.f
    have ok1 : okL [(n.natAbs : Int)] := by rw [okL_cons]; exact ⟨by omega, okL_nil⟩
    have e1 : nv [(n.natAbs : Int)] = n.natAbs := by simp [nv]
    by_cases h : n < 0
    · rw [if_pos h, u64_of_neg n h0 h, trim_f _ ok1 (by simp), Option.bind_some, Option.bind_some, e1]
    · rw [if_neg h, u64_of_pos n h1 h, trim_f _ ok1 (by simp), Option.bind_some, Option.bind_some, e1]
  unfold rosetteref13_Of.f
  have hlen : (toL n.natAbs).length ≤ 1 := by
    rw [length_toL_le]
    unfold B64; omega
  have hz : vz (decide (n < 0)) n.natAbs = n := by
    unfold vz
    by_cases h : n < 0
    · simp [h]; omega
    · simp [h]; omega
  rw [hw, Option.bind_some]
  dsimp only
  rw [told_f 50000001 _ n.natAbs (by omega) (by omega), Option.bind_some, hz]
end Go.Proofs.Ytlcjnahfahobjaa.Lb
