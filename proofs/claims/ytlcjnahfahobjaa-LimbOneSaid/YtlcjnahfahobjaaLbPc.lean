/- limb: plain: the document's order, sums, differences of whole numbers are the program's. -/
import Derived.Test.YtlcjnahfahobjaaPDx8
import Derived.Test.YtlcjnahfahobjaaLbPb
import Derived.Test.YtlcjnahfahobjaaLbW
namespace Go.Proofs.Ytlcjnahfahobjaa.Lb
open Go.RowKit Go.Proofs.YtlcjnahfahobjaaW.PrintWords Go.Proofs.Ytlcjnahfahobjaa.PD
set_option linter.unusedVariables false
set_option linter.unusedSimpArgs false

/-- A sign and a size. -/
def vz (s : Bool) (a : Nat) : Int := if s then -(a : Int) else a
theorem iv_vz (s : Bool) (l : List Int) : iv s l = vz s (nv l) := rfl
theorem vz_abs (s : Bool) (a : Nat) : (vz s a).natAbs = a := by cases s <;> simp [vz]
theorem vz_neg (s : Bool) (a : Nat) : vz (!s) a = -vz s a := by cases s <;> simp [vz]
theorem vz_zero (s : Bool) (a : Nat) : vz s a = 0 ↔ a = 0 := by cases s <;> simp [vz]
theorem vz_lt (s : Bool) (a : Nat) (h : a ≠ 0) : decide (vz s a < 0) = s := by
  cases s
  · simp [vz]
  · simp [vz]; omega
theorem bit_len (n K : Nat) : bitN n ≤ 64 * K ↔ (toL n).length ≤ K := by rw [bitN_le, ← B64_pow2, length_toL_le]
theorem bitN_mono {a b : Nat} (h : bitN a < bitN b) : a < b := by
  rcases Nat.lt_or_ge a b with h1 | h1
  · exact h1
  · have h2 := (bitN_le (n := a) (k := bitN a)).1 (Nat.le_refl _)
    have := (bitN_le (n := b) (k := bitN a)).2 (by omega)
    omega
theorem bitN_eq0 (n : Nat) : bitN n = 0 ↔ n = 0 := by
  constructor
  · intro h
    have := (bitN_le (n := n) (k := 0)).1 (by omega)
    simpa using this
  · rintro rfl; exact bitN_zero
theorem zero_f (k : Nat) (s : Bool) (a : Nat) (e : Int) (ha : (toL a).length ≤ 4096000) (hk : 5000000 ≤ k) : rosetteref00_Num_Zero.f k s (toL a) e = some (decide (a = 0)) := by
  unfold rosetteref00_Num_Zero.f
  rw [natBits_f _ (okL_toL a) ha k hk, Option.bind_some, nv_toL]
  congr 1
  rw [Bool.eq_iff_iff]
  have := bitN_eq0 a
  simp only [beq_iff_eq, decide_eq_true_eq]
  omega
theorem sign_f (k : Nat) (s : Bool) (a : Nat) (e : Int) (ha : (toL a).length ≤ 4096000) (hk : 5000000 ≤ k) : rosetteref00_Num_Sign.f k s (toL a) e = some (cmpZ (vz s a) 0) := by
  unfold rosetteref00_Num_Sign.f
  rw [zero_f k s a e ha hk, Option.bind_some]
  by_cases h : a = 0
  · subst h
    rw [if_pos (by simp), cmpZ_eq ((vz_zero s 0).2 rfl)]
  · rw [if_neg (by simpa using h)]
    cases s
    · rw [if_neg (by simp), cmpZ_gt (by simp [vz]; omega)]
    · rw [if_pos rfl, cmpZ_lt (by simp [vz]; omega)]
theorem top_f (k : Nat) (s : Bool) (a : Nat) (ha : (toL a).length ≤ 4096000) (hk : 5000000 ≤ k) : rosetteref00_Num_Top.f k s (toL a) 0 = some ((bitN a : Nat) : Int) := by
  unfold rosetteref00_Num_Top.f
  rw [natBits_f _ (okL_toL a) ha k hk, Option.bind_some, nv_toL]
  have := (bit_len a 4096000).2 ha
  congr 1
  unfold wrap64; omega
theorem sum_len {a b n K : Nat} (ha : (toL a).length ≤ K) (hb : (toL b).length ≤ K) (hn : n ≤ a + b) : (toL n).length ≤ K + 1 := by
  rw [length_toL_le] at ha hb ⊢
  rw [Nat.pow_succ]
  have : B64 ^ K * 2 ≤ B64 ^ K * B64 := Nat.mul_le_mul_left _ (by decide)
  omega
theorem told_f (k : Nat) (σ : Bool) (n : Nat) (hn : (toL n).length ≤ 4096000) (hk : 50000000 ≤ k) : rosetteref13_Told.f k σ (toL n) 0 = some (mkS (vz σ n)) := by
  unfold rosetteref13_Told.f rosetteref00_TellInt.f mkS toldS
  rw [zero_f k σ n 0 hn (by omega), Option.bind_some, vz_abs]
  by_cases h : n = 0
  · subst h
    rw [if_pos (by simp), Option.bind_some, if_pos rfl, toL_zero, if_neg (by simp), if_pos rfl]
  · rw [if_neg (by simpa using h), top_f k σ n hn (by omega), Option.bind_some]
    have hb := bit_len n 4096
    by_cases h2 : 4096 < (toL n).length
    · rw [if_pos (by omega), if_pos h2, Option.bind_some]
      rfl
    · have hu := natUp_f (toL n) (okL_toL n) hn 0 (by omega) k hk
      rw [nv_toL, Nat.pow_zero, Nat.mul_one, show ((0 : Nat) : Int) = 0 from rfl] at hu
      rw [if_neg (by omega), if_neg h2, if_neg h, hu, Option.bind_some, Option.bind_some, vz_lt σ n h]
      rfl
theorem rref_f (s : Bool) (l : List Int) (hm : l.length ≤ 9223372036854775807) : rosetteref00_RightInt.f s l = some (rightB s l) := by
  unfold rosetteref00_RightInt.f rightB
  have hw : wrap64 ((l.length : Int) - 1) = (l.length : Int) - 1 := by unfold wrap64; omega
  rw [hw]
  by_cases h0 : l.length = 0
  · rw [if_pos (by omega), if_pos h0]
  · rw [if_neg (by omega), if_neg h0]
    by_cases h1 : l.length ≤ 4096
    · rw [if_pos (by omega), if_pos (by omega), if_pos (by omega)]
      have e : rd l ((l.length : Int) - 1) = l.getD (l.length - 1) 0 := by
        unfold rd
        congr 1
        omega
      rw [e]
      simp [h1]
    · rw [if_neg (by omega)]
      simp [h1]
theorem int_f (s : Bool) (l : List Int) (ho : okL l) (hl : l.length ≤ 4096000) : rosetteref00_Int.f s l = some (s, toL (nv l), 0) := by
  unfold rosetteref00_Int.f
  rw [trim_f l ho hl, Option.bind_some]
end Go.Proofs.Ytlcjnahfahobjaa.Lb
