/- limb: plain: the document's order, sums, differences of whole numbers are the program's. -/
import Derived.Test.YtlcjnahfahobjaaPDx8
import Derived.Test.YtlcjnahfahobjaaLbPb
import Derived.Test.YtlcjnahfahobjaaLbW
namespace Go.Proofs.Ytlcjnahfahobjaa.Lb
open Go.RowKit Go.Proofs.YtlcjnahfahobjaaW.PrintWords Go.Proofs.Ytlcjnahfahobjaa.PD
set_option linter.unusedVariables false
set_option linter.unusedSimpArgs false

/-- A sign and a size. -/
def vz (s : Bool) (a : Nat) : Int := if s then -(a : Int) else a
theorem vz_abs (s : Bool) (a : Nat) : (vz s a).natAbs = a := by cases s <;> simp [vz]
theorem vz_neg (s : Bool) (a : Nat) : vz (!s) a = -vz s a := by cases s <;> simp [vz]
theorem vz_zero (s : Bool) (a : Nat) : vz s a = 0 ↔ a = 0 := by cases s <;> simp [vz]
theorem vz_lt (s : Bool) (a : Nat) (h : a ≠ 0) : decide (vz s a < 0) = s := by
  cases s
  · simp [vz]
  · simp [vz]; omega
theorem bit_len (n K : Nat) : bitN n ≤ 64 * K ↔ (toL n).length ≤ K := by rw [bitN_le, ← B64_pow2, length_toL_le]
theorem bitN_mono {a b : Nat} (h : bitN a < bitN b) : a < b := by
  rcases Nat.lt_or_ge a b with h1 | h1
  · exact h1
  · have h2 := (bitN_le (n := a) (k := bitN a)).1 (Nat.le_refl _)
    have := (bitN_le (n := b) (k := bitN a)).2 (by omega)
    omega
theorem bitN_eq0 (n : Nat) : bitN n = 0 ↔ n = 0 := by
  constructor
  · intro h
    have := (bitN_le (n := n) (k := 0)).1 (by omega)
    simpa using this
  · rintro rfl; exact bitN_zero
theorem zero_f (k : Nat) (s : Bool) (a : Nat) (e : Int) (ha : (toL a).length ≤ 4096000) (hk : 5000000 ≤ k) : rosetteref00_Num_Zero.f k s (toL a) e = some (decide (a = 0)) := by
  unfold rosetteref00_Num_Zero.f
  rw [natBits_f _ (okL_toL a) ha k hk, Option.bind_some, nv_toL]
  congr 1
  rw [Bool.eq_iff_iff]
  have := bitN_eq0 a
  simp only [beq_iff_eq, decide_eq_true_eq]
  omega
theorem sign_f (k : Nat) (s : Bool) (a : Nat) (e : Int) (ha : (toL a).length ≤ 4096000) (hk : 5000000 ≤ k) : rosetteref00_Num_Sign.f k s (toL a) e = some (cmpZ (vz s a) 0) := by
  unfold rosetteref00_Num_Sign.f
  rw [zero_f k s a e ha hk, Option.bind_some]
  by_cases h : a = 0
  · subst h
    rw [if_pos (by simp), cmpZ_eq ((vz_zero s 0).2 rfl)]
  · rw [if_neg (by simpa using h)]
    cases s
    · rw [if_neg (by simp), cmpZ_gt (by simp [vz]; omega)]
    · rw [if_pos rfl, cmpZ_lt (by simp [vz]; omega)]
theorem top_f (k : Nat) (s : Bool) (a : Nat) (ha : (toL a).length ≤ 4096000) (hk : 5000000 ≤ k) : rosetteref00_Num_Top.f k s (toL a) 0 = some ((bitN a : Nat) : Int) := by
  unfold rosetteref00_Num_Top.f
  rw [natBits_f _ (okL_toL a) ha k hk, Option.bind_some, nv_toL]
  have := (bit_len a 4096000).2 ha
  congr 1
  unfold wrap64; omega
theorem plus_f (k : Nat) (s t : Bool) (a b : Nat) (ha : (toL a).length ≤ 4096000) (hb : (toL b).length ≤ 4096000) (hk : 50000000 ≤ k) : ∃ σ n, rosetteref00_Plus.f (k + 1) s (toL a) 0 t (toL b) 0 = some (σ, toL n, 0) ∧ vz σ n = vz s a + vz t b ∧ n ≤ a + b := by
  rw [rosetteref00_Plus.f, zero_f k s a 0 ha (by omega), Option.bind_some]
  by_cases h : a = 0
  · subst h
    rw [if_pos (by simp)]
    exact ⟨t, b, rfl, by rw [(vz_zero s 0).2 rfl]; omega, by omega⟩
  · rw [if_neg (by simpa using h), zero_f k t b 0 hb (by omega), Option.bind_some]
    by_cases h2 : b = 0
    · subst h2
      rw [if_pos (by simp)]
      exact ⟨s, a, rfl, by rw [(vz_zero t 0).2 rfl]; omega, by omega⟩
    · have hu := natUp_f (toL b) (okL_toL b) hb 0 (by omega) k hk
      rw [nv_toL, Nat.pow_zero, Nat.mul_one] at hu
      rw [if_neg (by simpa using h2), if_neg (by omega), show wrap64 (0 - 0) = ((0 : Nat) : Int) by unfold wrap64; omega, hu, Option.bind_some]
      by_cases e : s = t
      · subst e
        rw [if_pos (by simp), natAdd_f _ _ (okL_toL a) (okL_toL b) ha hb k hk, Option.bind_some, nv_toL, nv_toL]
        exact ⟨s, a + b, rfl, by cases s <;> simp [vz] <;> omega, Nat.le_refl _⟩
      · rw [if_neg (by simpa using e), natCmp_f a b ha hb k (by omega), Option.bind_some]
        by_cases h3 : b ≤ a
        · rw [if_pos (by unfold cmpN2; rw [if_neg (by omega)]; split <;> omega), natSub_f _ _ (okL_toL a) (okL_toL b) ha hb (by rw [nv_toL, nv_toL]; exact h3) k hk, Option.bind_some, nv_toL, nv_toL]
          exact ⟨s, a - b, rfl, by cases s <;> cases t <;> simp [vz] at e ⊢ <;> omega, by omega⟩
        · rw [if_neg (by unfold cmpN2; rw [if_pos (by omega)]; omega), natSub_f _ _ (okL_toL b) (okL_toL a) hb ha (by rw [nv_toL, nv_toL]; omega) k hk, Option.bind_some, nv_toL, nv_toL]
          exact ⟨t, b - a, rfl, by cases s <;> cases t <;> simp [vz] at e ⊢ <;> omega, by omega⟩
theorem sum_len {a b n K : Nat} (ha : (toL a).length ≤ K) (hb : (toL b).length ≤ K) (hn : n ≤ a + b) : (toL n).length ≤ K + 1 := by
  rw [length_toL_le] at ha hb ⊢
  rw [Nat.pow_succ]
  have : B64 ^ K * 2 ≤ B64 ^ K * B64 := Nat.mul_le_mul_left _ (by decide)
  omega
theorem less_f (k : Nat) (s t : Bool) (a b : Nat) (ha : (toL a).length ≤ 4096000) (hb : (toL b).length ≤ 4096000) (hk : 50000000 < k) : ∃ σ n, rosetteref00_Less.f k s (toL a) 0 t (toL b) 0 = some (σ, toL n, 0) ∧ vz σ n = vz s a - vz t b ∧ n ≤ a + b := by
  obtain ⟨k, rfl⟩ : ∃ q, k = q + 1 := ⟨k - 1, by omega⟩
  unfold rosetteref00_Less.f rosetteref00_Minus.f
  obtain ⟨σ, n, e, h1, h2⟩ := plus_f k s (!t) a b ha hb (by omega)
  rw [Option.bind_some]
  dsimp only
  rw [e, Option.bind_some]
  exact ⟨σ, n, rfl, by rw [h1, vz_neg]; omega, h2⟩
theorem compare_f (k : Nat) (s t : Bool) (a b : Nat) (ha : (toL a).length ≤ 40960) (hb : (toL b).length ≤ 40960) (hk : 50000000 < k) : rosetteref00_Compare.f k s (toL a) 0 t (toL b) 0 = some (cmpZ (vz s a) (vz t b)) := by
  unfold rosetteref00_Compare.f
  rw [sign_f k s a 0 (by omega) (by omega), Option.bind_some, sign_f k t b 0 (by omega) (by omega), Option.bind_some]
  obtain ⟨σ, n, el, h1, h2⟩ := less_f k s t a b (by omega) (by omega) hk
  have hn := sum_len ha hb h2
  have es := sign_f k σ n 0 (by omega) (by omega)
  rw [h1] at es
  have eab : cmpZ (vz s a - vz t b) 0 = cmpZ (vz s a) (vz t b) := by
    unfold cmpZ
    have c1 : (vz s a - vz t b < 0) = (vz s a < vz t b) := propext (by omega)
    have c2 : (vz s a - vz t b = 0) = (vz s a = vz t b) := propext (by omega)
    simp only [c1, c2]
  rw [eab] at es
  have za := vz_abs s a
  have zb := vz_abs t b
  have m1 : bitN a < bitN b → a < b := bitN_mono
  have m2 : bitN b < bitN a → b < a := bitN_mono
  have tp : rosetteref00_Num_Top.f k s (toL a) 0 = some ((bitN a : Nat) : Int) := top_f k s a (by omega) (by omega)
  have tq : rosetteref00_Num_Top.f k t (toL b) 0 = some ((bitN b : Nat) : Int) := top_f k t b (by omega) (by omega)
  obtain ⟨x, hx⟩ : ∃ x, vz s a = x := ⟨_, rfl⟩
  obtain ⟨y, hy⟩ : ∃ y, vz t b = y := ⟨_, rfl⟩
  rw [hx] at za es ⊢
  rw [hy] at zb es ⊢
  clear hx hy h1 eab
  have rest : ∀ d : Int, (0 < x ∧ 0 < y ∧ d = 1 ∨ x < 0 ∧ y < 0 ∧ d = -1) → ((rosetteref00_Num_Top.f k s (toL a) 0).bind fun t243 => ((rosetteref00_Num_Top.f k t (toL b) 0).bind fun t244 => (if t243 < t244 then (some (wrap64 (-d))) else ((rosetteref00_Num_Top.f k s (toL a) 0).bind fun t245 => ((rosetteref00_Num_Top.f k t (toL b) 0).bind fun t246 => (if t245 > t246 then (some d) else ((rosetteref00_Less.f k s (toL a) 0 t (toL b) 0).bind fun bt247 => ((rosetteref00_Num_Sign.f k bt247.1 bt247.2.1 bt247.2.2).bind fun t252 => (some t252))))))))) = some (cmpZ x y) := by
    intro d hd
    rw [tp, Option.bind_some, tq, Option.bind_some]
    by_cases c1 : bitN a < bitN b
    · rw [if_pos (by omega)]
      have := m1 c1
      rcases hd with ⟨p, q, rfl⟩ | ⟨p, q, rfl⟩
      · rw [cmpZ_lt (by omega), show wrap64 (-1) = -1 by unfold wrap64; omega]
      · rw [cmpZ_gt (by omega), show wrap64 (- -1) = 1 by unfold wrap64; omega]
    · rw [if_neg (by omega), Option.bind_some, Option.bind_some]
      by_cases c2 : bitN b < bitN a
      · rw [if_pos (by omega)]
        have := m2 c2
        rcases hd with ⟨p, q, rfl⟩ | ⟨p, q, rfl⟩
        · rw [cmpZ_gt (by omega)]
        · rw [cmpZ_lt (by omega)]
      · rw [if_neg (by omega), el, Option.bind_some]
        dsimp only
        rw [es, Option.bind_some]
  rcases (by omega : x < 0 ∨ x = 0 ∨ 0 < x) with hx | hx | hx
  · rw [cmpZ_lt hx]
    rcases (by omega : y < 0 ∨ 0 ≤ y) with hy | hy
    · rw [cmpZ_lt hy, if_neg (by omega), if_neg (by omega), if_neg (by omega)]
      exact rest (-1) (.inr ⟨hx, hy, rfl⟩)
    · have : -1 < cmpZ y 0 := by unfold cmpZ; split <;> (try split) <;> omega
      rw [if_pos this, cmpZ_lt (by omega)]
  · subst hx
    rw [cmpZ_eq (a := (0 : Int)) rfl]
    rcases (by omega : y < 0 ∨ y = 0 ∨ 0 < y) with hy | hy | hy
    · rw [cmpZ_lt hy, if_neg (by omega), if_pos (by omega), cmpZ_gt hy]
    · subst hy
      rw [cmpZ_eq (a := (0 : Int)) rfl, if_neg (by omega), if_neg (by omega), if_pos rfl]
    · rw [cmpZ_gt (a := y) hy, if_pos (by omega), cmpZ_lt hy]
  · rw [cmpZ_gt hx]
    rcases (by omega : y ≤ 0 ∨ 0 < y) with hy | hy
    · have : cmpZ y 0 < 1 := by unfold cmpZ; split <;> (try split) <;> omega
      rw [if_neg (by omega), if_pos (by omega), cmpZ_gt (by omega)]
    · rw [cmpZ_gt (a := y) hy, if_neg (by omega), if_neg (by omega), if_neg (by omega)]
      exact rest 1 (.inl ⟨hx, hy, rfl⟩)
theorem told_f (k : Nat) (σ : Bool) (n : Nat) (hn : (toL n).length ≤ 4096000) (hk : 50000000 ≤ k) : rosetteref13_Told.f k σ (toL n) 0 = some (mkS (vz σ n)) := by
  unfold rosetteref13_Told.f rosetteref00_TellInt.f mkS toldS
  rw [zero_f k σ n 0 hn (by omega), Option.bind_some, vz_abs]
  by_cases h : n = 0
  · subst h
    rw [if_pos (by simp), Option.bind_some, if_pos rfl, toL_zero, if_neg (by simp), if_pos rfl]
  · rw [if_neg (by simpa using h), top_f k σ n hn (by omega), Option.bind_some]
    have hb := bit_len n 4096
    by_cases h2 : 4096 < (toL n).length
    · rw [if_pos (by omega), if_pos h2, Option.bind_some]
      rfl
    · have hu := natUp_f (toL n) (okL_toL n) hn 0 (by omega) k hk
      rw [nv_toL, Nat.pow_zero, Nat.mul_one, show ((0 : Nat) : Int) = 0 from rfl] at hu
      rw [if_neg (by omega), if_neg h2, if_neg h, hu, Option.bind_some, Option.bind_some, vz_lt σ n h]
      rfl
theorem rref_f (s : Bool) (l : List Int) (hm : l.length ≤ 9223372036854775807) : rosetteref00_RightInt.f s l = some (rightB s l) := by
  unfold rosetteref00_RightInt.f rightB
  have hw : wrap64 ((l.length : Int) - 1) = (l.length : Int) - 1 := by unfold wrap64; omega
  rw [hw]
  by_cases h0 : l.length = 0
  · rw [if_pos (by omega), if_pos h0]
  · rw [if_neg (by omega), if_neg h0]
    by_cases h1 : l.length ≤ 4096
    · rw [if_pos (by omega), if_pos (by omega), if_pos (by omega)]
      have e : rd l ((l.length : Int) - 1) = l.getD (l.length - 1) 0 := by
        unfold rd
        congr 1
        omega
      rw [e]
      simp [h1]
    · rw [if_neg (by omega)]
      simp [h1]
theorem both_f (s t : Bool) (l m : List Int) (hl : l.length ≤ 9223372036854775807) (hm : m.length ≤ 9223372036854775807) : rosetteref13_both.f s l t m = some (rightB s l && rightB t m) := by
  unfold rosetteref13_both.f
  rw [rref_f s l hl, Option.bind_some]
  cases h : rightB s l
  · simp
  · rw [if_pos rfl, rref_f t m hm, Option.bind_some]
    simp
theorem int_f (s : Bool) (l : List Int) (ho : okL l) (hl : l.length ≤ 4096000) : rosetteref00_Int.f s l = some (s, toL (nv l), 0) := by
  unfold rosetteref00_Int.f
  rw [trim_f l ho hl, Option.bind_some]
theorem refCmp_f (s t : Bool) (l m : List Int) (ol : okL l) (om : okL m) (hl : l.length ≤ 9223372036854775807) (hm : m.length ≤ 9223372036854775807) : rosetteref13_Cmp.f 50000001 s l t m = some (cmpS s l t m) := by
  unfold rosetteref13_Cmp.f cmpS
  rw [both_f s t l m hl hm, Option.bind_some]
  by_cases h : (rightB s l && rightB t m) = true
  · rw [if_pos h, if_pos h]
    rw [Bool.and_eq_true] at h
    have l1 := right_len h.1
    have l2 := right_len h.2
    rw [int_f s l ol (by omega), Option.bind_some, int_f t m om (by omega), Option.bind_some]
    dsimp only
    rw [compare_f 50000001 s t (nv l) (nv m) (Nat.le_trans (toL_nv_len ol) (by omega)) (Nat.le_trans (toL_nv_len om) (by omega)) (by omega), Option.bind_some]
    rfl
  · rw [if_neg h, if_neg h]
theorem refAdd_f (s t : Bool) (l m : List Int) (ol : okL l) (om : okL m) (hl : l.length ≤ 9223372036854775807) (hm : m.length ≤ 9223372036854775807) : rosetteref13_Add.f 50000001 s l t m = some (addS s l t m) := by
  unfold rosetteref13_Add.f addS
  rw [both_f s t l m hl hm, Option.bind_some]
  by_cases h : (rightB s l && rightB t m) = true
  · rw [if_pos h, if_pos h]
    rw [Bool.and_eq_true] at h
    have l1 := right_len h.1
    have l2 := right_len h.2
    have b1 := toL_nv_len ol
    have b2 := toL_nv_len om
    obtain ⟨σ, n, e, h1, h2⟩ := plus_f 50000000 s t (nv l) (nv m) (by omega) (by omega) (Nat.le_refl _)
    have hn := sum_len (K := 4096) (by omega) (by omega) h2
    rw [int_f s l ol (by omega), Option.bind_some, int_f t m om (by omega), Option.bind_some]
    dsimp only
    rw [e, Option.bind_some]
    dsimp only
    rw [told_f 50000001 σ n (by omega) (by omega), Option.bind_some, h1]
    rfl
  · rw [if_neg h, if_neg h]
theorem refSub_f (s t : Bool) (l m : List Int) (ol : okL l) (om : okL m) (hl : l.length ≤ 9223372036854775807) (hm : m.length ≤ 9223372036854775807) : rosetteref13_Sub.f 50000001 s l t m = some (subS s l t m) := by
  unfold rosetteref13_Sub.f subS
  rw [both_f s t l m hl hm, Option.bind_some]
  by_cases h : (rightB s l && rightB t m) = true
  · rw [if_pos h, if_pos h]
    rw [Bool.and_eq_true] at h
    have l1 := right_len h.1
    have l2 := right_len h.2
    have b1 := toL_nv_len ol
    have b2 := toL_nv_len om
    obtain ⟨σ, n, e, h1, h2⟩ := less_f 50000001 s t (nv l) (nv m) (by omega) (by omega) (by omega)
    have hn := sum_len (K := 4096) (by omega) (by omega) h2
    rw [int_f s l ol (by omega), Option.bind_some, int_f t m om (by omega), Option.bind_some]
    dsimp only
    rw [e, Option.bind_some]
    dsimp only
    rw [told_f 50000001 σ n (by omega) (by omega), Option.bind_some, h1]
    rfl
  · rw [if_neg h, if_neg h]
end Go.Proofs.Ytlcjnahfahobjaa.Lb
