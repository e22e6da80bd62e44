/- limb: what the printed Right, sizes, Bits come to. -/
import Derived.Test.YtplignahjhenjaaPAx1
import Derived.Test.YtplignahjhenjaaLbM
import Derived.Lib.BitFns
namespace Go.Proofs.Ytplignahjhenjaa.Lb
open Go.RowKit Go.Proofs.YtplignahjhenjaaW.PrintWords Go.Proofs.YtplignahjhenjaaW.PrintLast Go.Proofs.YtplignahjhenjaaW.PrintMore
set_option linter.unusedVariables false
set_option linter.unusedSimpArgs false

/-- Is it a right whole number? -/
def rightB (s : Bool) (l : List Int) : Bool := if l.length = 0 then !s else (decide (l.length ≤ 4096) && (l.getD (l.length - 1) 0 != 0))
theorem right_f (s : Bool) (l : List Int) (hm : l.length ≤ 9223372036854775807) : PA.limb_Right.f s l = some (rightB s l) := by
  unfold PA.limb_Right.f rightB
  have hw : wrap64 ((l.length : Int) - 1) = (l.length : Int) - 1 := by unfold wrap64; omega
  rw [hw]
  by_cases h0 : l.length = 0
  · rw [if_pos (by omega), if_pos h0, if_neg (by omega : ¬ (l.length : Int) > 0)]
    cases s <;> simp
  · rw [if_neg (by omega), if_neg h0, if_pos (by omega)]
    by_cases h1 : l.length ≤ 4096
    · rw [if_pos (by omega), if_pos (by omega), if_pos (by omega)]
      have e : rd l ((l.length : Int) - 1) = l.getD (l.length - 1) 0 := by
        unfold rd
        congr 1
        omega
      rw [e]
      simp [h1]
    · rw [if_neg (by omega)]
      simp [h1]
theorem right_canon {s : Bool} {l : List Int} (h : rightB s l = true) : canon l := by
  unfold rightB at h
  split at h
  · rename_i h0
    exact .inl (List.eq_nil_of_length_eq_zero h0)
  · rename_i h0
    refine .inr ?_
    simp only [Bool.and_eq_true, bne_iff_ne, ne_eq, decide_eq_true_eq] at h
    rw [List.getLast?_eq_getElem?]
    intro e
    apply h.2
    rw [List.getD_eq_getElem?_getD, e]
    rfl
theorem right_len {s : Bool} {l : List Int} (h : rightB s l = true) : l.length ≤ 4096 := by
  unfold rightB at h
  split at h
  · omega
  · simp only [Bool.and_eq_true, decide_eq_true_eq] at h
    exact h.1
theorem right_toL (s : Bool) (n : Nat) (hn : n < B64 ^ 4096) (hs : n = 0 → s = false) : rightB s (toL n) = true := by
  unfold rightB
  have hl : (toL n).length ≤ 4096 := length_toL_le.2 hn
  by_cases h0 : n = 0
  · subst h0
    rw [toL_zero, hs rfl]; rfl
  · have hne : (toL n).length ≠ 0 := fun e => h0 (toL_eq_nil.1 (List.eq_nil_of_length_eq_zero e))
    rw [if_neg hne]
    simp only [Bool.and_eq_true, bne_iff_ne, ne_eq, decide_eq_true_eq]
    refine ⟨hl, ?_⟩
    rcases canon_toL n with h | h
    · rw [h] at hne; exact absurd rfl hne
    · intro e
      apply h
      rw [List.getLast?_eq_getElem?]
      rw [List.getD_eq_getElem?_getD] at e
      have hlt : (toL n).length - 1 < (toL n).length := by omega
      rw [List.getElem?_eq_getElem hlt] at e ⊢
      exact congrArg some e
/-- Which of two sizes is less, by limbs. -/
theorem nv_lt_of_len {l m : List Int} (hl : okL l) (hm : okL m) (cm : canon m) (h : l.length < m.length) : nv l < nv m := by
  refine Nat.lt_of_lt_of_le (nv_lt hl) ?_
  rcases Nat.lt_or_ge (nv m) (B64 ^ l.length) with h1 | h1
  · have := length_toL_le.2 h1
    rw [toL_nv hm cm] at this
    omega
  · exact h1
/-- What `sizes`' loop has seen from the top down: the tops are alike. -/
theorem nv_split (l : List Int) (j : Nat) (hj : j < l.length) : nv (l.take (j + 1)) = nv (l.take j) + B64 ^ j * (l.getD j 0).toNat := by
  rw [List.take_succ_eq_append_getElem hj, nv_append]
  have hl : (l.take j).length = j := by rw [List.length_take]; omega
  rw [hl]
  simp [nv, List.getD_eq_getElem?_getD, List.getElem?_eq_getElem hj]
theorem getD_ok {l : List Int} (h : okL l) (j : Nat) : 0 ≤ l.getD j 0 ∧ l.getD j 0 < 18446744073709551616 := by
  rcases Nat.lt_or_ge j l.length with hj | hj
  · rw [List.getD_eq_getElem?_getD, List.getElem?_eq_getElem hj]
    exact h _ (List.getElem_mem hj)
  · rw [List.getD_eq_getElem?_getD, List.getElem?_eq_none hj]
    simp
theorem take_lt {l m : List Int} (hl : okL l) (hm : okL m) {j : Nat} (h1 : j < l.length) (h2 : j < m.length) (h : l.getD j 0 < m.getD j 0) : nv (l.take (j + 1)) < nv (m.take (j + 1)) := by
  rw [nv_split l j h1, nv_split m j h2]
  have a := nv_lt (okL_take hl j)
  have hlen : (l.take j).length = j := by rw [List.length_take]; omega
  rw [hlen] at a
  have b := getD_ok hl j
  have c := getD_ok hm j
  have d : (l.getD j 0).toNat + 1 ≤ (m.getD j 0).toNat := by omega
  have e := Nat.mul_le_mul_left (B64 ^ j) d
  rw [Nat.mul_add, Nat.mul_one] at e
  omega
/-- The sign of `sizes`. -/
def cmpN (a b : Nat) : Int := if a < b then -1 else if b < a then 1 else 0
theorem sizes_l0 {l m : List Int} (hl : okL l) (hm : okL m) (he : l.length = m.length) (hb : l.length ≤ 4611686018427387904) : ∀ (d k j : Nat), j + d = l.length → d < k → 
    nv (l.drop d) = nv (m.drop d) → PA.limb_sizes.l0 k l m (l.length : Int) (j : Int) = some (cmpN (nv (l.take d)) (nv (m.take d))) := by
  intro d
  induction d with
  | zero =>
    intro k j hj hk _
    obtain ⟨k, rfl⟩ : ∃ q, k = q + 1 := ⟨k - 1, by omega⟩
    simp only [PA.limb_sizes.l0]
    rw [if_neg (by omega)]
    simp [cmpN]
  | succ d ih =>
    intro k j hj hk ht
    obtain ⟨k, rfl⟩ : ∃ q, k = q + 1 := ⟨k - 1, by omega⟩
    have hdl : d < l.length := by omega
    have hdm : d < m.length := by omega
    have hw1 : wrap64 ((l.length : Int) - 1) = (l.length : Int) - 1 := by unfold wrap64; omega
    have hw2 : wrap64 ((l.length : Int) - 1 - (j : Int)) = (d : Int) := by unfold wrap64; omega
    have hw3 : wrap64 ((j : Int) + 1) = ((j + 1 : Nat) : Int) := by unfold wrap64; omega
    have e1 : ∀ q : List Int, rd q (d : Int) = q.getD d 0 := fun q => by simp [rd]
    simp only [PA.limb_sizes.l0]
    rw [if_pos (by omega), hw1, hw2, if_pos (by omega), if_pos (by omega), if_pos (by omega), e1, e1, hw3]
    by_cases h1 : l.getD d 0 < m.getD d 0
    · rw [if_pos h1]
      have := take_lt hl hm hdl hdm h1
      unfold cmpN
      rw [if_pos this]
    · rw [if_neg h1]
      by_cases h2 : m.getD d 0 < l.getD d 0
      · rw [if_pos h2]
        have := take_lt hm hl hdm hdl h2
        unfold cmpN
        rw [if_neg (by omega), if_pos this]
      · rw [if_neg h2]
        have heq : l.getD d 0 = m.getD d 0 := by omega
        rw [ih k (j + 1) (by omega) (by omega) ?_]
        · rw [nv_split l d hdl, nv_split m d hdm, heq]
          unfold cmpN
          generalize B64 ^ d * (m.getD d 0).toNat = q
          by_cases a : nv (l.take d) < nv (m.take d)
          · rw [if_pos a, if_pos (by omega)]
          · rw [if_neg a, if_neg (by omega : ¬ (nv (l.take d) + q < nv (m.take d) + q))]
            by_cases b : nv (m.take d) < nv (l.take d)
            · rw [if_pos b, if_pos (by omega)]
            · rw [if_neg b, if_neg (by omega)]
        · have f : ∀ q : List Int, d < q.length → nv (q.drop d) = (q.getD d 0).toNat + B64 * nv (q.drop (d + 1)) := fun q hq => by
            rw [List.drop_eq_getElem_cons hq]
            simp [nv, List.getD_eq_getElem?_getD, List.getElem?_eq_getElem hq]
          rw [f l hdl, f m hdm, ht, heq]
theorem sizes_f {l m : List Int} (hl : okL l) (hm : okL m) (cl : canon l) (cm : canon m) (bl : l.length ≤ 4096) (bm : m.length ≤ 4096) :
    ∃ k r, PA.limb_sizes.f k l m = some r ∧ (r < 0 ↔ nv l < nv m) ∧ (r = 0 ↔ nv l = nv m) := by
  unfold PA.limb_sizes.f
  by_cases he : l.length = m.length
  · refine ⟨l.length + 1, cmpN (nv l) (nv m), ?_, ?_, ?_⟩
    · rw [if_pos (by omega)]
      have := sizes_l0 hl hm he (by omega) l.length (l.length + 1) 0 (by omega) (by omega) (by rw [List.drop_length, he, List.drop_length])
      rw [List.take_length] at this
      rw [show ((0 : Nat) : Int) = 0 from rfl, he, List.take_length] at this
      rw [he]; exact this
    · unfold cmpN; split
      · simp [*]
      · split <;> simp [*]
    · unfold cmpN; split
      · simp; omega
      · split
        · simp; omega
        · simp; omega
  · refine ⟨0, (l.length : Int) - m.length, ?_, ?_, ?_⟩
    · rw [if_neg (by omega)]
      have : wrap64 ((l.length : Int) - (m.length : Int)) = (l.length : Int) - m.length := by unfold wrap64; omega
      rw [this]
    · rcases Nat.lt_or_ge l.length m.length with h | h
      · have := nv_lt_of_len hl hm cm h
        constructor <;> intro _ <;> omega
      · have := nv_lt_of_len hm hl cl (by omega)
        constructor <;> intro _ <;> omega
    · rcases Nat.lt_or_ge l.length m.length with h | h
      · have := nv_lt_of_len hl hm cm h
        constructor <;> intro _ <;> omega
      · have := nv_lt_of_len hm hl cl (by omega)
        constructor <;> intro _ <;> omega
end Go.Proofs.Ytplignahjhenjaa.Lb
