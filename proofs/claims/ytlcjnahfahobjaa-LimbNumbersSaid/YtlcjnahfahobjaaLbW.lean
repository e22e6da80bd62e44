/- limb: what the printed Cmp, Small, SameInt, is, NatTrim, Whole.Int come to. -/
import Derived.Test.YtlcjnahfahobjaaPCx2
import Derived.Test.YtlcjnahfahobjaaLbC
import Derived.Test.YtlcjnahfahobjaaLbV
namespace Go.Proofs.Ytlcjnahfahobjaa.Lb
open Go.RowKit Go.Proofs.YtlcjnahfahobjaaW.PrintWords Go.Proofs.YtlcjnahfahobjaaW.PrintLast Go.Proofs.YtlcjnahfahobjaaW.PrintMore
set_option linter.unusedVariables false
set_option linter.unusedSimpArgs false

/-- Which of two whole numbers is less. -/
def cmpZ (a b : Int) : Int := if a < b then -1 else if a = b then 0 else 1
def cmpS (s : Bool) (l : List Int) (t : Bool) (m : List Int) : Int × Int := if rightB s l && rightB t m then (cmpZ (iv s l) (iv t m), 0) else (0, 2)
theorem cmpZ_lt {a b : Int} (h : a < b) : cmpZ a b = -1 := by unfold cmpZ; rw [if_pos h]
theorem cmpZ_eq {a b : Int} (h : a = b) : cmpZ a b = 0 := by unfold cmpZ; rw [if_neg (by omega), if_pos h]
theorem cmpZ_gt {a b : Int} (h : b < a) : cmpZ a b = 1 := by unfold cmpZ; rw [if_neg (by omega), if_neg (by omega)]
theorem nv_pos_of {l : List Int} (ho : okL l) (hr : rightB true l = true) : 0 < nv l := by
  rcases Nat.eq_zero_or_pos (nv l) with h | h
  · have := canon_zero ho (right_canon hr) h
    subst this
    simp [rightB] at hr
  · exact h
theorem cmp_f (s t : Bool) (l m : List Int) (hl : okL l) (hm : okL m) (bl : l.length ≤ 9223372036854775807) (bm : m.length ≤ 9223372036854775807) :
    ∃ k, PC.limb_Cmp.f k s l t m = some (cmpS s l t m) := by
  unfold cmpS PC.limb_Cmp.f PC.limb_Right.f
  rw [if_pos bl, if_pos bm]
  simp only [Option.bind_some]
  by_cases h1 : rightB s l = true
  · by_cases h2 : rightB t m = true
    · obtain ⟨k0, r, hr, hlt, heq⟩ := sizes_f hl hm (right_canon h1) (right_canon h2) (right_len h1) (right_len h2)
      refine ⟨k0 + 3, ?_⟩
      have hs : PC.limb_sizes.f (k0 + 2) l m = some r := at_rounds (fun k => PA.limb_sizes.mono l m k) (by omega) hr
      rw [h1, h2]
      simp only [PC.limb_Cmp.j0, hs, Option.bind_some, Bool.not_true, Bool.false_eq_true, if_false, Bool.and_self, if_true]
      have p1 : s = true → 0 < nv l := fun e => nv_pos_of hl (e ▸ h1)
      have p2 : t = true → 0 < nv m := fun e => nv_pos_of hm (e ▸ h2)
      rcases (by omega : r < 0 ∨ r = 0 ∨ 0 < r) with a | a | a
      · have a1 : ¬ 0 < r := by omega
        have a2 : ¬ r = 0 := by omega
        have := hlt.1 a
        cases s <;> cases t
        · rw [cmpZ_lt (by simp only [iv, Bool.false_eq_true, if_false]; omega)]
          simp [PC.limb_Cmp.j1, PC.limb_Cmp.j2, a]
        · have := p2 rfl
          rw [cmpZ_gt (by simp only [iv, Bool.false_eq_true, if_false, if_true]; omega)]
          simp [PC.limb_Cmp.j1, PC.limb_Cmp.j2]
        · have := p1 rfl
          rw [cmpZ_lt (by simp only [iv, Bool.false_eq_true, if_false, if_true]; omega)]
          simp [PC.limb_Cmp.j1, PC.limb_Cmp.j2]
        · rw [cmpZ_gt (by simp only [iv, if_true]; omega)]
          simp [PC.limb_Cmp.j1, PC.limb_Cmp.j2, a1, a2]
      · have := heq.1 a
        subst a
        cases s <;> cases t
        · rw [cmpZ_eq (by simp only [iv, Bool.false_eq_true, if_false]; omega)]
          simp [PC.limb_Cmp.j1, PC.limb_Cmp.j2]
        · have := p2 rfl
          rw [cmpZ_gt (by simp only [iv, Bool.false_eq_true, if_false, if_true]; omega)]
          simp [PC.limb_Cmp.j1, PC.limb_Cmp.j2]
        · have := p1 rfl
          rw [cmpZ_lt (by simp only [iv, Bool.false_eq_true, if_false, if_true]; omega)]
          simp [PC.limb_Cmp.j1, PC.limb_Cmp.j2]
        · rw [cmpZ_eq (by simp only [iv, if_true]; omega)]
          simp [PC.limb_Cmp.j1, PC.limb_Cmp.j2]
      · have a1 : ¬ r < 0 := by omega
        have a2 : ¬ r = 0 := by omega
        have : nv m < nv l := by
          have h3 : ¬ nv l < nv m := fun h => a1 (hlt.2 h)
          have h4 : ¬ nv l = nv m := fun h => a2 (heq.2 h)
          omega
        cases s <;> cases t
        · rw [cmpZ_gt (by simp only [iv, Bool.false_eq_true, if_false]; omega)]
          simp [PC.limb_Cmp.j1, PC.limb_Cmp.j2, a1, a2]
        · have := p2 rfl
          rw [cmpZ_gt (by simp only [iv, Bool.false_eq_true, if_false, if_true]; omega)]
          simp [PC.limb_Cmp.j1, PC.limb_Cmp.j2]
        · have := p1 rfl
          rw [cmpZ_lt (by simp only [iv, Bool.false_eq_true, if_false, if_true]; omega)]
          simp [PC.limb_Cmp.j1, PC.limb_Cmp.j2]
        · rw [cmpZ_lt (by simp only [iv, if_true]; omega)]
          simp [PC.limb_Cmp.j1, PC.limb_Cmp.j2, a]
    · have h2 : rightB t m = false := by simpa using h2
      refine ⟨1, ?_⟩
      rw [h1, h2]
      simp [PC.limb_Cmp.j0]
  · have h1 : rightB s l = false := by simpa using h1
    refine ⟨1, ?_⟩
    rw [h1]
    simp [PC.limb_Cmp.j0]
def smallS (s : Bool) (l : List Int) : Int × Bool := if rightB s l ∧ -9223372036854775808 ≤ iv s l ∧ iv s l ≤ 9223372036854775807 then (iv s l, true) else (0, false)
theorem small_f (s : Bool) (l : List Int) (hl : okL l) (bl : l.length ≤ 9223372036854775807) : ∃ k, PC.limb_Small.f k s l = some (smallS s l) := by
  unfold smallS PC.limb_Small.f PC.limb_Right.f
  rw [if_pos bl]
  simp only [Option.bind_some]
  refine ⟨2, ?_⟩
  by_cases h1 : rightB s l = true
  · rw [h1]
    simp only [if_true, true_and]
    match l, hl, bl, h1 with
    | [], _, _, h1 =>
      have := right_sign h1 rfl
      subst this
      simp [PC.limb_Small.j0, iv, nv]
    | [x], hl, _, h1 =>
      have hx := hl x (by simp)
      have e0 : rd [x] 0 = x := rfl
      have en : (nv [x] : Int) = x := by simp [nv]; omega
      simp only [PC.limb_Small.j0, PC.limb_Small.j1, List.length_singleton, e0]
      unfold iv
      rw [en]
      cases s
      · simp
        by_cases a : x < 9223372036854775808
        · rw [if_pos a, if_pos (by omega)]
          unfold wrap64
          congr 2
          omega
        · rw [if_neg a, if_neg (by omega)]
      · simp
        by_cases a : x ≤ 9223372036854775808
        · rw [if_pos a, if_pos (by omega)]
          unfold wrap64
          congr 2
          omega
        · rw [if_neg a, if_neg (by omega)]
    | x :: y :: q, hl, bl, h1 =>
      have hbig : 18446744073709551616 ≤ nv (x :: y :: q) := by
        have c := right_canon h1
        rcases Nat.lt_or_ge (nv (x :: y :: q)) (B64 ^ 1) with h | h
        · have := length_toL_le.2 h
          rw [toL_nv hl c] at this
          simp at this
        · simpa [B64] using h
      simp only [PC.limb_Small.j0, List.length_cons]
      rw [if_pos (by simp; omega), if_neg]
      unfold iv
      cases s <;> simp <;> omega
  · have h1 : rightB s l = false := by simpa using h1
    rw [h1]
    simp [PC.limb_Small.j0]
theorem same_l0 {l m : List Int} (he : l.length = m.length) (hb : l.length ≤ 9223372036854775807) : ∀ (d k j : Nat), j + d = l.length → d < k → l.take j = m.take j →
    PC.rosettekit_SameLimbs.l0 k l m (j : Int) = some (decide (l = m)) := by
  intro d
  induction d with
  | zero =>
    intro k j hj hk ht
    obtain ⟨k, rfl⟩ : ∃ q, k = q + 1 := ⟨k - 1, by omega⟩
    simp only [PC.rosettekit_SameLimbs.l0]
    rw [if_neg (by omega)]
    rw [List.take_of_length_le (by omega), List.take_of_length_le (by omega)] at ht
    simp [ht]
  | succ d ih =>
    intro k j hj hk ht
    obtain ⟨k, rfl⟩ : ∃ q, k = q + 1 := ⟨k - 1, by omega⟩
    have hw : wrap64 ((j : Int) + 1) = ((j + 1 : Nat) : Int) := by unfold wrap64; omega
    have e1 : ∀ q : List Int, rd q (j : Int) = q.getD j 0 := fun q => by simp [rd]
    simp only [PC.rosettekit_SameLimbs.l0]
    rw [if_pos (by omega), if_pos (by omega), if_pos (by omega), e1, e1, hw]
    by_cases h : l.getD j 0 = m.getD j 0
    · rw [if_pos h]
      refine ih k (j + 1) (by omega) (by omega) ?_
      rw [List.take_succ_eq_append_getElem (by omega), List.take_succ_eq_append_getElem (by omega), ht]
      rw [getD_lt (by omega), getD_lt (by omega)] at h
      rw [h]
    · rw [if_neg h]
      have : l ≠ m := fun e => h (by rw [e])
      simp [this]
def sameS (s : Bool) (l : List Int) (t : Bool) (m : List Int) : Bool := s == t && decide (l = m)
theorem same_f (s t : Bool) (l m : List Int) (hb : l.length ≤ 9223372036854775807) : ∃ k, PC.rosettekit_SameInt.f k s l t m = some (sameS s l t m) := by
  unfold PC.rosettekit_SameInt.f PC.rosettekit_SameLimbs.f sameS
  refine ⟨l.length + 1, ?_⟩
  by_cases h : s = t
  · subst h
    simp only [beq_self_eq_true, if_true, Bool.true_and]
    by_cases he : l.length = m.length
    · rw [if_pos (by omega)]
      have := same_l0 he hb l.length (l.length + 1) 0 (by omega) (by omega) (by simp)
      rw [show ((0 : Nat) : Int) = 0 from rfl] at this
      rw [this]; rfl
    · rw [if_neg (by omega)]
      have : l ≠ m := fun e => he (by rw [e])
      simp [this]
  · have : (s == t) = false := by simpa using h
    rw [this]
    simp
def isS (s : Bool) (l : List Int) (e : Int) (t : Bool) (m : List Int) (f : Int) : Bool := decide (e = f) && sameS s l t m
theorem is_f (s t : Bool) (l m : List Int) (e f : Int) (hb : l.length ≤ 9223372036854775807) : ∃ k, PC.rosettelaw13_is.f k s l e t m f = some (isS s l e t m f) := by
  obtain ⟨k, hk⟩ := same_f s t l m hb
  refine ⟨k, ?_⟩
  unfold PC.rosettelaw13_is.f isS
  by_cases h : e = f
  · rw [if_pos h, hk]; simp [h]
  · rw [if_neg h]; simp [h]
end Go.Proofs.Ytlcjnahfahobjaa.Lb
