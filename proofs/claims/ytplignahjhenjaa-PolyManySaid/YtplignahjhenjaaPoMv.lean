/- poly: Shift, plain: the passes, place by place; bounds. -/
import Derived.Test.YtplignahjhenjaaPoAd
namespace Go.Proofs.Ytplignahjhenjaa.Lb
open Go.Proofs.Ytplignahjhenjaa.Po (trm ev pass pass_len pass_cons)
set_option linter.unusedVariables false

theorem lim_mul {a b : Nat} {x y : Int} (hx : lim a x) (hy : lim b y) : lim (a + b) (x * y) := by
  unfold lim at *
  rw [Int.natAbs_mul, Nat.pow_add]
  exact Nat.mul_lt_mul_of_lt_of_le hx (Nat.le_of_lt hy) (Nat.pow_pos (by decide))
/-- m steps of a pass, from the top down. -/
def rnd (z : Int) (l : List Int) : Nat → List Int
  | 0 => l
  | m + 1 => (rnd z l m).set (l.length - 2 - m) ((rnd z l m).getD (l.length - 2 - m) 0 + z * (rnd z l m).getD (l.length - 2 - m + 1) 0)
theorem rnd_len (z : Int) (l : List Int) : ∀ m, (rnd z l m).length = l.length
  | 0 => rfl
  | m + 1 => by rw [rnd, List.length_set, rnd_len z l m]
theorem headD_getD (l : List Int) : l.headD 0 = l.getD 0 0 := by cases l <;> simp
theorem rnd_eq (z : Int) (l : List Int) : ∀ m, m + 1 ≤ l.length → rnd z l m = l.take (l.length - 1 - m) ++ pass z (l.drop (l.length - 1 - m))
  | 0, h => by
    rw [rnd, Nat.sub_zero]
    have hd : l.drop (l.length - 1) = [l.getD (l.length - 1) 0] := by
      rw [List.drop_eq_getElem_cons (show l.length - 1 < l.length by omega), List.drop_eq_nil_of_le (by omega)]
      simp [List.getD_eq_getElem?_getD, List.getElem?_eq_getElem (show l.length - 1 < l.length by omega)]
    have : pass z (l.drop (l.length - 1)) = l.drop (l.length - 1) := by rw [hd]; rfl
    rw [this, List.take_append_drop]
  | m + 1, h => by
    have ih := rnd_eq z l m (by omega)
    obtain ⟨j, hj⟩ : ∃ j, l.length - 2 - m = j := ⟨_, rfl⟩
    have e1 : l.length - 1 - m = j + 1 := by omega
    have e2 : l.length - 1 - (m + 1) = j := by omega
    rw [rnd, hj, e2, ih, e1]
    have hjl : j < l.length := by omega
    have ht : l.take (j + 1) = l.take j ++ [l.getD j 0] := by
      rw [List.take_succ_eq_append_getElem hjl]
      simp [List.getD_eq_getElem?_getD, List.getElem?_eq_getElem hjl]
    have hd : l.drop j = l.getD j 0 :: l.drop (j + 1) := by
      rw [List.drop_eq_getElem_cons hjl]
      simp [List.getD_eq_getElem?_getD, List.getElem?_eq_getElem hjl]
    have hlt : (l.take j).length = j := by rw [List.length_take]; omega
    rw [hd, pass_cons, headD_getD, ht]
    generalize pass z (l.drop (j + 1)) = P
    generalize l.getD j 0 = a
    generalize l.take j = T at hlt
    subst hlt
    have g1 : ((T ++ [a]) ++ P).getD T.length 0 = a := by simp [List.getD_eq_getElem?_getD]
    have g2 : ((T ++ [a]) ++ P).getD (T.length + 1) 0 = P.getD 0 0 := by
      rw [List.getD_eq_getElem?_getD, List.getElem?_append_right (by simp)]
      simp [List.getD_eq_getElem?_getD]
    rw [g1, g2, List.append_assoc, List.set_append_right _ _ (Nat.le_refl _), Nat.sub_self]
    rfl
theorem move_len (z : Int) : ∀ i l, (Po.move z i l).length = l.length
  | 0, l => rfl
  | i + 1, l => by
    have hp := pass_len z l
    rw [Po.move]
    cases h : pass z l with
    | nil => rw [h] at hp; simpa using hp
    | cons a t =>
      rw [h] at hp
      simp only [List.length_cons] at hp ⊢
      rw [move_len z i t]
      exact hp
theorem move_next (z : Int) : ∀ i l, i < l.length → Po.move z (i + 1) l = (Po.move z i l).take i ++ pass z ((Po.move z i l).drop i)
  | 0, l, h => by
    show _ = pass z l
    rw [Po.move]
    cases e : pass z l with
    | nil => rfl
    | cons a t => rfl
  | i + 1, l, h => by
    have hp := pass_len z l
    rw [Po.move]
    cases e : pass z l with
    | nil => rw [e] at hp; simp only [List.length_nil] at hp; omega
    | cons a t =>
      rw [e] at hp
      simp only [List.length_cons] at hp
      have ih := move_next z i t (by omega)
      have hm : Po.move z (i + 1) l = a :: Po.move z i t := by rw [Po.move, e]
      rw [hm]
      simp only [List.take_succ_cons, List.drop_succ_cons, List.cons_append]
      rw [← ih]
/-- One round of the outer loop. -/
theorem move_rnd (z : Int) (l : List Int) (i : Nat) (h : i < l.length) : rnd z (Po.move z i l) (l.length - 1 - i) = Po.move z (i + 1) l := by
  rw [move_next z i l h, rnd_eq _ _ _ (by rw [move_len]; omega), move_len, show l.length - 1 - (l.length - 1 - i) = i by omega]
/-! ### bounds -/
/-- Number j is below C times Z to the number of places behind it. -/
def Bd (C Z : Nat) (l : List Int) : Prop := ∀ j, j < l.length → (l.getD j 0).natAbs ≤ C * Z ^ (l.length - 1 - j)
theorem rnd_bd {z : Int} {Z : Nat} (hz : z.natAbs ≤ Z) {l : List Int} {C : Nat} (h : Bd C Z l) : ∀ m, m + 1 ≤ l.length → Bd (C * 2 ^ m) Z (rnd z l m)
  | 0, _ => by rw [Nat.pow_zero, Nat.mul_one]; exact h
  | m + 1, hm => by
    have ih := rnd_bd hz h m (by omega)
    intro j hj
    rw [rnd_len] at hj ⊢
    rw [rnd, getD_set _ _ _ _ (by rw [rnd_len]; omega)]
    have hjj := ih j (by rw [rnd_len]; exact hj)
    rw [rnd_len] at hjj
    by_cases e : j = l.length - 2 - m
    · rw [if_pos e]
      have h1 := ih (j + 1) (by rw [rnd_len]; omega)
      rw [rnd_len] at h1
      rw [← e]
      have hs : l.length - 1 - j = (l.length - 1 - (j + 1)) + 1 := by omega
      rw [hs] at hjj ⊢
      generalize l.length - 1 - (j + 1) = K at *
      have h2 := Nat.mul_le_mul hz h1
      rw [← Int.natAbs_mul] at h2
      have h3 := Int.natAbs_add_le ((rnd z l m).getD j 0) (z * (rnd z l m).getD (j + 1) 0)
      have e1 : Z * (C * 2 ^ m * Z ^ K) = C * 2 ^ m * Z ^ (K + 1) := by
        rw [Nat.pow_succ, Nat.mul_comm Z, Nat.mul_assoc, Nat.mul_assoc]
      have e2 : C * 2 ^ (m + 1) * Z ^ (K + 1) = C * 2 ^ m * Z ^ (K + 1) + C * 2 ^ m * Z ^ (K + 1) := by
        rw [Nat.pow_succ, ← Nat.mul_assoc, Nat.mul_assoc (C * 2 ^ m) 2, Nat.mul_comm 2, ← Nat.mul_assoc, Nat.mul_two]
      omega
    · rw [if_neg e]
      refine Nat.le_trans hjj (Nat.mul_le_mul_right _ (Nat.mul_le_mul_left _ (Nat.pow_le_pow_right (by decide) (by omega))))
theorem move_bd {z : Int} {Z : Nat} (hz : z.natAbs ≤ Z) {l : List Int} {C : Nat} (h : Bd C Z l) : ∀ i, i ≤ l.length → Bd (C * 2 ^ (l.length * i)) Z (Po.move z i l)
  | 0, _ => by rw [Nat.mul_zero, Nat.pow_zero, Nat.mul_one]; exact h
  | i + 1, hi => by
    have ih := move_bd hz h i (by omega)
    have h2 := rnd_bd hz ih (l.length - 1 - i) (by rw [move_len]; omega)
    rw [move_rnd z l i (by omega)] at h2
    intro j hj
    refine Nat.le_trans (h2 j hj) (Nat.mul_le_mul_right _ ?_)
    rw [Nat.mul_assoc, ← Nat.pow_add]
    exact Nat.mul_le_mul_left _ (Nat.pow_le_pow_right (by decide) (by rw [Nat.mul_succ]; omega))
/-- All the states of a shift: a limbs, numbers of b limbs: below a + b n + 9 + 1 limbs, n up to 24. -/
theorem shift_lim {z : Int} {l : List Int} {a b : Nat} (hz : lim b z) (hl : ∀ x ∈ l, lim a x) (hn : l.length ≤ 24) (i m : Nat) (hi : i + 1 ≤ l.length) (hm : m + 1 ≤ l.length) (j : Nat) : lim (a + b * 24 + 10) ((rnd z (Po.move z i l) m).getD j 0) := by
  rcases Nat.lt_or_ge j l.length with hj | hj
  · have hz' : z.natAbs ≤ B64 ^ b := Nat.le_of_lt hz
    have h0 : Bd (B64 ^ a) (B64 ^ b) l := fun k hk => by
      have h1 : lim a (l.getD k 0) := lim_getD hl k
      have h2 : 1 ≤ (B64 ^ b) ^ (l.length - 1 - k) := Nat.pow_pos (Nat.pow_pos (by decide))
      exact Nat.le_trans (Nat.le_of_lt h1) (Nat.le_mul_of_pos_right _ h2)
    have h1 := rnd_bd hz' (move_bd hz' h0 i (by omega)) m (by rw [move_len]; omega)
    have h2 := h1 j (by rw [rnd_len, move_len]; exact hj)
    rw [rnd_len, move_len] at h2
    unfold lim
    refine Nat.lt_of_le_of_lt h2 ?_
    rw [← Nat.pow_mul, Nat.mul_assoc (B64 ^ a), ← Nat.pow_add]
    obtain ⟨k9, hk9⟩ : ∃ k, k = 9 := ⟨9, rfl⟩
    have e1 : 2 ^ (l.length * i + m) ≤ 2 ^ (64 * k9) := Nat.pow_le_pow_right (by decide) (by
      have : l.length * i ≤ 24 * 23 := Nat.mul_le_mul hn (by omega)
      omega)
    have e2 : 2 ^ (64 * k9) = B64 ^ k9 := by rw [Nat.pow_mul]; rfl
    rw [e2] at e1
    have e3 : B64 ^ (b * (l.length - 1 - j)) ≤ B64 ^ (b * 24) := Nat.pow_le_pow_right (by decide) (Nat.mul_le_mul_left _ (by omega))
    have e4 : B64 ^ (a + b * 24 + 10) = B64 ^ a * (B64 ^ k9 * B64 ^ (b * 24)) * B64 := by
      rw [← Nat.pow_add, ← Nat.pow_add, ← Nat.pow_succ]
      congr 1
      omega
    rw [e4]
    have e5 := Nat.mul_le_mul_left (B64 ^ a) (Nat.mul_le_mul e1 e3)
    have hP : 0 < B64 ^ a * (B64 ^ k9 * B64 ^ (b * 24)) := Nat.mul_pos (Nat.pow_pos (by decide)) (Nat.mul_pos (Nat.pow_pos (by decide)) (Nat.pow_pos (by decide)))
    generalize B64 ^ a * (B64 ^ k9 * B64 ^ (b * 24)) = P at *
    rw [Nat.mul_assoc]
    refine Nat.lt_of_le_of_lt e5 ?_
    have : P * 2 ≤ P * B64 := Nat.mul_le_mul_left _ (by decide)
    omega
  · rw [List.getD_eq_getElem?_getD, List.getElem?_eq_none (by rw [rnd_len, move_len]; exact hj)]
    exact lim_zero _
end Go.Proofs.Ytplignahjhenjaa.Lb
