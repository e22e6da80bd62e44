/- Plain numbers: limbs of 64 bits, the lowest first. -/
set_option linter.unusedVariables false
namespace Go.Proofs.Ytplignahjhenjaa.Lb

def B64 : Nat := 18446744073709551616
/-- What limbs are worth. -/
def nv : List Int → Nat
  | [] => 0
  | x :: l => x.toNat + B64 * nv l
/-- All limbs are limbs. -/
def okL (l : List Int) : Prop := ∀ x ∈ l, 0 ≤ x ∧ x < 18446744073709551616
instance (l : List Int) : Decidable (okL l) := by unfold okL; infer_instance
/-- The limbs of a number, no nought on top. -/
def toL (n : Nat) : List Int := if h : n = 0 then [] else ((n % B64 : Nat) : Int) :: toL (n / B64)
termination_by n
decreasing_by exact Nat.div_lt_self (by omega) (by decide)
theorem toL_zero : toL 0 = [] := by unfold toL; simp
theorem toL_pos {n : Nat} (h : n ≠ 0) : toL n = ((n % B64 : Nat) : Int) :: toL (n / B64) := by
  conv => lhs; unfold toL
  rw [dif_neg h]
theorem okL_nil : okL [] := fun _ h => by cases h
theorem okL_cons {x : Int} {l : List Int} : okL (x :: l) ↔ (0 ≤ x ∧ x < 18446744073709551616) ∧ okL l := by
  unfold okL
  constructor
  · intro h
    exact ⟨h x (by simp), fun y hy => h y (by simp [hy])⟩
  · rintro ⟨h1, h2⟩ y hy
    rcases List.mem_cons.1 hy with rfl | hy
    · exact h1
    · exact h2 y hy
theorem okL_take {l : List Int} (h : okL l) (n : Nat) : okL (l.take n) := fun x hx => h x (List.mem_of_mem_take hx)
theorem nv_append (l m : List Int) : nv (l ++ m) = nv l + B64 ^ l.length * nv m := by
  induction l with
  | nil => simp [nv]
  | cons x l ih =>
    simp only [List.cons_append, nv, ih, List.length_cons, Nat.pow_succ]
    rw [Nat.mul_add, ← Nat.mul_assoc, Nat.mul_comm B64 (B64 ^ l.length)]
    omega
theorem nv_lt {l : List Int} (h : okL l) : nv l < B64 ^ l.length := by
  induction l with
  | nil => simp [nv]
  | cons x l ih =>
    obtain ⟨h1, h2⟩ := okL_cons.1 h
    have := ih h2
    simp only [nv, List.length_cons, Nat.pow_succ]
    have hx : x.toNat < B64 := by unfold B64; omega
    have hm : B64 * nv l + B64 ≤ B64 ^ l.length * B64 := by
      rw [Nat.mul_comm (B64 ^ l.length), ← Nat.mul_succ]
      exact Nat.mul_le_mul_left _ this
    omega
theorem okL_toL (n : Nat) : okL (toL n) := by
  induction n using Nat.strongRecOn with
  | _ n ih =>
    by_cases h : n = 0
    · rw [h, toL_zero]; exact okL_nil
    · rw [toL_pos h, okL_cons]
      have := Nat.mod_lt n (show 0 < B64 by decide)
      refine ⟨⟨by omega, ?_⟩, ih _ (Nat.div_lt_self (by omega) (by decide))⟩
      unfold B64 at this ⊢
      omega
theorem nv_toL (n : Nat) : nv (toL n) = n := by
  induction n using Nat.strongRecOn with
  | _ n ih =>
    by_cases h : n = 0
    · rw [h, toL_zero]; rfl
    · rw [toL_pos h]
      simp only [nv, Int.toNat_natCast]
      rw [ih _ (Nat.div_lt_self (by omega) (by decide))]
      exact Nat.mod_add_div n B64
/-- No nought on top. -/
def canon (l : List Int) : Prop := l = [] ∨ l.getLast? ≠ some 0
theorem canon_toL (n : Nat) : canon (toL n) := by
  induction n using Nat.strongRecOn with
  | _ n ih =>
    by_cases h : n = 0
    · exact .inl (by rw [h, toL_zero])
    · rw [toL_pos h]
      refine .inr ?_
      rcases ih _ (Nat.div_lt_self (by omega) (show 1 < B64 by decide)) with h0 | h0
      · rw [h0]
        have hd : n / B64 = 0 := by
          have := nv_toL (n / B64)
          rw [h0] at this
          exact this.symm
        have hlt : n < B64 := by
          rcases Nat.lt_or_ge n B64 with hl | hg
          · exact hl
          · have := Nat.div_pos hg (show 0 < B64 by decide); omega
        rw [Nat.mod_eq_of_lt hlt]
        simp only [List.getLast?_singleton, ne_eq, Option.some.injEq]
        omega
      · intro hc
        cases ht : toL (n / B64) with
        | nil => rw [ht] at h0; 
                 have hd : n / B64 = 0 := by
                   have := nv_toL (n / B64)
                   rw [ht] at this
                   exact this.symm
                 rw [ht] at hc
                 have hlt : n < B64 := by
                   rcases Nat.lt_or_ge n B64 with hl | hg
                   · exact hl
                   · have := Nat.div_pos hg (show 0 < B64 by decide); omega
                 rw [Nat.mod_eq_of_lt hlt] at hc
                 simp only [List.getLast?_singleton, Option.some.injEq] at hc
                 omega
        | cons y t =>
          rw [ht] at hc h0
          rw [List.getLast?_cons_cons] at hc
          exact h0 hc
theorem canon_tail {x : Int} {l : List Int} (h : canon (x :: l)) : canon l := by
  cases l with
  | nil => exact .inl rfl
  | cons y t =>
    rcases h with h | h
    · cases h
    · refine .inr ?_
      rwa [List.getLast?_cons_cons] at h
theorem canon_zero {l : List Int} (ho : okL l) (h : canon l) (hz : nv l = 0) : l = [] := by
  induction l with
  | nil => rfl
  | cons x l ih =>
    exfalso
    obtain ⟨h1, h2⟩ := okL_cons.1 ho
    simp only [nv] at hz
    have hB : B64 = 18446744073709551616 := rfl
    have hx : x.toNat = 0 := by omega
    have hl : nv l = 0 := by
      have : B64 * nv l = 0 := by omega
      rcases Nat.mul_eq_zero.1 this with h | h
      · rw [hB] at h; omega
      · exact h
    have := ih h2 (canon_tail h) hl
    subst this
    rcases h with h | h
    · cases h
    · simp at h; omega
/-- A number has one row of limbs. -/
theorem toL_nv {l : List Int} (ho : okL l) (h : canon l) : toL (nv l) = l := by
  induction l with
  | nil => exact toL_zero
  | cons x l ih =>
    obtain ⟨h1, h2⟩ := okL_cons.1 ho
    have hx : x.toNat < B64 := by unfold B64; omega
    have hne : nv (x :: l) ≠ 0 := fun e => by have := canon_zero ho h e; cases this
    rw [toL_pos hne]
    simp only [nv]
    rw [Nat.add_mul_mod_self_left, Nat.mod_eq_of_lt hx, Nat.add_mul_div_left _ _ (show 0 < B64 by decide), Nat.div_eq_of_lt hx, Nat.zero_add, ih h2 (canon_tail h), Int.toNat_of_nonneg h1.1]
theorem length_toL_le {n k : Nat} : (toL n).length ≤ k ↔ n < B64 ^ k := by
  constructor
  · intro h
    have := nv_lt (okL_toL n)
    rw [nv_toL] at this
    exact Nat.lt_of_lt_of_le this (Nat.pow_le_pow_right (by decide) h)
  · intro h
    induction k generalizing n with
    | zero =>
      have : n = 0 := by simpa using h
      rw [this, toL_zero]; exact Nat.le_refl _
    | succ k ih =>
      by_cases h0 : n = 0
      · rw [h0, toL_zero]; exact Nat.zero_le _
      · rw [toL_pos h0, List.length_cons]
        refine Nat.succ_le_succ (ih ?_)
        rw [Nat.div_lt_iff_lt_mul (by decide)]
        rwa [Nat.pow_succ] at h
theorem toL_eq_nil {n : Nat} : toL n = [] ↔ n = 0 := by
  constructor
  · intro h
    have := nv_toL n
    rw [h] at this
    exact this.symm
  · rintro rfl; exact toL_zero
/-- What `told` answers: a sign, limbs, an error. -/
def toldS (neg : Bool) (n : Nat) : Bool × List Int × Int :=
  if 4096 < (toL n).length then (false, [], 3) else if n = 0 then (false, [], 0) else (neg, toL n, 0)
end Go.Proofs.Ytplignahjhenjaa.Lb
