/- poly: PolyBack, plain. -/
import Derived.Test.YtplignahjhenjaaPoTa
import Derived.Test.YtplignahjhenjaaPoTc
import Derived.Test.YtplignahjhenjaaPoDp
set_option linter.unusedVariables false
namespace Go.Proofs.Ytplignahjhenjaa.Lb
open Go.Proofs.Ytplignahjhenjaa.Po (trm trm_of_tight tight_trm trm_len tight_iff ev csum ident_tight uniq div_ev)

theorem trm_getD : ∀ (l : List Int) (j : Nat), (trm l).getD j 0 = l.getD j 0
  | [], j => rfl
  | c :: t, j => by
    rw [trm]
    by_cases h : trm t = [] ∧ c = 0
    · rw [if_pos h]
      cases j with
      | zero => simp [h.2]
      | succ j =>
        have := trm_getD t j
        rw [h.1] at this
        simpa using this
    · rw [if_neg h]
      cases j with
      | zero => rfl
      | succ j => simpa using trm_getD t j
theorem mem_lim {k : Nat} {l : List Int} (h : ∀ j, lim k (l.getD j 0)) : ∀ z ∈ l, lim k z := fun z hz => by
  obtain ⟨j, hj, e⟩ := List.getElem_of_mem hz
  have := h j
  rw [List.getD_eq_getElem?_getD, List.getElem?_eq_getElem hj] at this
  rw [← e]; exact this
theorem mul_lim {p q : List Int} {a b : Nat} (hp : ∀ x ∈ p, lim a x) (hq : ∀ x ∈ q, lim b x) (hl : p.length + q.length < 1000000) : ∀ z ∈ trm (Po.mul p q), lim (a + b + 1) z := mem_lim fun j => by
  rw [trm_getD, Po.cf_mul]
  rcases Nat.lt_or_ge j 18446744073709551000 with h | h
  · exact csum_lim1 hp hq j (j + 1) (by omega)
  · rw [Po.csum_skip p q j (j + 1) (fun i hi => by omega)]
    exact lim_zero _
theorem mul_len (p q : List Int) : (trm (Po.mul p q)).length ≤ p.length + q.length - 1 := by
  by_cases hp : p = []
  · subst hp; exact Nat.zero_le _
  · by_cases hq : q = []
    · subst hq; rw [show trm (Po.mul p []) = [] from (Po.ident_tight (tight_trm _) (.inl rfl) (fun x => by rw [Po.ev_trm, Po.ev_mul]; simp [ev]))]; exact Nat.zero_le _
    · rw [← Po.trm_prod p q hp hq]
      refine Nat.le_trans (trm_len _) ?_
      simp [Po.prod]
theorem dst_lim1 {t : Int} (ht : t.natAbs = 1) {q r : List Int} {n a b : Nat} (hr : ∀ x ∈ r, lim a x) (hq : ∀ x ∈ q, lim b x) (hn : n ≤ r.length) : ∀ k, k ≤ r.length - n → ∀ z ∈ (dst t q n k r).1, lim (a + k * (b + 1)) z
  | 0, _, z, hz => by cases hz
  | k + 1, hk, z, hz => by
    rw [dst] at hz
    have e : a + (k + 1) * (b + 1) = a + k * (b + 1) + b + 1 := by rw [Nat.succ_mul]; omega
    rcases List.mem_cons.1 hz with h | h
    · rw [h, e]
      exact lim_le (lim_one ht (dst_lim ht hr hq hn k (by omega) _)) (by omega)
    · rw [e]
      exact lim_le (dst_lim1 ht hr hq hn k (by omega) z h) (by omega)
/-- The limits of a quotient and a rest. -/
theorem quot_lim {t : Int} (ht : t.natAbs = 1) {q r : List Int} {n a b : Nat} (hr : ∀ x ∈ r, lim a x) (hq : ∀ x ∈ q, lim b x) (hl : r.length ≤ 24) : (∀ z ∈ trm (dst t q n (r.length - n) r).1, lim (a + 24 * (b + 1)) z) ∧ ∀ z ∈ trm ((dst t q n (r.length - n) r).2.take n), lim (a + 24 * (b + 1)) z := by
  rcases Nat.lt_or_ge r.length n with h | h
  · rw [show r.length - n = 0 by omega]
    refine ⟨fun z hz => (by cases hz), lim_trm fun z hz => lim_le (hr z (List.mem_of_mem_take hz)) (by omega)⟩
  · have hm : (r.length - n) * (b + 1) ≤ 24 * (b + 1) := Nat.mul_le_mul_right _ (by omega)
    refine ⟨lim_trm fun z hz => lim_le (dst_lim1 ht hr hq h _ (Nat.le_refl _) z hz) (by omega), lim_trm fun z hz => ?_⟩
    exact mem_lim (fun j => lim_le (dst_lim ht hr hq h _ (Nat.le_refl _) j) (by omega)) z (List.mem_of_mem_take hz)
theorem quot_len (t : Int) (q r : List Int) (n : Nat) : (trm (dst t q n (r.length - n) r).1).length ≤ r.length - n ∧ (trm ((dst t q n (r.length - n) r).2.take n)).length ≤ n := by
  have h := dst_len t q n r (r.length - n)
  refine ⟨by have := trm_len (dst t q n (r.length - n) r).1; omega, ?_⟩
  have := trm_len ((dst t q n (r.length - n) r).2.take n)
  rw [List.length_take] at this
  omega
theorem sq_one {t : Int} (ht : t.natAbs = 1) : t * t = 1 := by
  rcases Int.natAbs_eq t with h | h <;> rw [ht] at h <;> rw [h] <;> rfl
theorem dst_ev (t : Int) (p q : List Int) (n : Nat) (hq : q.length = n + 1) (ht : q.getD n 0 = t) (h1 : t.natAbs = 1) (x : Int) : ev (dst t q n (p.length - n) p).1 x * ev q x + ev ((dst t q n (p.length - n) p).2.take n) x = ev p x := by
  rcases Nat.lt_or_ge p.length n with h | h
  · rw [show p.length - n = 0 by omega]
    simp only [dst, ev]
    rw [List.take_of_length_le (by omega)]
    omega
  · rw [dst_all]
    exact div_ev t p q n hq ht (sq_one h1) h x
/-- d q + r is p. -/
theorem back1 {t : Int} {p q : List Int} {n : Nat} (tp : Po.tight p) (hq : q.length = n + 1) (ht : q.getD n 0 = t) (h1 : t.natAbs = 1) : trm (Po.add (trm (Po.mul (trm (dst t q n (p.length - n) p).1) q)) (trm ((dst t q n (p.length - n) p).2.take n))) = p :=
  ident_tight (tight_trm _) tp fun x => by
    rw [Po.ev_trm, Po.ev_add, Po.ev_trm, Po.ev_trm, Po.ev_mul, Po.ev_trm]
    exact dst_ev t p q n hq ht h1 x
/-- The quotient of a product. -/
theorem back2 {t : Int} {p q : List Int} {n : Nat} (tp : Po.tight p) (hq : q.length = n + 1) (ht : q.getD n 0 = t) (h1 : t.natAbs = 1) : trm (dst t q n ((trm (Po.mul p q)).length - n) (trm (Po.mul p q))).1 = p ∧ trm ((dst t q n ((trm (Po.mul p q)).length - n) (trm (Po.mul p q))).2.take n) = [] := by
  have hq0 : q ≠ [] := fun h => by rw [h] at hq; simp at hq
  have htop : q.getD (q.length - 1) 0 ≠ 0 := by
    rw [hq, Nat.add_sub_cancel, ht]
    intro h; rw [h] at h1; simp at h1
  have h := uniq (p := p) (q := q) (d := (dst t q n ((trm (Po.mul p q)).length - n) (trm (Po.mul p q))).1) (r := (dst t q n ((trm (Po.mul p q)).length - n) (trm (Po.mul p q))).2.take n) hq0 htop (by rw [List.length_take]; omega) (fun x => by
    rw [dst_ev t _ q n hq ht h1 x, Po.ev_trm, Po.ev_mul])
  exact ⟨h.1.trans (trm_of_tight tp), h.2⟩
end Go.Proofs.Ytplignahjhenjaa.Lb
