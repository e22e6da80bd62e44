/- poly: PolyBack, plain. -/
import Derived.Test.YtplignahjhenjaaPoTa
import Derived.Test.YtplignahjhenjaaPoTc
import Derived.Test.YtplignahjhenjaaPoDp
set_option linter.unusedVariables false
namespace Go.Proofs.Ytplignahjhenjaa.Lb
open Go.Proofs.Ytplignahjhenjaa.Po (trm trm_of_tight tight_trm trm_len tight_iff ev csum ident_tight uniq div_ev)

theorem trm_getD : ∀ (l : List Int) (j : Nat), (trm l).getD j 0 = l.getD j 0
  | [], j => rfl
  | c :: t, j => by
    rw [trm]
    by_cases h : trm t = [] ∧ c = 0
    · rw [if_pos h]
      cases j with
      | zero => simp [h.2]
      | succ j =>
        have := trm_getD t j
        rw [h.1] at this
        simpa using this
    · rw [if_neg h]
      cases j with
      | zero => rfl
      | succ j => simpa using trm_getD t j
theorem mem_lim {k : Nat} {l : List Int} (h : ∀ j, lim k (l.getD j 0)) : ∀ z ∈ l, lim k z := fun z hz => by
  obtain ⟨j, hj, e⟩ := List.getElem_of_mem hz
  have := h j
  rw [List.getD_eq_getElem?_getD, List.getElem?_eq_getElem hj] at this
  rw [← e]; exact this
theorem mul_lim {p q : List Int} {a b : Nat} (hp : ∀ x ∈ p, lim a x) (hq : ∀ x ∈ q, lim b x) (hl : p.length + q.length < 1000000) : ∀ z ∈ trm (Po.mul p q), lim (a + b + 1) z := mem_lim fun j => by
  rw [trm_getD, Po.cf_mul]
  rcases Nat.lt_or_ge j 18446744073709551000 with h | h
  · exact csum_lim1 hp hq j (j + 1) (by omega)
  · rw [Po.csum_skip p q j (j + 1) (fun i hi => by omega)]
    exact lim_zero _
theorem mul_len (p q : List Int) : (trm (Po.mul p q)).length ≤ p.length + q.length - 1 := by
  by_cases hp : p = []
  · subst hp; exact Nat.zero_le _
  · by_cases hq : q = []
    · subst hq; rw [show trm (Po.mul p []) = [] from (Po.ident_tight (tight_trm _) (.inl rfl) (fun x => by rw [Po.ev_trm, Po.ev_mul]; simp [ev]))]; exact Nat.zero_le _
    · rw [← Po.trm_prod p q hp hq]
      refine Nat.le_trans (trm_len _) ?_
      simp [Po.prod]
end Go.Proofs.Ytplignahjhenjaa.Lb
