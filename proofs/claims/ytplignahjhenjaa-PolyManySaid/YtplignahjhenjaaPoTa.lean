/- poly: tame, number: what the laws make of their arguments. -/
import Derived.Test.YtplignahjhenjaaPoKi
namespace Go.Proofs.Ytplignahjhenjaa.Lb
open Go.RowKit Go.Proofs.YtplignahjhenjaaW.PrintWords Go.Proofs.YtplignahjhenjaaW.PrintLast Go.Proofs.YtplignahjhenjaaW.PrintMore
open Go.Proofs.Ytplignahjhenjaa.Po (trm trm_of_tight tight_trm trm_len tight_iff ev)
set_option linter.unusedVariables false
set_option linter.unusedSimpArgs false

/-- A number as it came in: limbs, not too many. -/
def okc (c : PB.S25) : Prop := okL c.f1 ∧ c.f1.length < 17592186044416
/-- The number that comes of one that came in. -/
theorem one_of (c : PB.S25) (h : okc c) (m : Nat) (hm : m ≤ 4096) : ∃ z, lim (max m 1) z ∧ (rightB c.f0 c.f1 = true → c.f1.length ≤ m → c = sv z) ∧ ((rightB c.f0 c.f1 = false ∨ m < c.f1.length) → True) := by
  by_cases hr : rightB c.f0 c.f1 = true ∧ c.f1.length ≤ m
  · obtain ⟨h1, h2, h3⟩ := right_is hr.1 h.1
    refine ⟨iv c.f0 c.f1, ?_, fun _ _ => ?_, fun _ => trivial⟩
    · refine lim_le (k := m) ?_ (by omega)
      unfold lim
      have : (lm (iv c.f0 c.f1)).length ≤ m := by rw [← h2]; exact hr.2
      exact length_toL_le.1 this
    · cases c with
      | mk a b => simp only [sv] at *; rw [← h1, ← h2]
  · exact ⟨0, lim_zero _, fun a b => absurd ⟨a, b⟩ hr, fun _ => trivial⟩
theorem lim_small {z : Int} (h : z.natAbs < 18446744073709551616) : lim 1 z := by unfold lim; rw [Nat.pow_one]; exact h
end Go.Proofs.Ytplignahjhenjaa.Lb
