/- poly: Divide, plain: place by place; bounds. -/
import Derived.Test.YtplignahjhenjaaPoMv
import Derived.Test.YtplignahjhenjaaPoDi
namespace Go.Proofs.Ytplignahjhenjaa.Lb
open Go.Proofs.Ytplignahjhenjaa.Po (trm ev dinner dinner_len dv)
set_option linter.unusedVariables false

theorem dinner_get (d : Int) (q : List Int) (i : Nat) (r : List Int) : ∀ j k, i + j ≤ r.length → (dinner d q i j r).getD k 0 = if i ≤ k ∧ k < i + j then r.getD k 0 - d * q.getD (k - i) 0 else r.getD k 0
  | 0, k, _ => by rw [if_neg (by omega)]; rfl
  | j + 1, k, h => by
    have ih := dinner_get d q i r j
    rw [dinner, getD_set _ _ _ _ (by rw [dinner_len]; omega), ih k (by omega), ih (i + j) (by omega), if_neg (show ¬ (i ≤ i + j ∧ i + j < i + j) by omega)]
    by_cases e : k = i + j
    · subst e
      rw [if_pos rfl, if_pos (by omega), show i + j - i = j by omega]
    · rw [if_neg e]
      by_cases e2 : i ≤ k ∧ k < i + j
      · rw [if_pos e2, if_pos (by omega)]
      · rw [if_neg e2, if_neg (by omega)]
/-- The state of the division: i quotients are still to come. -/
def dst (t : Int) (q : List Int) (n : Nat) : Nat → List Int → List Int × List Int
  | 0, r => ([], r)
  | k + 1, r => ((t * (dst t q n k r).2.getD (r.length - n - (k + 1) + n) 0) :: (dst t q n k r).1, dinner (t * (dst t q n k r).2.getD (r.length - n - (k + 1) + n) 0) q (r.length - n - (k + 1)) n (dst t q n k r).2)
theorem dst_len (t : Int) (q : List Int) (n : Nat) (r : List Int) : ∀ k, (dst t q n k r).1.length = k ∧ (dst t q n k r).2.length = r.length
  | 0 => ⟨rfl, rfl⟩
  | k + 1 => by
    have ih := dst_len t q n r k
    rw [dst]
    refine ⟨?_, ?_⟩
    · rw [List.length_cons, ih.1]
    · show (dinner _ _ _ _ _).length = _
      rw [dinner_len]; exact ih.2
theorem lim_one {t : Int} (ht : t.natAbs = 1) {k : Nat} {x : Int} (h : lim k x) : lim k (t * x) := by
  unfold lim at *
  rw [Int.natAbs_mul, ht, Nat.one_mul]; exact h
theorem dst_lim {t : Int} (ht : t.natAbs = 1) {q r : List Int} {n a b : Nat} (hr : ∀ x ∈ r, lim a x) (hq : ∀ x ∈ q, lim b x) (hn : n ≤ r.length) : ∀ k, k ≤ r.length - n → ∀ j, lim (a + k * (b + 1)) ((dst t q n k r).2.getD j 0)
  | 0, _, j => by rw [Nat.zero_mul, Nat.add_zero]; exact lim_getD hr j
  | k + 1, hk, j => by
    have ih := dst_lim ht hr hq hn k (by omega)
    have hl := (dst_len t q n r k).2
    rw [dst]
    show lim _ ((dinner _ _ _ _ _).getD j 0)
    rw [dinner_get _ _ _ _ _ _ (by rw [hl]; omega)]
    have e : a + (k + 1) * (b + 1) = a + k * (b + 1) + b + 1 := by rw [Nat.succ_mul]; omega
    by_cases h : r.length - n - (k + 1) ≤ j ∧ j < r.length - n - (k + 1) + n
    · rw [if_pos h, e]
      refine lim_sub (lim_le (ih j) (by omega)) ?_
      exact lim_mul (lim_one ht (ih _)) (lim_getD hq _)
    · rw [if_neg h, e]
      exact lim_le (ih j) (by omega)
end Go.Proofs.Ytplignahjhenjaa.Lb
