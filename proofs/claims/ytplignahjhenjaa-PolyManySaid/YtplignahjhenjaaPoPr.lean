/- poly: products of polynomials, coefficient by coefficient, plain. -/
import Derived.Test.YtplignahjhenjaaPoEv
set_option linter.unusedVariables false
namespace Go.Proofs.Ytplignahjhenjaa.Po

def scale (a : Int) (q : List Int) : List Int := q.map (fun c => a * c)
theorem ev_scale (a x : Int) : ∀ q, ev (scale a q) x = a * ev q x
  | [] => by simp [scale, ev]
  | c :: t => by
    have ih := ev_scale a x t
    unfold scale at ih ⊢
    simp only [List.map_cons, ev, ih, Int.mul_add]
    rw [← Int.mul_assoc x a, Int.mul_comm x a, Int.mul_assoc a x]
def mul : List Int → List Int → List Int
  | [], _ => []
  | a :: p, q => add (scale a q) (0 :: mul p q)
theorem ev_mul (x : Int) : ∀ p q, ev (mul p q) x = ev p x * ev q x
  | [], q => by simp [mul, ev]
  | a :: p, q => by
    simp only [mul, ev_add, ev_scale, ev, ev_mul x p q, Int.zero_add]
    rw [Int.add_mul, Int.mul_assoc]
theorem cf_add : ∀ (p q : List Int) (k : Nat), (add p q).getD k 0 = p.getD k 0 + q.getD k 0
  | [], q, k => by simp [add]
  | a :: p, [], k => by simp [add]
  | a :: p, b :: q, 0 => by simp [add]
  | a :: p, b :: q, k + 1 => by
    have := cf_add p q k
    simpa [add] using this
theorem cf_scale (a : Int) (q : List Int) (k : Nat) : (scale a q).getD k 0 = a * q.getD k 0 := by
  simp only [scale, List.getD_eq_getElem?_getD, List.getElem?_map]
  cases q[k]? <;> simp
/-- The first j terms of a product's coefficient. -/
def csum (p q : List Int) (k : Nat) : Nat → Int
  | 0 => 0
  | j + 1 => csum p q k j + p.getD j 0 * q.getD (k - j) 0
theorem csum_cons (a : Int) (p q : List Int) (k : Nat) : ∀ j, csum (a :: p) q (k + 1) (j + 1) = a * q.getD (k + 1) 0 + csum p q k j
  | 0 => by simp [csum]
  | j + 1 => by
    have ih := csum_cons a p q k j
    rw [csum, ih, csum]
    simp only [List.getD_cons_succ]
    rw [show k + 1 - (j + 1) = k - j by omega]
    omega
theorem csum_nil (q : List Int) (k : Nat) : ∀ j, csum [] q k j = 0
  | 0 => rfl
  | j + 1 => by rw [csum, csum_nil q k j]; simp
theorem cf_mul : ∀ (p q : List Int) (k : Nat), (mul p q).getD k 0 = csum p q k (k + 1)
  | [], q, k => by rw [csum_nil]; simp [mul]
  | a :: p, q, 0 => by
    simp only [mul, cf_add, cf_scale, csum]
    simp
  | a :: p, q, k + 1 => by
    rw [csum_cons, ← cf_mul p q k]
    simp only [mul, cf_add, cf_scale]
    simp
/-- Terms beyond either row are noughts. -/
theorem csum_skip (p q : List Int) (k : Nat) : ∀ j, (∀ i, i < j → q.length ≤ k - i ∨ p.length ≤ i) → csum p q k j = 0
  | 0, _ => rfl
  | j + 1, h => by
    rw [csum, csum_skip p q k j (fun i hi => h i (by omega))]
    rcases h j (by omega) with h1 | h1
    · rw [show q.getD (k - j) 0 = 0 by rw [List.getD_eq_getElem?_getD, List.getElem?_eq_none h1]; rfl]; simp
    · rw [show p.getD j 0 = 0 by rw [List.getD_eq_getElem?_getD, List.getElem?_eq_none h1]; rfl]; simp
theorem csum_more (p q : List Int) (k : Nat) : ∀ m j, (∀ i, j ≤ i → p.length ≤ i) → csum p q k (j + m) = csum p q k j
  | 0, j, _ => rfl
  | m + 1, j, h => by
    rw [← Nat.add_assoc, csum, csum_more p q k m j h]
    rw [show p.getD (j + m) 0 = 0 by rw [List.getD_eq_getElem?_getD, List.getElem?_eq_none (h _ (by omega))]; rfl]
    simp
/-- Rows of the same coefficients are trimmed alike. -/
theorem trm_of_cf : ∀ (p q : List Int), (∀ k, p.getD k 0 = q.getD k 0) → trm p = trm q
  | [], [], _ => rfl
  | [], b :: q, h => by
    have ih := trm_of_cf [] q (fun k => by simpa using h (k + 1))
    have h0 := h 0
    simp only [List.getD_nil, List.getD_cons_zero] at h0
    show [] = if trm q = [] ∧ b = 0 then [] else b :: trm q
    rw [if_pos ⟨ih.symm, h0.symm⟩]
  | a :: p, [], h => by
    have ih := trm_of_cf p [] (fun k => by simpa using h (k + 1))
    have h0 := h 0
    simp only [List.getD_nil, List.getD_cons_zero] at h0
    show (if trm p = [] ∧ a = 0 then [] else a :: trm p) = []
    rw [if_pos ⟨ih, h0⟩]
  | a :: p, b :: q, h => by
    have ih := trm_of_cf p q (fun k => by simpa using h (k + 1))
    have h0 := h 0
    simp only [List.getD_cons_zero] at h0
    simp only [trm, ih, h0]
/-- The product as the program makes it: n + m - 1 coefficients, each a sum. -/
def prod (p q : List Int) : List Int := (List.range (p.length + q.length - 1)).map (fun k => csum p q k (k + 1))
theorem cf_prod (p q : List Int) (hp : p ≠ []) (hq : q ≠ []) (k : Nat) : (prod p q).getD k 0 = (mul p q).getD k 0 := by
  rw [cf_mul]
  unfold prod
  have hp1 := List.length_pos_iff.2 hp
  have hq1 := List.length_pos_iff.2 hq
  rw [List.getD_eq_getElem?_getD, List.getElem?_map]
  by_cases h : k < p.length + q.length - 1
  · rw [List.getElem?_range h]; rfl
  · rw [List.getElem?_eq_none (by rw [List.length_range]; omega)]
    rw [csum_skip]
    · rfl
    · intro i hi
      omega
theorem trm_prod (p q : List Int) (hp : p ≠ []) (hq : q ≠ []) : trm (prod p q) = trm (mul p q) := trm_of_cf _ _ (cf_prod p q hp hq)
theorem ev_prod (p q : List Int) (hp : p ≠ []) (hq : q ≠ []) (x : Int) : ev (prod p q) x = ev p x * ev q x := by
  rw [← ev_trm, trm_prod p q hp hq, ev_trm, ev_mul]
/-- No nought of two rows' tops. -/
theorem last_prod (p q : List Int) (hp : p ≠ []) (hq : q ≠ []) : (prod p q).getD (p.length + q.length - 2) 0 = p.getD (p.length - 1) 0 * q.getD (q.length - 1) 0 := by
  have hp1 := List.length_pos_iff.2 hp
  have hq1 := List.length_pos_iff.2 hq
  rw [cf_prod p q hp hq, cf_mul]
  obtain ⟨m, hm⟩ : ∃ m, p.length + q.length - 2 + 1 = p.length - 1 + 1 + m := ⟨q.length - 1, by omega⟩
  rw [hm, csum_more _ _ _ m (p.length - 1 + 1) (fun i hi => by omega), csum, csum_skip]
  · rw [show p.length + q.length - 2 - (p.length - 1) = q.length - 1 by omega]
    omega
  · intro i hi
    omega
end Go.Proofs.Ytplignahjhenjaa.Po
