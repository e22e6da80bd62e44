/- poly: division by a polynomial whose top is 1 or -1, plain. -/
import Derived.Test.YtplignahjhenjaaPoPr
set_option linter.unusedVariables false
namespace Go.Proofs.Ytplignahjhenjaa.Po

theorem ev_set (x : Int) : ∀ (l : List Int) (j : Nat) (v : Int), j < l.length → ev (l.set j v) x = ev l x + x ^ j * (v - l.getD j 0)
  | [], j, v, h => absurd h (by simp)
  | c :: t, 0, v, h => by simp [ev]; omega
  | c :: t, j + 1, v, h => by
    have ih := ev_set x t j v (by simpa using h)
    simp only [List.set_cons_succ, ev, ih, List.getD_cons_succ]
    rw [Int.pow_succ, Int.mul_add, Int.mul_comm (x ^ j) x, Int.mul_assoc]
    omega
theorem ev_take_succ (x : Int) : ∀ (l : List Int) (k : Nat), k < l.length → ev (l.take (k + 1)) x = ev (l.take k) x + x ^ k * l.getD k 0
  | [], k, h => absurd h (by simp)
  | c :: t, 0, h => by simp [ev]
  | c :: t, k + 1, h => by
    have ih := ev_take_succ x t k (by simpa using h)
    simp only [List.take_succ_cons, ev, ih, List.getD_cons_succ]
    rw [Int.pow_succ, Int.mul_add, Int.mul_comm (x ^ k) x, Int.mul_assoc]
    omega
/-- So many times q's first j coefficients, taken away at place i. -/
def dinner (d : Int) (q : List Int) (i : Nat) : Nat → List Int → List Int
  | 0, r => r
  | j + 1, r => (dinner d q i j r).set (i + j) ((dinner d q i j r).getD (i + j) 0 - d * q.getD j 0)
theorem dinner_len (d : Int) (q : List Int) (i : Nat) (r : List Int) : ∀ j, (dinner d q i j r).length = r.length
  | 0 => rfl
  | j + 1 => by simp only [dinner, List.length_set]; exact dinner_len d q i r j
theorem dinner_ev (d : Int) (q : List Int) (i : Nat) (r : List Int) (x : Int) : ∀ j, j ≤ q.length → i + j ≤ r.length → ev (dinner d q i j r) x = ev r x - x ^ i * (d * ev (q.take j) x)
  | 0, _, _ => by simp [dinner, ev]
  | j + 1, h1, h2 => by
    have ih := dinner_ev d q i r x j (by omega) (by omega)
    simp only [dinner]
    rw [ev_set x _ _ _ (by rw [dinner_len]; omega), ih, ev_take_succ x q j (by omega)]
    generalize (dinner d q i j r).getD (i + j) 0 = o
    generalize q.getD j 0 = c
    rw [show o - d * c - o = -(d * c) by omega, Int.mul_add, Int.mul_add, Int.pow_add, Int.mul_neg]
    have e : x ^ i * (d * (x ^ j * c)) = x ^ i * x ^ j * (d * c) := by
      rw [← Int.mul_assoc d (x ^ j) c, Int.mul_comm d (x ^ j), Int.mul_assoc (x ^ j) d c, ← Int.mul_assoc (x ^ i)]
    rw [e]
    omega
theorem getD_take {l : List Int} {n k : Nat} (h : k < n) : (l.take n).getD k 0 = l.getD k 0 := by
  rw [List.getD_eq_getElem?_getD, List.getD_eq_getElem?_getD, List.getElem?_take, if_pos h]
theorem dinner_take (d : Int) (q : List Int) (i : Nat) (r : List Int) (n : Nat) : ∀ j, i + j ≤ n → (dinner d q i j r).take n = dinner d q i j (r.take n)
  | 0, _ => rfl
  | j + 1, h => by
    have ih := dinner_take d q i r n j (by omega)
    simp only [dinner]
    rw [← ih, getD_take (by omega), List.take_set]
/-- The division, from the top down: i coefficients are still to come. -/
def dv (t : Int) (q : List Int) (n : Nat) : Nat → List Int → List Int → List Int × List Int
  | 0, dl, r => (dl, r)
  | i + 1, dl, r => dv t q n i (t * r.getD (i + n) 0 :: dl) (dinner (t * r.getD (i + n) 0) q i n r)
theorem dv_ev (t : Int) (q : List Int) (n : Nat) (hq : q.length = n + 1) (ht : q.getD n 0 = t) (h1 : t * t = 1) (x P : Int) : ∀ i dl r, i + n ≤ r.length → x ^ i * (ev dl x * ev q x) + ev (r.take (i + n)) x = P → ev (dv t q n i dl r).1 x * ev q x + ev ((dv t q n i dl r).2.take n) x = P
  | 0, dl, r, hl, h => by simpa [dv] using h
  | i + 1, dl, r, hl, h => by
    simp only [dv]
    refine dv_ev t q n hq ht h1 x P i _ _ (by rw [dinner_len]; omega) ?_
    rw [dinner_take _ _ _ _ _ _ (Nat.le_refl _), dinner_ev _ _ _ _ _ _ (by omega) (by rw [List.length_take]; omega)]
    rw [show i + 1 + n = i + n + 1 by omega, ev_take_succ x r (i + n) (by omega)] at h
    have hqe : ev q x = ev (q.take n) x + x ^ n * t := by
      have := ev_take_succ x q n (by omega)
      rw [List.take_of_length_le (by omega), ht] at this
      exact this
    generalize r.getD (i + n) 0 = o at h ⊢
    generalize ev (r.take (i + n)) x = R at h ⊢
    generalize ev (q.take n) x = Q at hqe ⊢
    simp only [ev]
    rw [← h]
    rw [Int.add_mul, Int.mul_add, Int.mul_assoc x, ← Int.mul_assoc (x ^ i) x, ← Int.pow_succ]
    have e : x ^ i * (t * o * ev q x) = x ^ i * (t * o * Q) + x ^ (i + n) * o := by
      rw [hqe, Int.mul_add, Int.mul_add, Int.pow_add]
      have e2 : t * o * (x ^ n * t) = x ^ n * o := by
        have : t * o * (x ^ n * t) = (t * t) * (x ^ n * o) := by
          rw [Int.mul_comm t o, Int.mul_assoc o t, ← Int.mul_assoc t (x ^ n) t, Int.mul_comm t (x ^ n), Int.mul_assoc (x ^ n) t t, Int.mul_comm o, Int.mul_assoc (x ^ n), Int.mul_comm (x ^ n), Int.mul_assoc (t * t), Int.mul_comm o]
        rw [this, h1, Int.one_mul]
      rw [e2, ← Int.mul_assoc (x ^ i) (x ^ n) o]
    rw [show i.succ = i + 1 from rfl, e]
    omega
/-- d q + r is p. -/
theorem div_ev (t : Int) (p q : List Int) (n : Nat) (hq : q.length = n + 1) (ht : q.getD n 0 = t) (h1 : t * t = 1) (hp : n ≤ p.length) (x : Int) : ev (dv t q n (p.length - n) [] p).1 x * ev q x + ev ((dv t q n (p.length - n) [] p).2.take n) x = ev p x := by
  refine dv_ev t q n hq ht h1 x _ _ _ _ (by omega) ?_
  rw [show p.length - n + n = p.length by omega, List.take_of_length_le (Nat.le_refl _)]
  simp [ev]
theorem trm_len : ∀ l : List Int, (trm l).length ≤ l.length
  | [] => Nat.le_refl _
  | c :: t => by
    have ih := trm_len t
    unfold trm
    by_cases h : trm t = [] ∧ c = 0
    · rw [if_pos h]; simp
    · rw [if_neg h]; simp only [List.length_cons]; omega
theorem last_eq (l : List Int) (h : l ≠ []) : l.getLast? = some (l.getD (l.length - 1) 0) := by
  rw [List.getLast?_eq_getElem?, List.getD_eq_getElem?_getD]
  have := List.length_pos_iff.2 h
  rw [List.getElem?_eq_getElem (by omega)]
  rfl
theorem tight_iff {l : List Int} (h : l ≠ []) : tight l ↔ l.getD (l.length - 1) 0 ≠ 0 := by
  unfold tight
  rw [last_eq l h]
  constructor
  · rintro (h1 | h1) h2
    · exact h h1
    · exact h1 (by rw [h2])
  · intro h1
    refine .inr fun h2 => h1 (Option.some.inj h2)
/-- What the quotient by a polynomial with a top is, and the rest, is settled. -/
theorem uniq {p q d r : List Int} (hq : q ≠ []) (ht : q.getD (q.length - 1) 0 ≠ 0) (hr : r.length < q.length) (h : ∀ x, ev d x * ev q x + ev r x = ev p x * ev q x) : trm d = trm p ∧ trm r = [] := by
  rcases Decidable.em (trm (sub d p) = []) with he | he
  · have hd := eq_of_sub d p he
    refine ⟨hd, ?_⟩
    have hz : ∀ x, ev r x = ev [] x := fun x => by
      have h1 := h x
      rw [← ev_trm x d, hd, ev_trm] at h1
      simp only [ev]
      omega
    have := ident hz
    exact this
  · exfalso
    have hte := tight_trm (sub d p)
    have hle := (tight_iff he).1 hte
    have hlq := List.length_pos_iff.2 hq
    have hlp := List.length_pos_iff.2 he
    have hpl : (prod (trm (sub d p)) q).length = (trm (sub d p)).length + q.length - 1 := by unfold prod; simp
    have hpn : prod (trm (sub d p)) q ≠ [] := fun e => by
      rw [e] at hpl
      simp only [List.length_nil] at hpl
      omega
    have htp : tight (prod (trm (sub d p)) q) := by
      rw [tight_iff hpn, hpl, show (trm (sub d p)).length + q.length - 1 - 1 = (trm (sub d p)).length + q.length - 2 by omega, last_prod _ _ he hq]
      exact Int.mul_ne_zero hle ht
    have hev : ∀ x, ev (prod (trm (sub d p)) q) x = ev (r.map (fun c => -c)) x := fun x => by
      have h1 := h x
      rw [ev_prod _ _ he hq, ev_trm, ev_sub, ev_map_neg, Int.sub_mul]
      omega
    have h2 := ident hev
    rw [trm_of_tight htp] at h2
    have h3 := trm_len (r.map (fun c => -c))
    rw [← h2, hpl, List.length_map] at h3
    omega
end Go.Proofs.Ytplignahjhenjaa.Po
