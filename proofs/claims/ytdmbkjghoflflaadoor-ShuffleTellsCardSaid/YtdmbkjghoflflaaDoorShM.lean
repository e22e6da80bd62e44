/- Plain numbers for the turning about of places. -/
import Derived.Laws.BitsLemmas
namespace Go.Proofs.YtdmbkjghoflflaaDoor.Sh

def nibs : List Nat := [0, 8, 4, 12, 2, 10, 6, 14, 1, 9, 5, 13, 3, 11, 7, 15]
def nib (p : Nat) : Nat := nibs.getD p 0
/-- What `turned` has put together after k rounds. -/
def tk : Nat → Nat → Nat
  | 0, _ => 0
  | k + 1, p => tk k p * 16 + nib (p / 16 ^ k % 16)
def pk (k p : Nat) : Nat := p / 16 ^ k
theorem nib_lt (p : Nat) : nib p < 16 := by
  by_cases h : p < 16
  · have key : ∀ q, q < 16 → nib q < 16 := by decide
    exact key p h
  · have : nib p = 0 := by
      unfold nib
      rw [List.getD_eq_getElem?_getD, List.getElem?_eq_none (by simp [nibs]; omega)]; rfl
    omega
theorem tk_lt (k p : Nat) : tk k p < 16 ^ k := by
  induction k with
  | zero => simp [tk]
  | succ k ih => have := nib_lt (p / 16 ^ k % 16); simp only [tk, Nat.pow_succ]; omega
theorem pk_succ (k p : Nat) : pk (k + 1) p = pk k p / 16 := by
  unfold pk; rw [Nat.pow_succ, Nat.div_div_eq_div_mul]

/-- `rosetteref06.Turned`, round by round. -/
def rk : Nat → Nat → Nat
  | 0, _ => 0
  | k + 1, p => 2 * rk k p + p / 2 ^ k % 2
def qk (k p : Nat) : Nat := p / 2 ^ k
theorem qk_succ (k p : Nat) : qk (k + 1) p = qk k p / 2 := by
  unfold qk; rw [Nat.pow_succ, Nat.div_div_eq_div_mul]
theorem rk_lt (k p : Nat) : rk k p < 2 ^ k := by
  induction k with
  | zero => simp [rk]
  | succ k ih => simp only [rk, Nat.pow_succ]; omega

/-- The turned place is the reference's. -/
def agree (o p : Nat) : Bool := tk 4 p / 2 ^ (16 - o) == rk o p
theorem nib_rk : ∀ q, q < 16 → nib q = rk 4 q := by decide
theorem rk_add (a b p : Nat) : rk (a + b) p = rk a p * 2 ^ b + rk b (p / 2 ^ a) := by
  induction b with
  | zero => simp [rk]
  | succ b ih =>
    rw [← Nat.add_assoc]
    simp only [rk]
    rw [ih, Nat.pow_succ, Nat.pow_add, Nat.div_div_eq_div_mul]
    rw [Nat.mul_add, Nat.mul_comm 2 (rk a p * 2 ^ b), Nat.mul_assoc, Nat.add_assoc]
theorem rk_mod (k p : Nat) : rk k (p % 2 ^ k) = rk k p := by
  have key : ∀ j, j ≤ k → rk j (p % 2 ^ k) = rk j p := by
    intro j
    induction j with
    | zero => intro _; rfl
    | succ j ih =>
      intro hj
      simp only [rk]
      rw [ih (by omega)]
      congr 1
      obtain ⟨d, rfl⟩ : ∃ d, k = j + 1 + d := ⟨k - (j + 1), by omega⟩
      rw [Nat.pow_add, Nat.mod_mul, Nat.pow_succ]
      have h2 : 0 < 2 ^ j := Nat.two_pow_pos j
      have e1 : (p % (2 ^ j * 2) + 2 ^ j * 2 * (p / (2 ^ j * 2) % 2 ^ d)) / 2 ^ j = p % (2 ^ j * 2) / 2 ^ j + 2 * (p / (2 ^ j * 2) % 2 ^ d) := by
        rw [Nat.mul_assoc, Nat.add_mul_div_left _ _ h2]
      rw [e1, Nat.add_mul_mod_self_left, Nat.mod_mul_right_div_self, Nat.mod_mod]
  exact key k (Nat.le_refl _)
theorem tk_rk (k p : Nat) : tk k p = rk (4 * k) p := by
  induction k with
  | zero => rfl
  | succ k ih =>
    rw [Nat.mul_add, rk_add]
    simp only [tk]
    rw [ih, nib_rk _ (Nat.mod_lt _ (by decide)), show (4 : Nat) * 1 = 4 from rfl]
    have : p / 16 ^ k = p / 2 ^ (4 * k) := by rw [Nat.pow_mul]
    rw [this]
    have := rk_mod 4 (p / 2 ^ (4 * k))
    rw [show (2 : Nat) ^ 4 = 16 from rfl] at *
    rw [this]
theorem rk_zero (k : Nat) : rk k 0 = 0 := by
  induction k with
  | zero => rfl
  | succ k ih => simp [rk, ih]
theorem agree_all (o p : Nat) (ho : o ≤ 14) (hp : p < 2 ^ o) : tk 4 p / 2 ^ (16 - o) = rk o p := by
  rw [tk_rk]
  have : 4 * 4 = o + (16 - o) := by omega
  rw [this, rk_add, Nat.div_eq_of_lt hp, rk_zero, Nat.add_zero, Nat.mul_div_cancel _ (Nat.two_pow_pos _)]

theorem wraps63 (n : Int) (h₀ : 0 ≤ n) (h₁ : n < 2 ^ 63) : IntKind.i64.wrap n = n := by rw [IntKind.wrap_i64]; omega
theorem and15 (a : Nat) (h : a < 9223372036854775808) : bits .and .i64 (a : Int) 15 = ((a % 16 : Nat) : Int) := by
  have := bits_mask .i64 63 (by decide) wraps63 4 (by decide) (a : Int) (by omega) (by omega)
  simpa using this
theorem or_nib (a b : Nat) (h : a < 1048576) (hb : b < 16) : bits .or .i64 ((a : Int) * 16) (b : Int) = ((a * 16 + b : Nat) : Int) := by
  have := bits_join .i64 63 (by decide) wraps63 4 ((a : Int) * 16) (b : Int) (by omega) (by omega) (by omega) (by omega) (by omega) (by omega)
  rw [this]; simp
end Go.Proofs.YtdmbkjghoflflaaDoor.Sh
