/- poly: polynomials of integers as rows of coefficients: worths, the identity theorem, plain. -/
set_option linter.unusedVariables false
namespace Go.Proofs.Ytplignahjhenjaa.Po

/-- A polynomial's worth. -/
def ev : List Int → Int → Int
  | [], _ => 0
  | c :: t, x => c + x * ev t x
/-- Noughts left out at the end. -/
def trm : List Int → List Int
  | [] => []
  | c :: t => if trm t = [] ∧ c = 0 then [] else c :: trm t
theorem ev_trm (x : Int) : ∀ l, ev (trm l) x = ev l x
  | [] => rfl
  | c :: t => by
    have ih := ev_trm x t
    unfold trm
    by_cases h : trm t = [] ∧ c = 0
    · rw [if_pos h]
      rw [h.1] at ih
      simp only [ev] at ih ⊢
      rw [← ih, h.2]
      simp
    · rw [if_neg h]
      simp only [ev, ih]
/-- No nought at the end. -/
def tight (l : List Int) : Prop := l = [] ∨ l.getLast? ≠ some 0
theorem trm_of_tight : ∀ {l : List Int}, tight l → trm l = l
  | [], _ => rfl
  | [c], h => by
    have hc : c ≠ 0 := fun e => by
      rcases h with h | h
      · cases h
      · exact h (by rw [e]; rfl)
    simp [trm, hc]
  | c :: d :: t, h => by
    have ht : tight (d :: t) := .inr (by
      rcases h with h | h
      · cases h
      · simpa [List.getLast?_cons_cons] using h)
    have ih := trm_of_tight ht
    rw [trm, ih, if_neg (fun h2 => by cases h2.1)]
theorem tight_trm : ∀ l : List Int, tight (trm l)
  | [] => .inl rfl
  | c :: t => by
    have ih := tight_trm t
    unfold trm
    by_cases h : trm t = [] ∧ c = 0
    · rw [if_pos h]; exact .inl rfl
    · rw [if_neg h]
      refine .inr ?_
      cases e : trm t with
      | nil =>
        have hc : c ≠ 0 := fun hc => h ⟨e, hc⟩
        simp [hc]
      | cons d s =>
        rw [e] at ih
        rcases ih with h2 | h2
        · cases h2
        · rw [List.getLast?_cons_cons]; exact h2
/-- What is 0 at all great numbers has no coefficient but noughts. -/
theorem zero_of : ∀ (l : List Int) (N : Int), (∀ x : Int, N < x → ev l x = 0) → trm l = []
  | [], _, _ => rfl
  | c :: t, N, h => by
    have hc : c = 0 := by
      let x : Int := max N c.natAbs + 1
      have hx : N < x := by show N < max N c.natAbs + 1; omega
      have h1 := h x hx
      simp only [ev] at h1
      have hx0 : (c.natAbs : Int) < x := by show (c.natAbs : Int) < max N c.natAbs + 1; omega
      have hd : x ∣ c := ⟨-(ev t x), by rw [Int.mul_neg]; omega⟩
      rcases Decidable.em (c = 0) with h2 | h2
      · exact h2
      · have h3 := Int.natAbs_dvd_natAbs.2 hd
        have h4 := Nat.le_of_dvd (by omega) h3
        omega
    have ht := zero_of t (max N 0) (fun x hx => by
      have h1 := h x (by omega)
      simp only [ev, hc, Int.zero_add] at h1
      rcases Int.mul_eq_zero.1 h1 with h2 | h2
      · omega
      · exact h2)
    unfold trm
    rw [if_pos ⟨ht, hc⟩]
/-- One less the other. -/
def sub : List Int → List Int → List Int
  | [], q => q.map (fun c => -c)
  | p, [] => p
  | a :: p, b :: q => (a - b) :: sub p q
theorem ev_map_neg (x : Int) : ∀ q, ev (q.map (fun c => -c)) x = - ev q x
  | [] => rfl
  | c :: t => by
    simp only [List.map_cons, ev, ev_map_neg x t, Int.mul_neg]
    omega
theorem ev_sub (x : Int) : ∀ p q, ev (sub p q) x = ev p x - ev q x
  | [], q => by simp only [sub, ev_map_neg, ev]; omega
  | a :: p, [] => by simp [sub, ev]
  | a :: p, b :: q => by
    simp only [sub, ev, ev_sub x p q, Int.mul_sub]
    omega
theorem trm_nil_map {q : List Int} (h : trm (q.map (fun c => -c)) = []) : trm q = [] := by
  induction q with
  | nil => rfl
  | cons c t ih =>
    simp only [List.map_cons, trm] at h
    by_cases h2 : trm (t.map (fun c => -c)) = [] ∧ -c = 0
    · rw [trm, if_pos ⟨ih h2.1, by omega⟩]
    · rw [if_neg h2] at h; cases h
theorem eq_of_sub : ∀ p q, trm (sub p q) = [] → trm p = trm q
  | [], q, h => by rw [trm_nil_map h]; rfl
  | a :: p, [], h => h
  | a :: p, b :: q, h => by
    simp only [sub, trm] at h
    by_cases h2 : trm (sub p q) = [] ∧ a - b = 0
    · have ih := eq_of_sub p q h2.1
      have hab : a = b := by omega
      simp only [trm, ih, hab]
    · rw [if_neg h2] at h; cases h
/-- THE IDENTITY THEOREM: what is worth the same everywhere has the same coefficients. -/
theorem ident {p q : List Int} (h : ∀ x, ev p x = ev q x) : trm p = trm q :=
  eq_of_sub p q (zero_of _ 0 (fun x _ => by rw [ev_sub, h]; omega))
theorem ident_tight {p q : List Int} (hp : tight p) (hq : tight q) (h : ∀ x, ev p x = ev q x) : p = q := by
  rw [← trm_of_tight hp, ← trm_of_tight hq, ident h]
/-! ### sums -/
def add : List Int → List Int → List Int
  | [], q => q
  | p, [] => p
  | a :: p, b :: q => (a + b) :: add p q
theorem ev_add (x : Int) : ∀ p q, ev (add p q) x = ev p x + ev q x
  | [], q => by simp [add, ev]
  | a :: p, [] => by simp [add, ev]
  | a :: p, b :: q => by
    simp only [add, ev, ev_add x p q, Int.mul_add]
    omega
/-! ### moves: one pass of Horner's way, then the rest -/
def pass (z : Int) : List Int → List Int
  | [] => []
  | [a] => [a]
  | a :: b :: t => (a + z * (pass z (b :: t)).headD 0) :: pass z (b :: t)
theorem pass_len (z : Int) : ∀ l, (pass z l).length = l.length
  | [] => rfl
  | [a] => rfl
  | a :: b :: t => by simp only [pass, List.length_cons, pass_len z (b :: t)]
theorem pass_cons (z a : Int) (t : List Int) : pass z (a :: t) = (a + z * (pass z t).headD 0) :: pass z t := by
  cases t with
  | nil => simp [pass]
  | cons b t => rfl
def move (z : Int) : Nat → List Int → List Int
  | 0, l => l
  | n + 1, l => match pass z l with
    | [] => []
    | h :: t => h :: move z n t
end Go.Proofs.Ytplignahjhenjaa.Po
