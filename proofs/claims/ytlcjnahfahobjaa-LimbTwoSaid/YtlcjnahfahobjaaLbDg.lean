/- limb: plain: digits of 32 bits, the lowest first. -/
import Derived.Test.YtlcjnahfahobjaaLbM
set_option linter.unusedVariables false
namespace Go.Proofs.Ytlcjnahfahobjaa.Lb

/-- What digits are worth. -/
def nd : List Int → Nat
  | [] => 0
  | x :: l => x.toNat + 4294967296 * nd l
def okD (l : List Int) : Prop := ∀ x ∈ l, 0 ≤ x ∧ x < 4294967296
theorem okD_nil : okD [] := fun _ h => by cases h
theorem okD_cons {x : Int} {l : List Int} : okD (x :: l) ↔ (0 ≤ x ∧ x < 4294967296) ∧ okD l := by
  unfold okD
  constructor
  · intro h
    exact ⟨h x (by simp), fun y hy => h y (by simp [hy])⟩
  · rintro ⟨h1, h2⟩ y hy
    rcases List.mem_cons.1 hy with rfl | hy
    · exact h1
    · exact h2 y hy
theorem okD_append {l m : List Int} : okD (l ++ m) ↔ okD l ∧ okD m := by
  unfold okD
  constructor
  · intro h
    exact ⟨fun y hy => h y (by simp [hy]), fun y hy => h y (by simp [hy])⟩
  · rintro ⟨h1, h2⟩ y hy
    rcases List.mem_append.1 hy with hy | hy
    · exact h1 y hy
    · exact h2 y hy
theorem okD_take {l : List Int} (h : okD l) (n : Nat) : okD (l.take n) := fun x hx => h x (List.mem_of_mem_take hx)
theorem nd_append (l m : List Int) : nd (l ++ m) = nd l + 4294967296 ^ l.length * nd m := by
  induction l with
  | nil => simp [nd]
  | cons x l ih =>
    simp only [List.cons_append, nd, ih, List.length_cons, Nat.pow_succ]
    rw [Nat.mul_add, ← Nat.mul_assoc, Nat.mul_comm 4294967296 (4294967296 ^ l.length)]
    omega
theorem nd_zeros (l : List Int) (h : ∀ x ∈ l, x = 0) : nd l = 0 := by
  induction l with
  | nil => rfl
  | cons x l ih =>
    have h0 := h x (by simp)
    subst h0
    simp only [nd]
    rw [ih (fun y hy => h y (by simp [hy]))]
    rfl
/-- Limbs in halves. -/
def hv : List Int → List Int
  | [] => []
  | x :: l => x % 4294967296 :: x / 4294967296 :: hv l
theorem nd_hv {l : List Int} (ho : okL l) : nd (hv l) = nv l := by
  induction l with
  | nil => rfl
  | cons x l ih =>
    obtain ⟨h1, h2⟩ := okL_cons.1 ho
    simp only [hv, nd, nv, ih h2]
    unfold B64
    omega
end Go.Proofs.Ytlcjnahfahobjaa.Lb
