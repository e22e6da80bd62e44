/- store: what a reader's certificate and certificates come to (plain). -/
import Derived.Test.YtoheamfnddfgkaaStH
namespace Go.Proofs.Ytoheamfnddfgkaa.St
set_option linter.unusedVariables false

/-- Factors and powers: so many pairs; or where it fails. -/
def pairsS : Nat → List Int → Except Nat ((List Int × List Int) × Nat)
  | 0, _ => .ok (([], []), 0)
  | m + 1, b =>
    match groupsS 2147483647 b with
    | none => .error 0
    | some (f, k1) =>
      match groupsS 2147483647 (b.drop k1) with
      | none => .error k1
      | some (p, k2) =>
        match pairsS m (b.drop (k1 + k2)) with
        | .error e => .error (k1 + k2 + e)
        | .ok ((fs, ps), k3) => .ok ((f :: fs, p :: ps), k1 + k2 + k3)
/-- A certificate: its number, its base, its factors, its powers; and how many bytes. -/
def certS (b : List Int) : Except Nat (((Bool × List Int) × (Bool × List Int) × List Int × List Int) × Nat) :=
  match numS b with
  | none => .error 0
  | some (n, k1) =>
    match numS (b.drop k1) with
    | none => .error k1
    | some (m, k2) =>
      match groupsS 64 (b.drop (k1 + k2)) with
      | none => .error (k1 + k2)
      | some (q, k3) =>
        match pairsS q.toNat (b.drop (k1 + k2 + k3)) with
        | .error e => .error (k1 + k2 + k3 + e)
        | .ok ((fs, ps), k4) => .ok ((n, m, fs, ps), k1 + k2 + k3 + k4)
def certsS : Nat → List Int → Except Nat (List ((Bool × List Int) × (Bool × List Int) × List Int × List Int) × Nat)
  | 0, _ => .ok ([], 0)
  | m + 1, b =>
    match certS b with
    | .error e => .error e
    | .ok (c, k) =>
      match certsS m (b.drop k) with
      | .error e => .error (k + e)
      | .ok (cs, k2) => .ok (c :: cs, k + k2)
/-- The certificates that bytes are, or where they can't be read. -/
def readS (b : List Int) : Except Nat (List ((Bool × List Int) × (Bool × List Int) × List Int × List Int)) :=
  match groupsS 64 b with
  | none => .error 0
  | some (q, k) =>
    match certsS q.toNat (b.drop k) with
    | .error e => .error (k + e)
    | .ok (cs, k2) => if k + k2 < b.length then .error (k + k2) else .ok cs
theorem numS_len {b : List Int} {r : Bool × List Int} {k : Nat} (h : numS b = some (r, k)) : 0 < k ∧ k ≤ b.length := by
  unfold numS at h
  cases hg : groupsS 8193 b with
  | none => rw [hg] at h; cases h
  | some p =>
    obtain ⟨n, k0⟩ := p
    rw [hg] at h
    have hl := gr_len hg
    simp only at h
    split at h
    · cases h
    · split at h
      · injection h with h
        injection h with h1 h2
        omega
      · cases h
end Go.Proofs.Ytoheamfnddfgkaa.St
