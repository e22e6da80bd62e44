/- bits.Mul64: the product's halves, plain. -/
set_option linter.unusedVariables false
namespace Go.Proofs.Ytplignahjhenjaa.Lb

theorem mul64_parts (x y : Nat) : x * y = (x / 4294967296) * (y / 4294967296) * 18446744073709551616 + (x / 4294967296) * (y % 4294967296) * 4294967296 + (x % 4294967296) * (y / 4294967296) * 4294967296 + (x % 4294967296) * (y % 4294967296) := by
  have hx := Nat.div_add_mod x 4294967296
  have hy := Nat.div_add_mod y 4294967296
  generalize x / 4294967296 = x1 at hx ⊢
  generalize x % 4294967296 = x0 at hx ⊢
  generalize y / 4294967296 = y1 at hy ⊢
  generalize y % 4294967296 = y0 at hy ⊢
  subst hx hy
  rw [Nat.add_mul, Nat.mul_add, Nat.mul_add]
  have e1 : 4294967296 * x1 * (4294967296 * y1) = x1 * y1 * 18446744073709551616 := by
    rw [Nat.mul_assoc 4294967296 x1, ← Nat.mul_assoc x1 4294967296 y1, Nat.mul_comm x1 4294967296, Nat.mul_assoc 4294967296 x1 y1, ← Nat.mul_assoc]
    omega
  have e2 : 4294967296 * x1 * y0 = x1 * y0 * 4294967296 := by rw [Nat.mul_assoc, Nat.mul_comm]
  have e3 : x0 * (4294967296 * y1) = x0 * y1 * 4294967296 := by rw [← Nat.mul_assoc, Nat.mul_comm x0, Nat.mul_assoc, Nat.mul_comm]
  rw [e1, e2, e3]
  omega
/-- The way of bits.Mul64, by halves of 32 bits. -/
theorem mul64 (x y : Nat) (hx : x < 18446744073709551616) (hy : y < 18446744073709551616) :
    (x / 4294967296) * (y % 4294967296) + (x % 4294967296) * (y % 4294967296) / 4294967296 < 18446744073709551616 ∧
    ((x / 4294967296) * (y % 4294967296) + (x % 4294967296) * (y % 4294967296) / 4294967296) % 4294967296 + (x % 4294967296) * (y / 4294967296) < 18446744073709551616 ∧
    (x / 4294967296) * (y / 4294967296) + ((x / 4294967296) * (y % 4294967296) + (x % 4294967296) * (y % 4294967296) / 4294967296) / 4294967296 + (((x / 4294967296) * (y % 4294967296) + (x % 4294967296) * (y % 4294967296) / 4294967296) % 4294967296 + (x % 4294967296) * (y / 4294967296)) / 4294967296 = x * y / 18446744073709551616 := by
  have hp := mul64_parts x y
  have b : ∀ a c : Nat, a < 4294967296 → c < 4294967296 → a * c ≤ 18446744065119617025 := fun a c ha hc => by
    have := Nat.mul_le_mul (Nat.le_of_lt_succ (show a < 4294967295 + 1 by omega)) (Nat.le_of_lt_succ (show c < 4294967295 + 1 by omega))
    omega
  have b1 := b (x / 4294967296) (y % 4294967296) (by omega) (by omega)
  have b2 := b (x % 4294967296) (y % 4294967296) (by omega) (by omega)
  have b3 := b (x % 4294967296) (y / 4294967296) (by omega) (by omega)
  generalize (x / 4294967296) * (y / 4294967296) = p11 at hp ⊢
  generalize (x / 4294967296) * (y % 4294967296) = p10 at hp b1 ⊢
  generalize (x % 4294967296) * (y / 4294967296) = p01 at hp b3 ⊢
  generalize (x % 4294967296) * (y % 4294967296) = p00 at hp b2 ⊢
  rw [hp]
  refine ⟨by omega, by omega, by omega⟩
/-- One step of school's inner loop, by machine words: low + carry, then out + low, the carries into high. -/
theorem step64 (xy o c : Nat) : (o + (xy % 18446744073709551616 + c) % 18446744073709551616) % 18446744073709551616 = (xy + o + c) % 18446744073709551616 ∧ xy / 18446744073709551616 + (xy % 18446744073709551616 + c) / 18446744073709551616 + (o + (xy % 18446744073709551616 + c) % 18446744073709551616) / 18446744073709551616 = (xy + o + c) / 18446744073709551616 := by
  refine ⟨by omega, by omega⟩
end Go.Proofs.Ytplignahjhenjaa.Lb
