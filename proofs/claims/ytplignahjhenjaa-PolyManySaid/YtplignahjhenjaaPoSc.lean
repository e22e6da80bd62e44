/- times: the product of limbs, one by one: plain. -/
import Derived.Test.YtplignahjhenjaaLbM
set_option linter.unusedVariables false
namespace Go.Proofs.Ytplignahjhenjaa.Lb

theorem nv_setS : ∀ (l : List Int) (j : Nat) (v : Int), j < l.length → nv (l.set j v) + B64 ^ j * (l.getD j 0).toNat = nv l + B64 ^ j * v.toNat
  | [], j, v, h => absurd h (by simp)
  | x :: l, 0, v, h => by
    simp only [List.set_cons_zero, nv, List.getD_cons_zero, Nat.pow_zero, Nat.one_mul]
    omega
  | x :: l, j + 1, v, h => by
    have ih := nv_setS l j v (by simpa using h)
    simp only [List.set_cons_succ, nv, List.getD_cons_succ, Nat.pow_succ]
    have e1 : ∀ z : Nat, B64 ^ j * B64 * z = B64 * (B64 ^ j * z) := fun z => by rw [Nat.mul_comm (B64 ^ j) B64, Nat.mul_assoc]
    rw [e1, e1]
    have e2 : B64 * (nv (l.set j v) + B64 ^ j * (l.getD j 0).toNat) = B64 * (nv l + B64 ^ j * v.toNat) := by rw [ih]
    rw [Nat.mul_add, Nat.mul_add] at e2
    omega
theorem okL_setS {l : List Int} (h : okL l) (j : Nat) {v : Int} (h0 : 0 ≤ v) (h1 : v < 18446744073709551616) : okL (l.set j v) := fun x hx => by
  rcases List.mem_or_eq_of_mem_set hx with hx | hx
  · exact h x hx
  · rw [hx]; exact ⟨h0, h1⟩
theorem okL_getS {l : List Int} (h : okL l) (j : Nat) : 0 ≤ l.getD j 0 ∧ l.getD j 0 < 18446744073709551616 := by
  rw [List.getD_eq_getElem?_getD]
  cases e : l[j]? with
  | none => simp
  | some x => exact h x (List.mem_of_getElem? e)
theorem nv_takeS (l : List Int) (k : Nat) (h : k < l.length) : nv (l.take (k + 1)) = nv (l.take k) + B64 ^ k * (l.getD k 0).toNat := by
  have e : l.take (k + 1) = l.take k ++ [l.getD k 0] := by
    rw [List.take_succ_eq_append_getElem h, List.getD_eq_getElem?_getD, List.getElem?_eq_getElem h]
    rfl
  rw [e, nv_append, List.length_take, Nat.min_eq_left (Nat.le_of_lt h)]
  simp [nv]
/-- One limb times many, added at a place: k of them are done. -/
def inner (x : Nat) (ys : List Int) (i : Nat) : Nat → List Int → List Int × Nat
  | 0, out => (out, 0)
  | k + 1, out => ((inner x ys i k out).1.set (i + k) (((x * (ys.getD k 0).toNat + ((inner x ys i k out).1.getD (i + k) 0).toNat + (inner x ys i k out).2) % B64 : Nat) : Int), (x * (ys.getD k 0).toNat + ((inner x ys i k out).1.getD (i + k) 0).toNat + (inner x ys i k out).2) / B64)
theorem inner_len (x : Nat) (ys : List Int) (i : Nat) (out : List Int) : ∀ k, (inner x ys i k out).1.length = out.length
  | 0 => rfl
  | k + 1 => by simp only [inner, List.length_set]; exact inner_len x ys i out k
theorem inner_get (x : Nat) (ys : List Int) (i : Nat) (out : List Int) (j : Nat) : ∀ k, i + k ≤ j → (inner x ys i k out).1.getD j 0 = out.getD j 0
  | 0, _ => rfl
  | k + 1, h => by
    simp only [inner]
    rw [List.getD_eq_getElem?_getD, List.getElem?_set_ne (by omega), ← List.getD_eq_getElem?_getD]
    exact inner_get x ys i out j k (by omega)
theorem inner_ok {x : Nat} {ys : List Int} {out : List Int} (hx : x < B64) (hy : okL ys) (ho : okL out) (i : Nat) : ∀ k, okL (inner x ys i k out).1 ∧ (inner x ys i k out).2 < B64
  | 0 => ⟨ho, by unfold inner B64; omega⟩
  | k + 1 => by
    obtain ⟨h1, h2⟩ := inner_ok hx hy ho i k
    have h3 := okL_getS hy k
    have h4 := okL_getS h1 (i + k)
    simp only [inner]
    have hy' : (ys.getD k 0).toNat < B64 := by unfold B64; omega
    have ho' : ((inner x ys i k out).1.getD (i + k) 0).toNat < B64 := by unfold B64; omega
    generalize (ys.getD k 0).toNat = y at hy' ⊢
    generalize ((inner x ys i k out).1.getD (i + k) 0).toNat = o at ho' ⊢
    generalize (inner x ys i k out).2 = c at h2 ⊢
    have hm := Nat.mod_lt (x * y + o + c) (show 0 < B64 by decide)
    refine ⟨okL_setS h1 _ (by omega) (by unfold B64 at hm; unfold B64; omega), ?_⟩
    rw [Nat.div_lt_iff_lt_mul (by decide)]
    have hxy : x * y ≤ (B64 - 1) * (B64 - 1) := Nat.mul_le_mul (by omega) (by omega)
    have e : (B64 - 1) * (B64 - 1) + 2 * (B64 - 1) + 1 = B64 * B64 := by decide
    omega
theorem inner_nv (x : Nat) (ys : List Int) (i : Nat) (out : List Int) : ∀ k, k ≤ ys.length → i + k ≤ out.length → nv (inner x ys i k out).1 + B64 ^ (i + k) * (inner x ys i k out).2 = nv out + B64 ^ i * (x * nv (ys.take k))
  | 0, _, _ => by simp [inner, nv]
  | k + 1, h1, h2 => by
    have ih := inner_nv x ys i out k (by omega) (by omega)
    rw [nv_takeS ys k (by omega)]
    have hs := nv_setS (inner x ys i k out).1 (i + k) (((x * (ys.getD k 0).toNat + ((inner x ys i k out).1.getD (i + k) 0).toNat + (inner x ys i k out).2) % B64 : Nat) : Int) (by rw [inner_len]; omega)
    simp only [inner]
    rw [Int.toNat_natCast] at hs
    generalize (ys.getD k 0).toNat = y at hs ⊢
    generalize ((inner x ys i k out).1.getD (i + k) 0).toNat = o at hs ⊢
    generalize (inner x ys i k out).2 = c at hs ih ⊢
    generalize nv ((inner x ys i k out).1.set (i + k) (((x * y + o + c) % B64 : Nat) : Int)) = A at hs ⊢
    generalize nv (inner x ys i k out).1 = B at hs ih
    have hd := Nat.div_add_mod (x * y + o + c) B64
    generalize (x * y + o + c) / B64 = q at hd ⊢
    generalize (x * y + o + c) % B64 = r at hd hs
    have e1 : B64 ^ (i + (k + 1)) * q = B64 ^ (i + k) * (B64 * q) := by rw [← Nat.add_assoc, Nat.pow_succ, Nat.mul_assoc]
    have e2 : B64 ^ (i + k) * (B64 * q) + B64 ^ (i + k) * r = B64 ^ (i + k) * (x * y) + B64 ^ (i + k) * o + B64 ^ (i + k) * c := by rw [← Nat.mul_add, hd, Nat.mul_add, Nat.mul_add]
    have e3 : B64 ^ i * (x * (nv (ys.take k) + B64 ^ k * y)) = B64 ^ i * (x * nv (ys.take k)) + B64 ^ (i + k) * (x * y) := by
      rw [Nat.mul_add, Nat.mul_add, Nat.pow_add, ← Nat.mul_assoc x (B64 ^ k) y, Nat.mul_comm x (B64 ^ k), Nat.mul_assoc (B64 ^ k) x y, ← Nat.mul_assoc (B64 ^ i) (B64 ^ k)]
    rw [e1, e3]
    omega
/-- All limbs times many: i of them are done. -/
def outer (xs ys : List Int) : Nat → List Int → List Int
  | 0, out => out
  | i + 1, out => (inner (xs.getD i 0).toNat ys i ys.length (outer xs ys i out)).1.set (i + ys.length) ((inner (xs.getD i 0).toNat ys i ys.length (outer xs ys i out)).2 : Int)
theorem outer_len (xs ys out : List Int) : ∀ i, (outer xs ys i out).length = out.length
  | 0 => rfl
  | i + 1 => by simp only [outer, List.length_set, inner_len]; exact outer_len xs ys out i
theorem outer_ok {xs ys out : List Int} (hx : okL xs) (hy : okL ys) (ho : okL out) : ∀ i, okL (outer xs ys i out)
  | 0 => ho
  | i + 1 => by
    have ih := outer_ok hx hy ho i
    have h3 := okL_getS hx i
    obtain ⟨h1, h2⟩ := inner_ok (x := (xs.getD i 0).toNat) (by unfold B64; omega) hy ih i ys.length
    simp only [outer]
    exact okL_setS h1 _ (by omega) (by unfold B64 at h2; omega)
theorem outer_get (xs ys : List Int) (n : Nat) : ∀ i j, i + ys.length ≤ j → (outer xs ys i (List.replicate n 0)).getD j 0 = 0
  | 0, j, _ => by
    simp only [outer, List.getD_eq_getElem?_getD, List.getElem?_replicate]
    split <;> rfl
  | i + 1, j, h => by
    simp only [outer]
    rw [List.getD_eq_getElem?_getD, List.getElem?_set_ne (by omega), ← List.getD_eq_getElem?_getD, inner_get _ _ _ _ _ _ (by omega)]
    exact outer_get xs ys n i j (by omega)
theorem outer_nv (xs ys : List Int) (n : Nat) (hn : n = xs.length + ys.length) : ∀ i, i ≤ xs.length → nv (outer xs ys i (List.replicate n 0)) = nv (xs.take i) * nv ys
  | 0, _ => by
    have : ∀ m, nv (List.replicate m (0 : Int)) = 0 := fun m => by
      induction m with
      | zero => rfl
      | succ m ih => simp [List.replicate_succ, nv, ih]
    simp only [outer, List.take_zero, this, nv, Nat.zero_mul]
  | i + 1, h => by
    have ih := outer_nv xs ys n hn i (by omega)
    have hl : (outer xs ys i (List.replicate n 0)).length = n := by rw [outer_len, List.length_replicate]
    have hi := inner_nv (xs.getD i 0).toNat ys i (outer xs ys i (List.replicate n 0)) ys.length (Nat.le_refl _) (by rw [hl]; omega)
    have hz : (inner (xs.getD i 0).toNat ys i ys.length (outer xs ys i (List.replicate n 0))).1.getD (i + ys.length) 0 = 0 := by
      rw [inner_get _ _ _ _ _ _ (Nat.le_refl _)]
      exact outer_get xs ys n i _ (Nat.le_refl _)
    have hs := nv_setS (inner (xs.getD i 0).toNat ys i ys.length (outer xs ys i (List.replicate n 0))).1 (i + ys.length) ((inner (xs.getD i 0).toNat ys i ys.length (outer xs ys i (List.replicate n 0))).2 : Int) (by rw [inner_len, hl]; omega)
    rw [hz, Int.toNat_natCast] at hs
    simp only [outer]
    rw [nv_takeS xs i (by omega), Nat.add_mul, ← ih]
    rw [List.take_of_length_le (Nat.le_refl _)] at hi
    have e0 : (0 : Int).toNat = 0 := rfl
    rw [e0, Nat.mul_zero] at hs
    rw [Nat.mul_assoc (B64 ^ i)]
    omega
theorem school_nv (xs ys : List Int) : nv (outer xs ys xs.length (List.replicate (xs.length + ys.length) 0)) = nv xs * nv ys := by
  rw [outer_nv xs ys _ rfl _ (Nat.le_refl _), List.take_of_length_le (Nat.le_refl _)]
end Go.Proofs.Ytplignahjhenjaa.Lb
