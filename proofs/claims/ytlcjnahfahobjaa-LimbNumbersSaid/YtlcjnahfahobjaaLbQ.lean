/- Plain numbers: shifts, limb by limb. -/
import Derived.Test.YtlcjnahfahobjaaLbP
namespace Go.Proofs.Ytlcjnahfahobjaa.Lb
set_option linter.unusedVariables false

theorem B64_pow (r : Nat) (h : r ≤ 64) : B64 = 2 ^ r * 2 ^ (64 - r) := by
  rw [← Nat.pow_add, show r + (64 - r) = 64 by omega]; rfl
theorem B64_pow2 (q : Nat) : B64 ^ q = 2 ^ (64 * q) := by
  rw [Nat.pow_mul]; rfl
theorem nv_replicate (n : Nat) : nv (List.replicate n (0 : Int)) = 0 := by
  induction n with
  | zero => rfl
  | succ n ih => simp [List.replicate_succ, nv, ih]
theorem word_ok (n : Nat) (h : n < B64) : 0 ≤ (n : Int) ∧ (n : Int) < 18446744073709551616 := by unfold B64 at h; omega
/-- What `up` has put together behind j limbs. -/
structure UpI (l o : List Int) (q r j low : Nat) : Prop where
  len : o.length = q + j
  ok : okL o
  lowlt : low < 2 ^ r
  sum : nv o + B64 ^ (q + j) * low = B64 ^ q * nv (l.take j) * 2 ^ r
theorem UpI.start (l : List Int) (q r : Nat) : UpI l (List.replicate q 0) q r 0 0 :=
  ⟨by simp, okL_replicate q, Nat.two_pow_pos r, by simp [nv_replicate, nv]⟩
theorem UpI.step {l o : List Int} {q r j low : Nat} (h : UpI l o q r j low) (hj : j < l.length) (ho : okL l) (hr : r < 64) :
    UpI l (o ++ [((2 ^ r * ((l.getD j 0).toNat % 2 ^ (64 - r)) + low : Nat) : Int)]) q r (j + 1) ((l.getD j 0).toNat / 2 ^ (64 - r)) := by
  obtain ⟨h1, h2, h3, h4⟩ := h
  have hx := getD_ok ho j
  generalize hX : (l.getD j 0).toNat = X at *
  have hXB : X < B64 := by unfold B64; omega
  have hB := B64_pow r (by omega)
  have hp := Nat.two_pow_pos (64 - r)
  have hm := Nat.mod_lt X hp
  have hlt : 2 ^ r * (X % 2 ^ (64 - r)) + low < B64 := by
    have := Nat.mul_le_mul_left (2 ^ r) (Nat.succ_le_of_lt hm)
    rw [Nat.mul_succ] at this
    omega
  refine ⟨by simp [h1]; omega, ?_, ?_, ?_⟩
  · rw [okL_append]
    refine ⟨h2, ?_⟩
    rw [okL_cons]
    exact ⟨word_ok _ hlt, okL_nil⟩
  · rw [Nat.div_lt_iff_lt_mul hp, ← hB]
    exact hXB
  · rw [nv_append, h1, nv_take_succ, hX]
    simp only [nv, Int.toNat_natCast, Nat.mul_zero, Nat.add_zero]
    have e1 : B64 ^ (q + (j + 1)) = B64 ^ (q + j) * B64 := by rw [← Nat.add_assoc, Nat.pow_succ]
    rw [e1]
    have e2 : B64 ^ (q + j) = B64 ^ q * B64 ^ j := Nat.pow_add _ _ _
    have e3 : 2 ^ r * (X % 2 ^ (64 - r)) + B64 * (X / 2 ^ (64 - r)) = 2 ^ r * X := by
      rw [hB, Nat.mul_assoc, ← Nat.mul_add, Nat.mod_add_div]
    have e4 := congrArg (B64 ^ (q + j) * ·) e3
    simp only [Nat.mul_add] at e4
    rw [Nat.mul_add, Nat.mul_add, Nat.add_mul, ← h4]
    have e5 : B64 ^ q * (B64 ^ j * X) * 2 ^ r = B64 ^ (q + j) * (2 ^ r * X) := by
      rw [e2, ← Nat.mul_assoc (B64 ^ q), Nat.mul_assoc (B64 ^ q * B64 ^ j), Nat.mul_comm X]
    rw [e5, ← e4, ← Nat.mul_assoc (B64 ^ (q + j)) B64]
    omega
theorem UpI.done {l o : List Int} {q r low : Nat} (h : UpI l o q r l.length low) (hr : r < 64) : nv (o ++ [(low : Int)]) = nv l * 2 ^ (64 * q + r) ∧ okL (o ++ [(low : Int)]) := by
  obtain ⟨h1, h2, h3, h4⟩ := h
  rw [List.take_of_length_le (Nat.le_refl _)] at h4
  constructor
  · rw [nv_append, h1]
    simp only [nv, Int.toNat_natCast, Nat.mul_zero, Nat.add_zero]
    rw [h4, Nat.pow_add, ← B64_pow2, Nat.mul_comm (B64 ^ q), Nat.mul_assoc]
  · rw [okL_append]
    refine ⟨h2, ?_⟩
    rw [okL_cons]
    refine ⟨⟨by omega, ?_⟩, okL_nil⟩
    have : 2 ^ r ≤ 2 ^ 64 := Nat.pow_le_pow_right (by decide) (by omega)
    omega
/-- What `down` has put together behind j limbs. -/
structure DownI (l o : List Int) (r j : Nat) : Prop where
  len : o.length = l.length + 1
  ok : okL o
  top : ∀ k, j ≤ k → o.getD k 0 = 0
  sum : 2 ^ r * nv (o.take j) + (l.getD 0 0).toNat % 2 ^ r = nv (l.take j) + B64 ^ j * ((l.getD j 0).toNat % 2 ^ r)
theorem DownI.start (l : List Int) (r : Nat) : DownI l (List.replicate (l.length + 1) 0) r 0 := by
  refine ⟨by simp, okL_replicate _, fun k _ => ?_, by simp [nv]⟩
  rcases Nat.lt_or_ge k (l.length + 1) with h | h
  · rw [getD_lt (by simpa using h)]; simp
  · rw [getD_ge (by simpa using h)]
theorem down_word (r x y : Nat) (hr : r < 64) (hx : x < B64) : x / 2 ^ r + 2 ^ (64 - r) * (y % 2 ^ r) < B64 := by
  have hB := B64_pow r (by omega)
  have hp := Nat.two_pow_pos r
  have h1 : x / 2 ^ r < 2 ^ (64 - r) := by
    rw [Nat.div_lt_iff_lt_mul hp, Nat.mul_comm, ← hB]; exact hx
  have h2 := Nat.mul_le_mul_left (2 ^ (64 - r)) (Nat.succ_le_of_lt (Nat.mod_lt y hp))
  rw [Nat.mul_succ, Nat.mul_comm (2 ^ (64 - r)) (2 ^ r), ← hB] at h2
  omega
theorem DownI.step {l o : List Int} {r j : Nat} (h : DownI l o r j) (hj : j < l.length) (ho : okL l) (hr : r < 64) :
    DownI l (o.set j (((l.getD j 0).toNat / 2 ^ r + 2 ^ (64 - r) * ((l.getD (j + 1) 0).toNat % 2 ^ r) : Nat) : Int)) r (j + 1) := by
  obtain ⟨h1, h2, h3, h4⟩ := h
  have hx := getD_ok ho j
  have hy := getD_ok ho (j + 1)
  have e1 := nv_take_succ l j
  have hw := down_word r (l.getD j 0).toNat (l.getD (j + 1) 0).toNat hr (by unfold B64; omega)
  have e2 := nv_take_set (o := o) (j := j) (by omega) (((l.getD j 0).toNat / 2 ^ r + 2 ^ (64 - r) * ((l.getD (j + 1) 0).toNat % 2 ^ r) : Nat) : Int)
  refine ⟨by simpa using h1, okL_set h2 _ (word_ok _ hw), fun k hk => ?_, ?_⟩
  · rw [List.getD_eq_getElem?_getD, List.getElem?_set_ne (by omega), ← List.getD_eq_getElem?_getD]
    exact h3 k (by omega)
  · rw [e1, e2]
    simp only [Int.toNat_natCast]
    generalize (l.getD j 0).toNat = x at *
    generalize (l.getD (j + 1) 0).toNat = y at *
    have hB := B64_pow r (by omega)
    have e3 : 2 ^ r * (x / 2 ^ r + 2 ^ (64 - r) * (y % 2 ^ r)) + x % 2 ^ r = x + B64 * (y % 2 ^ r) := by
      rw [Nat.mul_add, ← Nat.mul_assoc (2 ^ r), ← hB]
      have := Nat.div_add_mod x (2 ^ r)
      omega
    have e4 := congrArg (B64 ^ j * ·) e3
    simp only [Nat.mul_add] at e4
    rw [Nat.mul_add, Nat.pow_succ]
    have e5 : 2 ^ r * (B64 ^ j * (x / 2 ^ r + 2 ^ (64 - r) * (y % 2 ^ r))) = B64 ^ j * (2 ^ r * (x / 2 ^ r)) + B64 ^ j * (2 ^ r * (2 ^ (64 - r) * (y % 2 ^ r))) := by
      rw [Nat.mul_left_comm, Nat.mul_add (2 ^ r), Nat.mul_add]
    rw [e5, Nat.mul_assoc (B64 ^ j) B64]
    omega
theorem DownI.done {l o : List Int} {r : Nat} (h : DownI l o r l.length) (hr : r < 64) :
    2 ^ r * nv o + (l.getD 0 0).toNat % 2 ^ r = nv l ∧ nv o = nv l / 2 ^ r ∧ nv l % 2 ^ r = (l.getD 0 0).toNat % 2 ^ r := by
  obtain ⟨h1, h2, h3, h4⟩ := h
  have e0 : nv o = nv (o.take l.length) := by
    have := nv_take_succ o l.length
    rw [List.take_of_length_le (by omega), h3 _ (Nat.le_refl _)] at this
    simpa using this
  rw [List.take_of_length_le (Nat.le_refl l.length), getD_ge (Nat.le_refl l.length), ← e0] at h4
  simp only [Int.toNat_zero, Nat.zero_mod, Nat.mul_zero, Nat.add_zero] at h4
  have hp := Nat.two_pow_pos r
  have hm := Nat.mod_lt (l.getD 0 0).toNat hp
  refine ⟨h4, ?_, ?_⟩
  · rw [← h4, Nat.mul_add_div hp, Nat.div_eq_of_lt hm, Nat.add_zero]
  · rw [← h4, Nat.mul_add_mod, Nat.mod_eq_of_lt hm]
/-- A number cut at a limb. -/
theorem nv_cut (l : List Int) (q : Nat) (hq : q ≤ l.length) : nv l = nv (l.take q) + B64 ^ q * nv (l.drop q) := by
  have := nv_append (l.take q) (l.drop q)
  rw [List.take_append_drop] at this
  rw [this, List.length_take, Nat.min_eq_left hq]
theorem nv_zero {l : List Int} (h : okL l) : nv l = 0 ↔ ∀ x ∈ l, x = 0 := by
  induction l with
  | nil => simp [nv]
  | cons x l ih =>
    obtain ⟨h1, h2⟩ := okL_cons.1 h
    simp only [nv, List.mem_cons, forall_eq_or_imp, ← ih h2]
    have hB : 0 < B64 := by decide
    constructor
    · intro e
      have e2 : B64 * nv l = 0 := by omega
      rcases Nat.mul_eq_zero.1 e2 with h | h
      · omega
      · exact ⟨by omega, h⟩
    · rintro ⟨rfl, e⟩
      rw [e]; rfl
/-- Down by 64 q + r: what is left, and whether anything is lost. -/
theorem down_cut {l : List Int} (ho : okL l) {q r : Nat} (hq : q ≤ l.length) : nv l / 2 ^ (64 * q + r) = nv (l.drop q) / 2 ^ r ∧
    (nv l % 2 ^ (64 * q + r) = 0 ↔ nv (l.take q) = 0 ∧ nv (l.drop q) % 2 ^ r = 0) := by
  have hc := nv_cut l q hq
  have hlt := nv_lt (okL_take ho q)
  rw [List.length_take, Nat.min_eq_left hq] at hlt
  have hp : 0 < B64 ^ q := Nat.pow_pos (by decide)
  have e1 : nv l / B64 ^ q = nv (l.drop q) := by rw [hc, Nat.add_mul_div_left _ _ hp, Nat.div_eq_of_lt hlt, Nat.zero_add]
  have e2 : nv l % B64 ^ q = nv (l.take q) := by rw [hc, Nat.add_mul_mod_self_left, Nat.mod_eq_of_lt hlt]
  rw [Nat.pow_add, ← B64_pow2]
  constructor
  · rw [← Nat.div_div_eq_div_mul, e1]
  · rw [Nat.mod_mul, e1, e2]
    constructor
    · intro h
      have : B64 ^ q * (nv (l.drop q) % 2 ^ r) = 0 := by omega
      rcases Nat.mul_eq_zero.1 this with h' | h'
      · omega
      · exact ⟨by omega, h'⟩
    · rintro ⟨h1, h2⟩
      rw [h1, h2]; simp
end Go.Proofs.Ytlcjnahfahobjaa.Lb
