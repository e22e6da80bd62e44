/- Plain numbers: sums and differences, limb by limb. -/
import Derived.Test.YtplignahjhenjaaLbN
namespace Go.Proofs.Ytplignahjhenjaa.Lb
set_option linter.unusedVariables false

theorem getD_lt {l : List Int} {j : Nat} (h : j < l.length) : l.getD j 0 = l[j] := by simp [List.getD_eq_getElem?_getD, List.getElem?_eq_getElem h]
theorem getD_ge {l : List Int} {j : Nat} (h : l.length ≤ j) : l.getD j 0 = 0 := by simp [List.getD_eq_getElem?_getD, List.getElem?_eq_none h]
theorem nv_take_succ (l : List Int) (j : Nat) : nv (l.take (j + 1)) = nv (l.take j) + B64 ^ j * (l.getD j 0).toNat := by
  rcases Nat.lt_or_ge j l.length with h | h
  · exact nv_split l j h
  · rw [List.take_of_length_le (by omega), List.take_of_length_le h, getD_ge h]
    simp
theorem nv_take_set {o : List Int} {j : Nat} (h : j < o.length) (x : Int) : nv ((o.set j x).take (j + 1)) = nv (o.take j) + B64 ^ j * x.toNat := by
  rw [nv_split _ j (by simpa using h), getD_lt (by simpa using h)]
  rw [List.take_set]
  have : (o.take j).set j x = o.take j := List.set_eq_of_length_le (by simp; omega)
  rw [this]
  simp
theorem okL_set {o : List Int} (h : okL o) (j : Nat) {x : Int} (hx : 0 ≤ x ∧ x < 18446744073709551616) : okL (o.set j x) := by
  intro y hy
  rcases List.mem_or_eq_of_mem_set hy with h1 | h1
  · exact h y h1
  · rw [h1]; exact hx
theorem okL_replicate (n : Nat) : okL (List.replicate n (0 : Int)) := by
  intro x hx
  obtain ⟨_, rfl⟩ := List.mem_replicate.1 hx
  omega
/-- What is put together after i rounds of a sum. -/
structure AddI (la lb o : List Int) (i : Nat) (c : Int) : Prop where
  len : o.length = la.length + 1
  ok : okL o
  top : ∀ j, i ≤ j → o.getD j 0 = 0
  carry : 0 ≤ c ∧ c ≤ 1
  sum : nv (o.take i) + B64 ^ i * c.toNat = nv (la.take i) + nv (lb.take i)
theorem AddI.start (la lb : List Int) : AddI la lb (List.replicate (la.length + 1) 0) 0 0 := by
  refine ⟨by simp, okL_replicate _, fun j _ => ?_, by omega, by simp [nv]⟩
  rcases Nat.lt_or_ge j (la.length + 1) with h | h
  · rw [getD_lt (by simpa using h)]; simp
  · rw [getD_ge (by simpa using h)]
theorem AddI.step {la lb o : List Int} {i : Nat} {c : Int} (h : AddI la lb o i c) (hi : i < la.length) (ha : okL la) (hb : okL lb) :
    AddI la lb (o.set i ((la.getD i 0 + lb.getD i 0 + c) % 18446744073709551616)) (i + 1) ((la.getD i 0 + lb.getD i 0 + c) / 18446744073709551616) := by
  have h1 := getD_ok ha i
  have h2 := getD_ok hb i
  have h3 := h.carry
  have hl := h.len
  have hs := h.sum
  have e1 := nv_take_succ la i
  have e2 := nv_take_succ lb i
  have e3 := nv_take_set (o := o) (j := i) (by omega) ((la.getD i 0 + lb.getD i 0 + c) % 18446744073709551616)
  refine ⟨by simpa using hl, okL_set h.ok _ (by omega), fun j hj => ?_, by omega, ?_⟩
  · have := h.top j (by omega)
    rw [List.getD_eq_getElem?_getD, List.getElem?_set_ne (by omega), ← List.getD_eq_getElem?_getD]
    exact this
  · rw [e1, e2, e3]
    generalize la.getD i 0 = x at *
    generalize lb.getD i 0 = y at *
    have hB : B64 ^ (i + 1) = B64 ^ i * 18446744073709551616 := by rw [Nat.pow_succ]; rfl
    rw [hB]
    clear e1 e2 e3
    generalize B64 ^ i = P at *
    have d1 : ((x + y + c) % 18446744073709551616).toNat + 18446744073709551616 * ((x + y + c) / 18446744073709551616).toNat = x.toNat + y.toNat + c.toNat := by omega
    have d2 : P * ((x + y + c) % 18446744073709551616).toNat + P * 18446744073709551616 * ((x + y + c) / 18446744073709551616).toNat = P * (x.toNat + y.toNat + c.toNat) := by
      rw [Nat.mul_assoc, ← Nat.mul_add, d1]
    rw [Nat.mul_add, Nat.mul_add] at d2
    omega
theorem AddI.done {la lb o : List Int} {c : Int} (h : AddI la lb o la.length c) (hlen : lb.length ≤ la.length) : nv (o.set la.length c) = nv la + nv lb ∧ okL (o.set la.length c) := by
  have hl := h.len
  have hs := h.sum
  have h3 := h.carry
  have e := nv_take_set (o := o) (j := la.length) (by omega) c
  rw [List.take_of_length_le (by simp; omega)] at e
  rw [List.take_of_length_le (Nat.le_refl _), List.take_of_length_le hlen] at hs
  exact ⟨by rw [e]; exact hs, okL_set h.ok _ (by omega)⟩
/-- .. and of a difference. -/
structure SubI (la lb o : List Int) (i : Nat) (c : Int) : Prop where
  len : o.length = la.length + 1
  ok : okL o
  top : ∀ j, i ≤ j → o.getD j 0 = 0
  carry : 0 ≤ c ∧ c ≤ 1
  sum : nv (o.take i) + nv (lb.take i) = nv (la.take i) + B64 ^ i * c.toNat
theorem SubI.start (la lb : List Int) : SubI la lb (List.replicate (la.length + 1) 0) 0 0 := by
  have := AddI.start la lb
  exact ⟨this.len, this.ok, this.top, by omega, by simp [nv]⟩
theorem SubI.step {la lb o : List Int} {i : Nat} {c : Int} (h : SubI la lb o i c) (hi : i < la.length) (ha : okL la) (hb : okL lb) :
    SubI la lb (o.set i ((la.getD i 0 - lb.getD i 0 - c) % 18446744073709551616)) (i + 1) (if la.getD i 0 < lb.getD i 0 + c then 1 else 0) := by
  have h1 := getD_ok ha i
  have h2 := getD_ok hb i
  have h3 := h.carry
  have hl := h.len
  have hs := h.sum
  have e1 := nv_take_succ la i
  have e2 := nv_take_succ lb i
  have e3 := nv_take_set (o := o) (j := i) (by omega) ((la.getD i 0 - lb.getD i 0 - c) % 18446744073709551616)
  refine ⟨by simpa using hl, okL_set h.ok _ (by omega), fun j hj => ?_, by split <;> omega, ?_⟩
  · have := h.top j (by omega)
    rw [List.getD_eq_getElem?_getD, List.getElem?_set_ne (by omega), ← List.getD_eq_getElem?_getD]
    exact this
  · rw [e1, e2, e3]
    generalize la.getD i 0 = x at *
    generalize lb.getD i 0 = y at *
    have hB : B64 ^ (i + 1) = B64 ^ i * 18446744073709551616 := by rw [Nat.pow_succ]; rfl
    rw [hB]
    clear e1 e2 e3
    generalize B64 ^ i = P at *
    generalize hd : (if x < y + c then (1 : Int) else 0) = d
    have d1 : ((x - y - c) % 18446744073709551616).toNat + y.toNat + c.toNat = x.toNat + 18446744073709551616 * d.toNat := by
      rw [← hd]; split <;> omega
    have d2 := congrArg (P * ·) d1
    simp only [Nat.mul_add, ← Nat.mul_assoc] at d2
    omega
theorem SubI.done {la lb o : List Int} {c : Int} (h : SubI la lb o la.length c) (hlen : lb.length ≤ la.length) (ha : okL la) (hle : nv lb ≤ nv la) :
    nv (o.set la.length c) = nv la - nv lb ∧ okL (o.set la.length c) := by
  have hl := h.len
  have hs := h.sum
  have h3 := h.carry
  have e := nv_take_set (o := o) (j := la.length) (by omega) c
  rw [List.take_of_length_le (by simp; omega)] at e
  rw [List.take_of_length_le (Nat.le_refl _), List.take_of_length_le hlen] at hs
  have b := nv_lt (okL_take h.ok la.length)
  have hk : (o.take la.length).length = la.length := by rw [List.length_take]; omega
  rw [hk] at b
  have hc : c = 0 := by
    rcases (by omega : c = 0 ∨ c = 1) with h | h
    · exact h
    · subst h
      simp only [Int.toNat_one, Nat.mul_one] at hs
      omega
  subst hc
  refine ⟨?_, okL_set h.ok _ (by omega)⟩
  simp only [Int.toNat_zero, Nat.mul_zero, Nat.add_zero] at e hs
  omega
end Go.Proofs.Ytplignahjhenjaa.Lb
