/- Plain: numbers in groups of seven bits, words of eight bytes, as a reader reads them. -/
set_option linter.unusedVariables false
namespace Go.Proofs.Ytoheamfnddfgkaa.St

def okB (l : List Int) : Prop := ∀ x ∈ l, 0 ≤ x ∧ x < 256
theorem okB_drop {l : List Int} (h : okB l) (n : Nat) : okB (l.drop n) := fun x hx => h x (List.mem_of_mem_drop hx)
theorem okB_take {l : List Int} (h : okB l) (n : Nat) : okB (l.take n) := fun x hx => h x (List.mem_of_mem_take hx)
/-- Groups: r may come yet, i have come, of worth n; the number and how many groups. -/
def gr (most : Int) : Nat → Nat → Int → List Int → Option (Int × Nat)
  | 0, _, _, _ => none
  | _ + 1, _, _, [] => none
  | r + 1, i, n, c :: l =>
    if 128 ≤ c then gr most r (i + 1) (n + c % 128 * 2 ^ (7 * i)) l
    else if most < n + c % 128 * 2 ^ (7 * i) ∨ (c = 0 ∧ 0 < i) then none else some (n + c % 128 * 2 ^ (7 * i), i + 1)
def groupsS (most : Int) (l : List Int) : Option (Int × Nat) := gr most 5 0 0 l
theorem gr_len {most : Int} : ∀ {r i : Nat} {n : Int} {l : List Int} {v : Int} {k : Nat}, gr most r i n l = some (v, k) → i < k ∧ k ≤ i + l.length ∧ k ≤ i + r
  | 0, _, _, _, _, _, h => by simp [gr] at h
  | _ + 1, _, _, [], _, _, h => by simp [gr] at h
  | r + 1, i, n, c :: l, v, k, h => by
    simp only [gr] at h
    split at h
    · have := gr_len h
      simp only [List.length_cons]
      omega
    · split at h
      · cases h
      · simp only [Option.some.injEq, Prod.mk.injEq] at h
        simp only [List.length_cons]
        omega
theorem gr_val {most : Int} : ∀ {r i : Nat} {n : Int} {l : List Int} {v : Int} {k : Nat}, 0 ≤ n → okB l → gr most r i n l = some (v, k) → 0 ≤ v ∧ v ≤ most
  | 0, _, _, _, _, _, _, _, h => by simp [gr] at h
  | _ + 1, _, _, [], _, _, _, _, h => by simp [gr] at h
  | r + 1, i, n, c :: l, v, k, hn, ho, h => by
    have hp : (0 : Int) ≤ c % 128 * 2 ^ (7 * i) := Int.mul_nonneg (by omega) (Int.le_of_lt (by exact_mod_cast Nat.two_pow_pos (7 * i)))
    simp only [gr] at h
    split at h
    · exact gr_val (by omega) (fun x hx => ho x (by simp [hx])) h
    · split at h
      · cases h
      · rename_i h2
        simp only [Option.some.injEq, Prod.mk.injEq] at h
        omega
theorem gr_cons (most : Int) (r i n y m : Nat) (l : List Int) (hm : n + y % 128 * 2 ^ (7 * i) = m) :
    gr most (r + 1) i (n : Int) ((y : Int) :: l) = if 128 ≤ y then gr most r (i + 1) (m : Int) l else if most < (m : Int) ∨ (y = 0 ∧ 0 < i) then none else some ((m : Int), i + 1) := by
  have hval : (n : Int) + (y : Int) % 128 * 2 ^ (7 * i) = (m : Int) := by rw [← hm]; simp
  simp only [gr, hval]
  by_cases h1 : 128 ≤ y
  · rw [if_pos h1, if_pos (show (128 : Int) ≤ (y : Int) by omega)]
  · rw [if_neg h1, if_neg (show ¬ (128 : Int) ≤ (y : Int) by omega)]
    by_cases h2 : most < (m : Int) ∨ (y = 0 ∧ 0 < i)
    · rw [if_pos h2, if_pos (show most < (m : Int) ∨ ((y : Int) = 0 ∧ 0 < i) by omega)]
    · rw [if_neg h2, if_neg (show ¬ (most < (m : Int) ∨ ((y : Int) = 0 ∧ 0 < i)) by omega)]
theorem m_bound {n q s m : Nat} (hn : n < 2 ^ s) (hq : q < 128) (hm : n + q * 2 ^ s = m) : m < 2 ^ (s + 7) := by
  rw [Nat.pow_add]
  have h2 : q * 2 ^ s + 2 ^ s ≤ 128 * 2 ^ s := by
    rw [← Nat.succ_mul]
    exact Nat.mul_le_mul_right _ hq
  have h3 : 2 ^ s * 2 ^ 7 = 128 * 2 ^ s := by rw [Nat.mul_comm]
  rw [h3, ← hm]
  generalize q * 2 ^ s = P at *
  generalize 2 ^ s = R at *
  omega
theorem m_small {m s : Nat} (h : m < 2 ^ (s + 7)) (hs : s ≤ 28) : m < 34359738368 :=
  Nat.lt_of_lt_of_le h (Nat.le_trans (Nat.pow_le_pow_right (by decide) (show s + 7 ≤ 35 by omega)) (by decide))
end Go.Proofs.Ytoheamfnddfgkaa.St
