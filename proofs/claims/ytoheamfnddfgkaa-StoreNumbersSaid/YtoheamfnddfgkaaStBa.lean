/- store: plain: what is put is got; more bytes behind change nothing. -/
import Derived.Test.YtoheamfnddfgkaaStCe
namespace Go.Proofs.Ytoheamfnddfgkaa.St
open Go.RowKit Go.Proofs.YtoheamfnddfgkaaW.PrintWords Go.Proofs.Ytoheamfnddfgkaa.PB
set_option linter.unusedVariables false
set_option linter.unusedSimpArgs false

/-! ### more bytes behind -/
/-! ### places of what can't be read -/
/-! ### what is put is got -/
theorem gr_back (most : Int) (m : List Int) : ∀ (f r i n acc : Nat), n < 128 ^ f → n < 128 ^ r → 0 < r → 0 < f → (i = 0 ∨ 0 < n) → ((acc + n * 2 ^ (7 * i) : Nat) : Int) ≤ most →
  gr most r i (acc : Int) (grp f n ++ m) = some (((acc + n * 2 ^ (7 * i) : Nat) : Int), i + (grp f n).length)
 | f + 1, r + 1, i, n, acc, hf, hr, _, _, hi, hm => by
  by_cases h : 128 ≤ n
  ·have hf0 : 0 < f := by
    rcases Nat.eq_zero_or_pos f with rfl | h'
    ·simp at hf; omega
    ·exact h'
   have hr0 : 0 < r := by
    rcases Nat.eq_zero_or_pos r with rfl | h'
    ·simp at hr; omega
    ·exact h'
   have e0 : (n % 128) * 2 ^ (7 * i) + (n / 128) * 2 ^ (7 * (i + 1)) = n * 2 ^ (7 * i) := by
    rw [show 7 * (i + 1) = 7 * i + 7 by omega, Nat.pow_add, ← Nat.mul_assoc, Nat.mul_right_comm, ← Nat.add_mul]
    congr 1
    omega
   have e1 : acc + (n + 0) % 128 * 2 ^ (7 * i) + n / 128 * 2 ^ (7 * (i + 1)) = acc + n * 2 ^ (7 * i) := by rw [Nat.add_zero, Nat.add_assoc, e0]
   simp only [grp]
   rw [if_pos h, List.cons_append, gr_cons most r i acc (n % 128 + 128) (acc + (n + 0) % 128 * 2 ^ (7 * i)) _ (by congr 2; omega), if_pos (by omega), gr_back most m f r (i + 1) (n / 128) _ (pw f n hf) (pw r n hr) hr0 hf0 (.inr (by omega)) (by rw [e1]; exact hm), e1]
   simp only [List.length_cons]
   congr 2
   omega
  ·simp only [grp]
   rw [if_neg h, List.cons_append, gr_cons most r i acc n (acc + n * 2 ^ (7 * i)) _ (by rw [Nat.mod_eq_of_lt (by omega)]), if_neg h, if_neg (fun hc => hc.elim (fun h1 => by omega) (fun h1 => by omega))]
   simp
theorem groups_back (most : Int) (n : Nat) (m : List Int) (h : (n : Int) ≤ most) (h2 : n < 34359738368) : groupsS most (grpS n ++ m) = some ((n : Int), (grpS n).length) := by
 have := gr_back most m 10 5 0 n 0 (Nat.lt_of_lt_of_le h2 (by decide)) (Nat.lt_of_lt_of_le h2 (by decide)) (by decide) (by decide) (.inl rfl) (by simpa using h)
 simpa [groupsS, grpS] using this
theorem w8_bF (u : Nat) (m : List Int) (h : u < 18446744073709551616) : w8 (bF 8 u ++ m) 8 = u := by
 obtain ⟨u1, h1⟩ : ∃ x, u / 256 = x := ⟨_, rfl⟩
 obtain ⟨u2, h2⟩ : ∃ x, u1 / 256 = x := ⟨_, rfl⟩
 obtain ⟨u3, h3⟩ : ∃ x, u2 / 256 = x := ⟨_, rfl⟩
 obtain ⟨u4, h4⟩ : ∃ x, u3 / 256 = x := ⟨_, rfl⟩
 obtain ⟨u5, h5⟩ : ∃ x, u4 / 256 = x := ⟨_, rfl⟩
 obtain ⟨u6, h6⟩ : ∃ x, u5 / 256 = x := ⟨_, rfl⟩
 obtain ⟨u7, h7⟩ : ∃ x, u6 / 256 = x := ⟨_, rfl⟩
 have e : bF 8 u = [((u % 256 : Nat) : Int), ((u1 % 256 : Nat) : Int), ((u2 % 256 : Nat) : Int), ((u3 % 256 : Nat) : Int), ((u4 % 256 : Nat) : Int), ((u5 % 256 : Nat) : Int), ((u6 % 256 : Nat) : Int), ((u7 % 256 : Nat) : Int)] := by
  simp only [bF, h1, h2, h3, h4, h5, h6, h7]
 rw [e]
 simp only [w8, List.cons_append, List.getD_cons_zero, List.getD_cons_succ, Nat.sub_self, Nat.reduceSub, Int.toNat_natCast]
 omega
theorem words_back : ∀ (l : List Int) (m : List Int), okL64 l → words l.length (limbsS l ++ m) = l
 | [], m, h => rfl
 | u :: l, m, h => by
  have hu := h u (by simp)
  simp only [List.length_cons, words, limbsS_cons, List.append_assoc]
  rw [w8_bF u.toNat _ (by omega), List.drop_append_of_le_length (by rw [bF_len]; exact Nat.le_refl _), List.drop_of_length_le (by rw [bF_len]; exact Nat.le_refl _), List.nil_append, words_back l m (fun x hx => h x (by simp [hx]))]
  congr 1
  omega
theorem num_back (s : Bool) (l m : List Int) (hl : okL64 l) (hr : rightB s l = true) : numS (numberS s l ++ m) = some ((s, l), (numberS s l).length) := by
 have h4 := right_len hr
 have hb := Bool.toNat_le s
 have hg := groups_back 8193 (2 * l.length + s.toNat) (limbsS l ++ m) (by omega) (by omega)
 have e1 : (2 * l.length + s.toNat) / 2 = l.length := by omega
 have e2 : ((2 * l.length + s.toNat) % 2 == 1) = s := by
  cases s
  ·simp
  ·simp
 have e3 : numberS s l ++ m = grpS (2 * l.length + s.toNat) ++ (limbsS l ++ m) := by simp [numberS]
 have e4 : (numberS s l).length = (grpS (2 * l.length + s.toNat)).length + l.length * 8 := by simp only [numberS, List.length_append, limbsS_len]; omega
 have e5 : ((grpS (2 * l.length + s.toNat) ++ (limbsS l ++ m)).drop (grpS (2 * l.length + s.toNat)).length).take (l.length * 8) = limbsS l := by
  rw [List.drop_left, List.take_append_of_le_length (by rw [limbsS_len]; omega), List.take_of_length_le (by rw [limbsS_len]; omega)]
 have e6 : words l.length (limbsS l) = l := by simpa using words_back l [] hl
 unfold numS
 rw [e3, hg]
 simp only [Int.toNat_natCast, e1, e2, e5, e6, e4]
 rw [if_neg (by simp only [List.length_append, limbsS_len]; omega), if_pos hr]
end Go.Proofs.Ytoheamfnddfgkaa.St
