/- store: plain: the document's Put. -/
import Derived.Test.YtoheamfnddfgkaaStRr
namespace Go.Proofs.Ytoheamfnddfgkaa.St
open Go.RowKit Go.Proofs.YtoheamfnddfgkaaW.PrintWords Go.Proofs.Ytoheamfnddfgkaa.PB
set_option linter.unusedVariables false
set_option linter.unusedSimpArgs false

theorem rgroups_l : ∀ (f n k : Nat) (out : List Int), n < 128 ^ f → n < 9223372036854775808 → 0 < f → f ≤ k → out.length + f < 140737488355328 → rosetteref30_groups.l0 k (n : Int) out = some (out ++ grp f n)
 | f + 1, n, k + 1, out, hn, hn2, _, hk, ho => by
  simp only [rosetteref30_groups.l0, grp]
  by_cases h : 128 ≤ n
  ·have e1 : wrap64 (Int.tdiv (n : Int) 128) = ((n / 128 : Nat) : Int) := by
    rw [Int.tdiv_eq_ediv_of_nonneg (by omega)]; unfold wrap64; omega
   have e2 : (Int.tmod (n : Int) 128 + 128) % 256 = ((n % 128 + 128 : Nat) : Int) := by
    rw [Int.tmod_eq_emod_of_nonneg (by omega)]; omega
   rw [if_pos (by omega), if_pos (by omega), if_pos h, e1, e2]
   have hf : 0 < f := by
    rcases Nat.eq_zero_or_pos f with rfl | h'
    ·simp at hn; omega
    ·exact h'
   rw [rgroups_l f (n / 128) k _ (pw f n hn) (by omega) hf (by omega) (by simp; omega)]
   simp
  ·rw [if_neg (by omega), if_pos (by omega), if_neg h, show (n : Int) % 256 = (n : Int) by omega]
theorem rgroups_f (n k : Nat) (hn : n < 9223372036854775808) (hk : 10 ≤ k) : rosetteref30_groups.f k (n : Int) = some (grpS n) := by
 have := rgroups_l 10 n k [] (Nat.lt_of_lt_of_le hn (by decide)) hn (by decide) hk (by simp)
 simpa [rosetteref30_groups.f, grpS] using this
theorem rnumber_l1 : ∀ (m j u : Nat) (k : Nat) (out l : List Int) (i : Int) (s : Bool), j + m = 8 → u < 18446744073709551616 → out.length + m < 140737488355328 →
  rosetteref30_Put.l1 (k + m + 1) out i (u : Int) (j : Int) s l = rosetteref30_Put.l0 k (out ++ bF m u) (wrap64 (i + 1)) s l
 | 0, j, u, k, out, l, i, s, hj, hu, ho => by
  simp only [rosetteref30_Put.l1, bF]
  rw [if_neg (by omega), List.append_nil]
 | m + 1, j, u, k, out, l, i, s, hj, hu, ho => by
  rw [show k + (m + 1) + 1 = (k + m + 1) + 1 by omega, rosetteref30_Put.l1]
  simp only [bF]
  have e1 : IntKind.u64.wrap (Int.tdiv (u : Int) 256) = ((u / 256 : Nat) : Int) := by
   rw [Int.tdiv_eq_ediv_of_nonneg (by omega), IntKind.wrap_u64]; omega
  have e2 : (Int.tmod (u : Int) 256) % 256 = ((u % 256 : Nat) : Int) := by
   rw [Int.tmod_eq_emod_of_nonneg (by omega)]; omega
  rw [if_pos (by omega), if_pos (by omega), w1 j (by omega), e1, e2, rnumber_l1 m (j + 1) (u / 256) k _ l i s (by omega) (by omega) (by simp; omega)]
  simp
theorem rnumber_l0 : ∀ (m i k : Nat) (out l : List Int) (s : Bool), okL64 l → i + m = l.length → 10 * m < k → out.length + 8 * m < 140737488355328 → l.length < 140737488355328 →
  rosetteref30_Put.l0 k out (i : Int) s l = some (out ++ limbsS (l.drop i), 0)
 | 0, i, k + 1, out, l, s, hl, hi, hk, ho, hm => by
  simp only [rosetteref30_Put.l0]
  rw [if_neg (by omega), List.drop_of_length_le (by omega)]
  simp [limbsS]
 | m + 1, i, k + 1, out, l, s, hl, hi, hk, ho, hm => by
  simp only [rosetteref30_Put.l0]
  rw [if_pos (by omega), if_pos (by omega)]
  have hlt : i < l.length := by omega
  have hd := rd_drop l i hlt
  have hmem : rd l (i : Int) ∈ l := by
   have : rd l (i : Int) ∈ l.drop i := by rw [hd]; exact List.mem_cons_self
   exact List.mem_of_mem_drop this
  have hb := hl _ hmem
  obtain ⟨u, hu⟩ : ∃ u : Nat, rd l (i : Int) = (u : Int) := ⟨(rd l (i : Int)).toNat, by omega⟩
  rw [hd, hu, limbsS_cons]
  obtain ⟨k', rfl⟩ : ∃ k', k = k' + 8 + 1 := ⟨k - 9, by omega⟩
  have := rnumber_l1 8 0 u k' out l (i : Int) s rfl (by omega) (by omega)
  rw [show ((0 : Nat) : Int) = 0 from rfl] at this
  rw [this, w1 i (by omega), rnumber_l0 m (i + 1) k' _ l s hl (by omega) (by omega) (by rw [List.length_append, bF_len]; omega) hm]
  simp
theorem rput_f (s : Bool) (l : List Int) (hl : okL64 l) (hm : l.length ≤ 9223372036854775807) (k : Nat) (hk : 41000 ≤ k) : rosetteref30_Put.f k s l = some (putS s l) := by
 unfold rosetteref30_Put.f putS
 rw [rright_f s l hm]
 simp only [Option.bind_some]
 by_cases h : rightB s l = true
 ·rw [if_pos h, if_pos h]
  have h4 := right_len h
  obtain ⟨k, rfl⟩ : ∃ k', k = k' + 1 := ⟨k - 1, by omega⟩
  have hg := rgroups_f (2 * l.length + s.toNat) k (by have := Bool.toNat_le s; omega) (by omega)
  have hg2 : (grpS (2 * l.length + s.toNat)).length ≤ 10 := grp_len _ _
  have h0 := rnumber_l0 l.length 0 k (grpS (2 * l.length + s.toNat)) l s hl (by omega) (by omega) (by omega) (by omega)
  have hj : rosetteref30_Put.j0 (k + 1) (((2 * l.length + s.toNat : Nat)) : Int) s l = some (numberS s l, 0) := by
   simp only [rosetteref30_Put.j0]
   rw [hg]
   simp only [Option.bind_some]
   rw [show (0 : Int) = ((0 : Nat) : Int) from rfl, h0]
   simp [numberS]
  cases s
  ·rw [if_neg (by simp), ← hj]
   congr 1
   unfold wrap64
   simp
   omega
  ·rw [if_pos rfl, ← hj]
   congr 1
   unfold wrap64
   simp
   omega
 ·rw [if_neg h, if_neg h]
end Go.Proofs.Ytoheamfnddfgkaa.St
