/- store: plain: what is got, by the document's way. -/
import Derived.Test.YtoheamfnddfgkaaStRr
namespace Go.Proofs.Ytoheamfnddfgkaa.St
open Go.RowKit Go.Proofs.YtoheamfnddfgkaaW.PrintWords Go.Proofs.Ytoheamfnddfgkaa.PB
set_option linter.unusedVariables false
set_option linter.unusedSimpArgs false

theorem byte_rd {b : List Int} (ho : okB b) (i : Nat) (h : i < b.length) : ∃ y : Nat, rd b (i : Int) = (y : Int) ∧ y < 256 := by
 have hmem : rd b (i : Int) ∈ b := by
  have : rd b (i : Int) ∈ b.drop i := by rw [rd_drop b i h]; exact List.mem_cons_self
  exact List.mem_of_mem_drop this
 have := ho _ hmem
 exact ⟨(rd b (i : Int)).toNat, by omega, by omega⟩
theorem taken_e1 (n X y P : Nat) (hn : n ≤ 268435456) (hX : y % 128 * P = X) (hX2 : X ≤ 34091302912) : wrap64 ((n : Int) + wrap64 (wrap64 (Int.tmod (y : Int) 128) * ((P : Nat) : Int))) = ((n + X : Nat) : Int) := by
 rw [Int.tmod_eq_emod_of_nonneg (by omega)]
 have h1 : wrap64 ((y : Int) % 128) = ((y % 128 : Nat) : Int) := by rw [wr (by omega) (by omega)]; omega
 have h2 : ((y % 128 : Nat) : Int) * ((P : Nat) : Int) = ((X : Nat) : Int) := by rw [← hX, Int.natCast_mul]
 rw [h1, h2, wr (x := ((X : Nat) : Int)) (by omega) (by omega), wr (by omega) (by omega)]
 omega
theorem half_n (n q : Nat) (hq : n / 2 = q) (hq2 : q ≤ 4096) : wrap64 (Int.tdiv (n : Int) 2) = (q : Int) := by
 rw [Int.tdiv_eq_ediv_of_nonneg (by omega), wr (by omega) (by omega)]
 omega
theorem at_n (j q : Nat) (hj : j ≤ 4611686018427387904) (hq : q ≤ 4096) : wrap64 ((j : Int) + wrap64 (8 * (q : Int))) = ((j + q * 8 : Nat) : Int) := by
 rw [wr (x := 8 * (q : Int)) (by omega) (by omega), wr (by omega) (by omega)]
 omega
theorem taken_l (b : List Int) (ho : okB b) (most : Int) (hm : b.length ≤ 4611686018427387904) : ∀ (r i n k : Nat), i + r = 5 → n < 2 ^ (7 * i) → 2 * r + 1 < k → i ≤ b.length →
  ∃ t, rosetteref30_taken.l0 k b most (n : Int) ((2 ^ (7 * i) : Nat) : Int) (i : Int) = some t ∧ (match gr most r i (n : Int) (b.drop i) with | some (v, j) => t = (v, (j : Int), true) | none => t.2.2 = false)
 | 0, i, n, k + 2, hi, hn, hk, hb => by
  obtain rfl : i = 5 := by omega
  refine ⟨(0, 0, false), ?_, rfl⟩
  simp only [rosetteref30_taken.l0, rosetteref30_taken.j1]
  split <;> simp
 | r + 1, i, n, k + 2, hi, hn, hk, hb => by
  by_cases hlt : i < b.length
  ·obtain ⟨y, hy, hy2⟩ := byte_rd ho i hlt
   obtain ⟨P, hP⟩ : ∃ P, 2 ^ (7 * i) = P := ⟨_, rfl⟩
   have hP2 : P ≤ 268435456 := by
    rw [← hP]
    exact Nat.le_trans (Nat.pow_le_pow_right (by decide) (show 7 * i ≤ 28 by omega)) (by decide)
   obtain ⟨X, hX⟩ : ∃ X, y % 128 * P = X := ⟨_, rfl⟩
   have hX2 : X ≤ 127 * 268435456 := by rw [← hX]; exact Nat.mul_le_mul (by omega) hP2
   have hmb := m_bound (n := n) (q := y % 128) (s := 7 * i) (m := n + X) hn (by omega) (by rw [hP, hX])
   obtain ⟨P2, hP3⟩ : ∃ P2, 2 ^ (7 * (i + 1)) = P2 := ⟨_, rfl⟩
   have hrec : n + X < P2 := by rw [← hP3, show 7 * (i + 1) = 7 * i + 7 by omega]; exact hmb
   have hPn : P * 128 = P2 := by rw [← hP3, ← hP, show 7 * (i + 1) = 7 * i + 7 by omega, Nat.pow_add]
   clear hmb
   rw [hP] at hn
   have e1 := taken_e1 n X y P (by omega) hX (by omega)
   have e2 : wrap64 (((P : Nat) : Int) * 128) = ((P2 : Nat) : Int) := by rw [wr (by omega) (by omega)]; omega
   have hgr := gr_cons most r i n y (n + X) (b.drop (i + 1)) (by rw [hP, hX])
   rw [rd_drop b i hlt, hy, hgr]
   simp only [rosetteref30_taken.l0, rosetteref30_taken.j1, hP]
   have g1 : (i : Int) < (b.length : Int) := by clear hP hP3 hPn hgr hX; omega
   have g2 : decide ((i : Int) < 5) = true := decide_eq_true (by clear hP hP3 hPn hgr hX; omega)
   rw [if_pos g1, if_pos g2, if_pos (Int.natCast_nonneg i), if_pos g1, hy, e1]
   by_cases h128 : 128 ≤ y
   ·have g3 : ¬ ((y : Int) < 128) := by clear hP hP3 hPn hgr hX; omega
    rw [if_neg g3, if_pos h128, e2, w1 i (by clear hP hP3 hPn hgr hX; omega)]
    have hR := taken_l b ho most hm r (i + 1) (n + X) k (by clear hP hP3 hPn hgr hX; omega) (by rw [hP3]; exact hrec) (by clear hP hP3 hPn hgr hX; omega) (by clear hP hP3 hPn hgr hX; omega)
    rw [hP3] at hR
    exact hR
   ·have g3 : (y : Int) < 128 := by clear hP hP3 hPn hgr hX; omega
    rw [if_pos g3, if_neg h128, w1 i (by clear hP hP3 hPn hgr hX; omega)]
    by_cases hle : ((n + X : Nat) : Int) ≤ most
    ·rw [if_pos hle]
     by_cases h0 : i = 0
     ·subst h0
      rw [if_pos (show ((0 : Nat) : Int) = 0 from rfl), if_neg (fun h => h.elim (fun h => absurd h (Int.not_lt.mpr hle)) (fun h => absurd h.2 (Nat.lt_irrefl 0)))]
      exact ⟨_, rfl, rfl⟩
     ·rw [if_neg (show ¬ ((i : Int) = 0) by simpa using h0)]
      by_cases hy0 : y = 0
      ·rw [if_pos (.inr ⟨hy0, Nat.pos_of_ne_zero h0⟩)]
       exact ⟨_, rfl, by simp [hy0]⟩
      ·have hyp : (y : Int) > 0 := by have := Nat.pos_of_ne_zero hy0; clear hP hP3 hPn hgr; omega
       rw [if_neg (fun h => h.elim (fun h => absurd h (Int.not_lt.mpr hle)) (fun h => hy0 h.1)), decide_eq_true hyp]
       exact ⟨_, rfl, rfl⟩
    ·rw [if_neg hle, if_pos (.inl (Int.not_le.mp hle))]
     exact ⟨_, rfl, rfl⟩
  ·refine ⟨(0, 0, false), ?_, ?_⟩
   ·simp only [rosetteref30_taken.l0, rosetteref30_taken.j1]
    rw [if_neg (by omega)]
    simp
   ·rw [List.drop_of_length_le (by omega)]
    rfl
theorem taken_f (b : List Int) (ho : okB b) (most : Int) (hm : b.length ≤ 4611686018427387904) (k : Nat) (hk : 11 < k) :
  ∃ t, rosetteref30_taken.f k b most = some t ∧ (match groupsS most b with | some (v, j) => t = (v, (j : Int), true) | none => t.2.2 = false) := by
 have h := taken_l b ho most hm 5 0 0 k rfl (by decide) (by omega) (Nat.zero_le _)
 simpa [rosetteref30_taken.f, groupsS] using h
theorem rget_l1 (b ly : List Int) (n at_ : Int) (X : Nat) (i : Int) (s : Bool) (acc : List Int) (k : Nat) (ho : okB ly) (hX : X + 8 ≤ b.length) (hb : b.length ≤ 4611686018427387904) (hXe : wrap64 (at_ + wrap64 (8 * i)) = (X : Int)) (hg : ∀ j, j < 8 → rd b ((X + j : Nat) : Int) = ly.getD j 0) (ha : acc.length < 17592186044416) : ∀ m, m ≤ 8 →
  rosetteref30_Get.l1 (k + m + 1) b n at_ i ((w8 ly (8 - m) : Nat) : Int) ((m : Int) - 1) s acc = rosetteref30_Get.l0 k b n at_ (wrap64 (i + 1)) s (acc ++ [((w8 ly 8 : Nat) : Int)])
 | 0, _ => by
  rw [rosetteref30_Get.l1, if_neg (by omega), if_pos ha]
 | m + 1, h => by
  rw [show k + (m + 1) + 1 = (k + m + 1) + 1 by omega, rosetteref30_Get.l1]
  have e1 : wrap64 (wrap64 (at_ + wrap64 (8 * i)) + (((m + 1 : Nat) : Int) - 1)) = ((X + m : Nat) : Int) := by rw [hXe, wr (by omega) (by omega)]; omega
  have hgm := hg m (by omega)
  have hby := byte_lt ho m
  have hw := w8_lt56 ho (i := 8 - (m + 1)) (by omega)
  have e2 : 8 - m = 8 - (m + 1) + 1 := by omega
  have e3 : w8 ly (8 - m) = w8 ly (8 - (m + 1)) * 256 + (ly.getD m 0).toNat := by
   rw [e2, w8, show 7 - (8 - (m + 1)) = m by omega]
  rw [if_pos (by omega), e1, if_pos (by omega), if_pos (by omega), hgm]
  have e4 : IntKind.u64.wrap (IntKind.u64.wrap (256 * ((w8 ly (8 - (m + 1)) : Nat) : Int)) + IntKind.u64.wrap (ly.getD m 0)) = ((w8 ly (8 - m) : Nat) : Int) := by
   rw [e3]
   simp only [IntKind.wrap_u64]
   omega
  have e5 : wrap64 (((m + 1 : Nat) : Int) - 1 - 1) = (m : Int) - 1 := by rw [wr (by omega) (by omega)]; omega
  rw [e4, e5]
  exact rget_l1 b ly n at_ X i s acc k ho hX hb hXe hg ha m (by omega)
theorem getD_take (l : List Int) (a n j : Nat) (h : j < n) (h2 : a + j < l.length) : rd l ((a + j : Nat) : Int) = ((l.drop a).take n).getD j 0 := by
 have e : (((a + j : Nat) : Int)).toNat = a + j := by omega
 rw [rd, e]
 simp [List.getD_eq_getElem?_getD, List.getElem?_take, List.getElem?_drop, h]
theorem rget_l0 (b : List Int) (ho : okB b) (hb : b.length ≤ 4611686018427387904) (n q at_ : Nat) (s : Bool) (hq : n / 2 = q) (hq2 : q ≤ 4096) (hat : at_ + q * 8 ≤ b.length) : ∀ (m i k : Nat) (acc : List Int), i + m = q → acc.length = i → 10 * m < k →
  rosetteref30_Get.l0 k b (n : Int) (at_ : Int) (i : Int) s acc = (if rightB s (acc ++ words m ((b.drop (at_ + 8 * i)).take (m * 8))) = true then some (s, acc ++ words m ((b.drop (at_ + 8 * i)).take (m * 8)), ((at_ + q * 8 : Nat) : Int), 0) else some (false, [], 0, 400))
 | 0, i, k + 1, acc, hi, ha, hk => by
  have e0 := half_n n q hq (by omega)
  have e1 := at_n at_ q (by omega) hq2
  simp only [rosetteref30_Get.l0, e0, e1, words, List.append_nil]
  rw [if_neg (by omega), rright_f s acc (by omega)]
  simp only [Option.bind_some]
 | m + 1, i, k + 1, acc, hi, ha, hk => by
  have e0 := half_n n q hq (by omega)
  obtain ⟨k', rfl⟩ : ∃ k', k = k' + 8 + 1 := ⟨k - 9, by omega⟩
  rw [rosetteref30_Get.l0, e0, if_pos (by omega)]
  have h := rget_l1 b ((b.drop (at_ + 8 * i)).take ((m + 1) * 8)) (n : Int) (at_ : Int) (at_ + 8 * i) (i : Int) s acc k' (okB_take (okB_drop ho _) _) (by omega) hb (by rw [at_n at_ i (by omega) (by omega)]; omega) (fun j hj => getD_take b _ _ j (by omega) (by omega)) (by omega) 8 (Nat.le_refl _)
  rw [show ((w8 ((b.drop (at_ + 8 * i)).take ((m + 1) * 8)) (8 - 8) : Nat) : Int) = 0 from rfl, show ((8 : Nat) : Int) - 1 = 7 from rfl] at h
  rw [h, w1 i (by omega), rget_l0 b ho hb n q at_ s hq hq2 hat m (i + 1) k' _ (by omega) (by simp [ha]) (by omega)]
  have e2 : ((b.drop (at_ + 8 * i)).take ((m + 1) * 8)).drop 8 = (b.drop (at_ + 8 * (i + 1))).take (m * 8) := by
   rw [List.drop_take, List.drop_drop, show (m + 1) * 8 - 8 = m * 8 by omega, show at_ + 8 * i + 8 = at_ + 8 * (i + 1) by omega]
  have e3 : acc ++ words (m + 1) ((b.drop (at_ + 8 * i)).take ((m + 1) * 8)) = acc ++ [((w8 ((b.drop (at_ + 8 * i)).take ((m + 1) * 8)) 8 : Nat) : Int)] ++ words m ((b.drop (at_ + 8 * (i + 1))).take (m * 8)) := by
   rw [words, e2]
   simp
  rw [e3]
theorem rget_f (b : List Int) (ho : okB b) (hb : b.length ≤ 4611686018427387904) (k : Nat) (hk : 41000 < k) : rosetteref30_Get.f k b = some (getS b) := by
 obtain ⟨k, rfl⟩ : ∃ k', k = k' + 1 := ⟨k - 1, by omega⟩
 obtain ⟨t, ht, hm⟩ := taken_f b ho 8193 hb (k + 1) (by omega)
 unfold rosetteref30_Get.f
 rw [ht]
 simp only [Option.bind_some]
 cases hg : groupsS 8193 b with
 | none =>
  rw [hg] at hm
  have hs : getS b = (false, [], 0, 400) := by unfold getS numS; rw [hg]
  rw [if_neg (by rw [hm]; simp), hs]
  simp [rosetteref30_Get.j0]
 | some p =>
  obtain ⟨v, j⟩ := p
  rw [hg] at hm
  simp only at hm
  subst hm
  have hv := gr_val (by decide) ho hg
  have hj := (gr_len hg).2.1
  obtain ⟨n, rfl⟩ : ∃ n : Nat, v = (n : Int) := ⟨v.toNat, by omega⟩
  obtain ⟨q, hq⟩ : ∃ q, n / 2 = q := ⟨_, rfl⟩
  have hj2 : j ≤ b.length := by omega
  have e0 := half_n n q hq (by omega)
  have e1 := at_n j q (by omega) (by omega)
  have e2 : (Int.tmod (n : Int) 2 == 1) = (n % 2 == 1) := by
   rw [Int.tmod_eq_emod_of_nonneg (by omega), show (n : Int) % 2 = ((n % 2 : Nat) : Int) by omega]
   rcases Nat.mod_two_eq_zero_or_one n with h | h <;> simp [h]
  rw [if_pos rfl]
  simp only [rosetteref30_Get.j0, e0, e1, e2]
  unfold getS numS
  rw [hg]
  simp only [Int.toNat_natCast, hq]
  by_cases hl : b.length < j + q * 8
  ·rw [if_pos (by simp; omega), if_pos hl]
  ·rw [if_neg (by simp; omega), if_neg hl]
   have h0 := rget_l0 b ho hb n q j (n % 2 == 1) hq (by omega) (by omega) q 0 k [] (by omega) rfl (by omega)
   rw [show ((0 : Nat) : Int) = 0 from rfl] at h0
   rw [h0]
   simp only [Nat.mul_zero, Nat.add_zero, List.nil_append]
   by_cases hr : rightB (n % 2 == 1) (words q ((b.drop j).take (q * 8))) = true
   ·rw [if_pos hr, if_pos hr]
   ·rw [if_neg hr, if_neg hr]
end Go.Proofs.Ytoheamfnddfgkaa.St
