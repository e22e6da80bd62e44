/- store: plain: certificates read by the document's way; rows of certificates that are the same. -/
import Derived.Test.YtoheamfnddfgkaaStT
namespace Go.Proofs.Ytoheamfnddfgkaa.St
open Go.RowKit Go.Proofs.YtoheamfnddfgkaaW.PrintWords Go.Proofs.Ytoheamfnddfgkaa.PB
set_option linter.unusedVariables false
set_option linter.unusedSimpArgs false

/-! ### certificates, by the document -/
theorem rcert_l (b : List Int) (ho : okB b) (hb : b.length ≤ 4611686018427387904) (s1 s2 : Bool) (l1 l2 : List Int) (Q : Nat) (hQ : Q ≤ 64) : ∀ (m i y k : Nat) (fs ps : List Int), i + m = Q → fs.length = i → ps.length = i → y ≤ b.length → 2 * m + 13 < k →
  ∃ r, rosetteref30_cert.l0 k b (y : Int) (Q : Int) ((2 * i : Nat) : Int) s1 l1 s2 l2 fs ps = some r ∧ (match pairsS m (b.drop y) with
   | .ok ((f, p), j) => r = (s1, l1, s2, l2, fs ++ f, ps ++ p, ((y + j : Nat) : Int), true)
   | .error e => r.2.2.2.2.2.2.2 = false ∧ r.2.2.2.2.2.2.1 = ((y + e : Nat) : Int))
 | 0, i, y, k + 1, fs, ps, hi, hf, hp, hy, hk => by
  refine ⟨(s1, l1, s2, l2, fs, ps, (y : Int), true), ?_, ?_⟩
  ·rw [rosetteref30_cert.l0, if_neg]
   rw [wr (by omega) (by omega)]
   omega
  ·simp [pairsS]
 | m + 1, i, y, k + 2, fs, ps, hi, hf, hp, hy, hk => by
  have hc : ((2 * i : Nat) : Int) < wrap64 (2 * (Q : Int)) := by rw [wr (by omega) (by omega)]; omega
  have hc2 : ((2 * i + 1 : Nat) : Int) < wrap64 (2 * (Q : Int)) := by rw [wr (by omega) (by omega)]; omega
  have hm1 : Int.tmod ((2 * i : Nat) : Int) 2 = 0 := by rw [Int.tmod_eq_emod_of_nonneg (by omega)]; omega
  have hm2 : ¬ Int.tmod ((2 * i + 1 : Nat) : Int) 2 = 0 := by rw [Int.tmod_eq_emod_of_nonneg (by omega)]; omega
  obtain ⟨t, ht, hmt⟩ := taken_f (b.drop y) (okB_drop ho y) 2147483647 (by rw [List.length_drop]; omega) (k + 1) (by omega)
  rw [rosetteref30_cert.l0, if_pos hc, if_pos (by omega), if_pos (by omega), toNat_add, ht]
  simp only [Option.bind_some]
  cases h1 : groupsS 2147483647 (b.drop y) with
  | none =>
   rw [h1] at hmt
   rw [if_neg (by rw [hmt]; simp)]
   refine ⟨_, rfl, ?_⟩
   simp [pairsS, h1]
  | some p =>
   obtain ⟨f, k1⟩ := p
   rw [h1] at hmt
   simp only at hmt
   subst hmt
   have hl1 := (gr_len h1).2.1
   rw [List.length_drop] at hl1
   rw [if_pos rfl, if_pos hm1, if_pos (by omega), w1 (2 * i) (by omega), addN y k1 (by omega)]
   obtain ⟨t, ht, hmt⟩ := taken_f (b.drop (y + k1)) (okB_drop ho _) 2147483647 (by rw [List.length_drop]; omega) k (by omega)
   rw [rosetteref30_cert.l0, if_pos hc2, if_pos (by omega), if_pos (by omega), toNat_add, ht]
   simp only [Option.bind_some]
   cases h2 : groupsS 2147483647 (b.drop (y + k1)) with
   | none =>
    rw [h2] at hmt
    rw [if_neg (by rw [hmt]; simp)]
    refine ⟨_, rfl, ?_⟩
    simp [pairsS, h1, h2, List.drop_drop]
   | some p =>
    obtain ⟨f2, k2⟩ := p
    rw [h2] at hmt
    simp only at hmt
    subst hmt
    have hl2 := (gr_len h2).2.1
    rw [List.length_drop] at hl2
    rw [if_pos rfl, if_neg hm2, if_pos (by omega), w1 (2 * i + 1) (by omega), addN (y + k1) k2 (by omega)]
    obtain ⟨r, hr, hmr⟩ := rcert_l b ho hb s1 s2 l1 l2 Q hQ m (i + 1) (y + k1 + k2) k (fs ++ [f]) (ps ++ [f2]) (by omega) (by simp [hf]) (by simp [hp]) (by omega) (by omega)
    rw [show 2 * (i + 1) = 2 * i + 1 + 1 by omega] at hr
    refine ⟨r, hr, ?_⟩
    have hpe : pairsS (m + 1) (b.drop y) = match pairsS m (b.drop (y + k1 + k2)) with | .error e => .error (k1 + k2 + e) | .ok ((fs, ps), k3) => .ok ((f :: fs, f2 :: ps), k1 + k2 + k3) := by
     simp only [pairsS, h1, List.drop_drop, h2, ← Nat.add_assoc]
     rcases pairsS m (b.drop (y + k1 + k2)) with e | ⟨⟨f', p'⟩, k'⟩ <;> rfl
    rw [hpe]
    cases h3 : pairsS m (b.drop (y + k1 + k2)) with
    | error e =>
     rw [h3] at hmr
     simp only at hmr ⊢
     refine ⟨hmr.1, ?_⟩
     rw [hmr.2]
     omega
    | ok p =>
     obtain ⟨⟨fs', ps'⟩, k3⟩ := p
     rw [h3] at hmr
     simp only at hmr ⊢
     rw [hmr]
     simp
     omega
theorem numS_get {b : List Int} {n : Bool × List Int} {j : Nat} (h : numS b = some (n, j)) : getS b = (n.1, n.2, (j : Int), 0) := by unfold getS; rw [h]
theorem numS_get0 {b : List Int} (h : numS b = none) : getS b = (false, [], 0, 400) := by unfold getS; rw [h]
theorem rcert_f (b : List Int) (ho : okB b) (hb : b.length ≤ 4611686018427387904) (x : Nat) (hx : x ≤ b.length) (k : Nat) (hk : 41000 < k) :
  ∃ r, rosetteref30_cert.f k b (x : Int) = some r ∧ (match certS (b.drop x) with
   | .ok ((n, m, f, p), j) => r = (n.1, n.2, m.1, m.2, f, p, ((x + j : Nat) : Int), true)
   | .error e => r.2.2.2.2.2.2.2 = false ∧ r.2.2.2.2.2.2.1 = ((x + e : Nat) : Int)) := by
 unfold rosetteref30_cert.f
 rw [if_pos (by omega), if_pos (by omega), toNat_add, rget_f _ (okB_drop ho x) (by rw [List.length_drop]; omega) k hk]
 simp only [Option.bind_some]
 cases h1 : numS (b.drop x) with
 | none =>
  rw [numS_get0 h1, if_neg (by decide)]
  refine ⟨_, rfl, ?_⟩
  simp [certS, h1]
 | some p =>
  obtain ⟨n, k1⟩ := p
  have hl1 := (numS_len h1).2
  rw [List.length_drop] at hl1
  simp only [numS_get h1]
  rw [if_pos trivial, addN x k1 (by omega), if_pos (by omega), if_pos (by omega), toNat_add, rget_f _ (okB_drop ho _) (by rw [List.length_drop]; omega) k hk]
  simp only [Option.bind_some]
  cases h2 : numS (b.drop (x + k1)) with
  | none =>
   rw [numS_get0 h2, if_neg (by decide)]
   refine ⟨_, rfl, ?_⟩
   simp [certS, h1, h2, List.drop_drop]
  | some p =>
   obtain ⟨n2, k2⟩ := p
   have hl2 := (numS_len h2).2
   rw [List.length_drop] at hl2
   simp only [numS_get h2]
   rw [if_pos trivial, addN (x + k1) k2 (by omega), if_pos (by omega), if_pos (by omega), toNat_add]
   obtain ⟨t, ht, hmt⟩ := taken_f (b.drop (x + k1 + k2)) (okB_drop ho _) 64 (by rw [List.length_drop]; omega) k (by omega)
   rw [ht]
   simp only [Option.bind_some]
   cases h3 : groupsS 64 (b.drop (x + k1 + k2)) with
   | none =>
    rw [h3] at hmt
    rw [if_neg (by rw [hmt]; simp)]
    refine ⟨_, rfl, ?_⟩
    simp [certS, h1, h2, h3, List.drop_drop, ← Nat.add_assoc]
   | some p =>
    obtain ⟨q, k3⟩ := p
    rw [h3] at hmt
    simp only at hmt
    subst hmt
    have hq := gr_val (by decide) (okB_drop ho _) h3
    have hl3 := (gr_len h3).2.1
    rw [List.length_drop] at hl3
    obtain ⟨Q, rfl⟩ : ∃ Q : Nat, q = (Q : Int) := ⟨q.toNat, by omega⟩
    rw [if_pos rfl, addN (x + k1 + k2) k3 (by omega)]
    obtain ⟨r, hr, hmr⟩ := rcert_l b ho hb n.1 n2.1 n.2 n2.2 Q (by omega) Q 0 (x + k1 + k2 + k3) k [] [] (by omega) rfl rfl (by omega) (by omega)
    refine ⟨r, hr, ?_⟩
    have hce : certS (b.drop x) = match pairsS Q (b.drop (x + k1 + k2 + k3)) with | .error e => .error (k1 + k2 + k3 + e) | .ok ((fs, ps), k4) => .ok ((n, n2, fs, ps), k1 + k2 + k3 + k4) := by
     simp only [certS, h1, List.drop_drop, h2, ← Nat.add_assoc, h3, Int.toNat_natCast]
     rcases pairsS Q (b.drop (x + k1 + k2 + k3)) with e | ⟨⟨f', p'⟩, k'⟩ <;> rfl
    rw [hce]
    cases h4 : pairsS Q (b.drop (x + k1 + k2 + k3)) with
    | error e =>
     rw [h4] at hmr
     simp only at hmr ⊢
     refine ⟨hmr.1, ?_⟩
     rw [hmr.2]
     omega
    | ok p =>
     obtain ⟨⟨fs', ps'⟩, k4⟩ := p
     rw [h4] at hmr
     simp only at hmr ⊢
     rw [hmr]
     simp
     omega
theorem rread_l (b : List Int) (ho : okB b) (hb : b.length ≤ 4611686018427387904) (Q : Nat) (hQ : Q ≤ 64) : ∀ (m i y k : Nat) (xs : List CertT), i + m = Q → xs.length = i → y ≤ b.length → m + 41010 < k →
  rosetteref30_Read.l0 k b (Q : Int) (y : Int) (xs.map toS) (i : Int) = some (match certsS m (b.drop y) with
   | .ok (cs, j) => if y + j < b.length then ([], 400, ((y + j : Nat) : Int)) else ((xs ++ cs).map toS, 0, 0)
   | .error e => ([], 400, ((y + e : Nat) : Int)))
 | 0, i, y, k + 1, xs, hi, hf, hy, hk => by
  rw [rosetteref30_Read.l0, if_neg (by omega)]
  simp only [certsS, Nat.add_zero, List.append_nil]
  by_cases h : y < b.length
  ·rw [if_pos (by omega), if_pos h]
  ·rw [if_neg (by omega), if_neg h]
 | m + 1, i, y, k + 1, xs, hi, hf, hy, hk => by
  rw [rosetteref30_Read.l0, if_pos (by omega)]
  obtain ⟨r, hr, hmr⟩ := rcert_f b ho hb y hy k (by omega)
  rw [hr]
  simp only [Option.bind_some]
  cases h1 : certS (b.drop y) with
  | error e =>
   rw [h1] at hmr
   simp only at hmr
   rw [if_neg (by rw [hmr.1]; simp), hmr.2]
   simp [certsS, h1]
  | ok p =>
   obtain ⟨⟨n, n2, f, p⟩, j⟩ := p
   rw [h1] at hmr
   simp only at hmr
   subst hmr
   have hl := cert_len h1
   rw [List.length_drop] at hl
   simp only
   rw [if_pos trivial, if_pos (by rw [List.length_map]; omega), w1 i (by omega)]
   have hmap : xs.map toS ++ [(⟨⟨n.1, n.2⟩, ⟨n2.1, n2.2⟩, f, p⟩ : S61)] = (xs ++ [(n, n2, f, p)]).map toS := by rw [List.map_append]; rfl
   rw [hmap, rread_l b ho hb Q hQ m (i + 1) (y + j) k (xs ++ [(n, n2, f, p)]) (by omega) (by simp [hf]) (by omega) (by omega)]
   have hce : certsS (m + 1) (b.drop y) = match certsS m (b.drop (y + j)) with | .error e => .error (j + e) | .ok (cs, k2) => .ok ((n, n2, f, p) :: cs, j + k2) := by
    simp only [certsS, h1, List.drop_drop]
    rcases certsS m (b.drop (y + j)) with e | ⟨cs', k'⟩ <;> rfl
   rw [hce]
   cases h2 : certsS m (b.drop (y + j)) with
   | error e => simp only [← Nat.add_assoc]
   | ok p =>
    obtain ⟨cs, k2⟩ := p
    simp only [← Nat.add_assoc, List.append_assoc, List.singleton_append]
theorem rread_f (b : List Int) (ho : okB b) (hb : b.length ≤ 4611686018427387904) (k : Nat) (hk : 41100 < k) : rosetteref30_Read.f k b = some ((readG b).1.map toS, (readG b).2) := by
 unfold rosetteref30_Read.f
 obtain ⟨t, ht, hmt⟩ := taken_f b ho 64 hb k (by omega)
 rw [ht]
 simp only [Option.bind_some]
 cases h1 : groupsS 64 b with
 | none =>
  rw [h1] at hmt
  rw [if_neg (by rw [hmt]; simp)]
  simp [readG, readS, h1]
 | some p =>
  obtain ⟨q, k1⟩ := p
  rw [h1] at hmt
  simp only at hmt
  subst hmt
  have hq := gr_val (by decide) ho h1
  have hl := (gr_len h1).2.1
  obtain ⟨Q, rfl⟩ : ∃ Q : Nat, q = (Q : Int) := ⟨q.toNat, by omega⟩
  rw [if_pos rfl]
  have h := rread_l b ho hb Q (by omega) Q 0 k1 k [] (by omega) rfl (by omega) (by omega)
  rw [show ((0 : Nat) : Int) = 0 from rfl, List.map_nil] at h
  rw [h]
  simp only [readG, readS, h1, Int.toNat_natCast, List.nil_append]
  cases h2 : certsS Q (b.drop k1) with
  | error e => rfl
  | ok p =>
   obtain ⟨cs, k2⟩ := p
   simp only
   by_cases h3 : k1 + k2 < b.length
   ·rw [if_pos h3, if_pos h3]
    rfl
   ·rw [if_neg h3, if_neg h3]
end Go.Proofs.Ytoheamfnddfgkaa.St
