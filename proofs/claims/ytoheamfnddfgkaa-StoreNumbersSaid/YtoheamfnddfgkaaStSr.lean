/- store: plain: what is read is short. -/
import Derived.Test.YtoheamfnddfgkaaStR
namespace Go.Proofs.Ytoheamfnddfgkaa.St
open Go.RowKit Go.Proofs.YtoheamfnddfgkaaW.PrintWords Go.Proofs.Ytoheamfnddfgkaa.PB
set_option linter.unusedVariables false
set_option linter.unusedSimpArgs false

theorem numS_right {b : List Int} {r : Bool × List Int} {k : Nat} (h : numS b = some (r, k)) : rightB r.1 r.2 = true := by
 unfold numS at h
 cases hg : groupsS 8193 b with
 | none => rw [hg] at h; cases h
 | some p =>
  obtain ⟨n, k0⟩ := p
  rw [hg] at h
  simp only at h
  split at h
  ·cases h
  ·split at h
   ·rename_i h2
    simp only [Option.some.injEq, Prod.mk.injEq] at h
    rw [← h.1]
    exact h2
   ·cases h
theorem pairs_short : ∀ (m : Nat) (b : List Int) {fs ps : List Int} {k : Nat}, pairsS m b = .ok ((fs, ps), k) → fs.length = m ∧ ps.length = m
 | 0, b, fs, ps, k, h => by
  simp [pairsS] at h
  obtain ⟨⟨rfl, rfl⟩, _⟩ := h
  simp
 | m + 1, b, fs, ps, k, h => by
  unfold pairsS at h
  cases h1 : groupsS 2147483647 b with
  | none => simp [h1] at h
  | some p =>
   obtain ⟨f, k1⟩ := p
   cases h2 : groupsS 2147483647 (b.drop k1) with
   | none => simp [h1, h2] at h
   | some p =>
    obtain ⟨q, k2⟩ := p
    cases h3 : pairsS m (b.drop (k1 + k2)) with
    | error e => simp [h1, h2, h3] at h
    | ok p =>
     obtain ⟨⟨fs', ps'⟩, k3⟩ := p
     simp [h1, h2, h3] at h
     obtain ⟨⟨rfl, rfl⟩, _⟩ := h
     have := pairs_short m _ h3
     simp
     omega
theorem cert_short {b : List Int} {c : CertT} {k : Nat} (ho : okB b) (h : certS b = .ok (c, k)) : shortC 4096 (toS c) := by
 unfold certS at h
 cases h1 : numS b with
 | none => simp [h1] at h
 | some p =>
  obtain ⟨n, k1⟩ := p
  cases h2 : numS (b.drop k1) with
  | none => simp [h1, h2] at h
  | some p =>
   obtain ⟨n2, k2⟩ := p
   cases h3 : groupsS 64 (b.drop (k1 + k2)) with
   | none => simp [h1, h2, h3] at h
   | some p =>
    obtain ⟨q, k3⟩ := p
    cases h4 : pairsS q.toNat (b.drop (k1 + k2 + k3)) with
    | error e => simp [h1, h2, h3, h4] at h
    | ok p =>
     obtain ⟨⟨fs, ps⟩, k4⟩ := p
     simp [h1, h2, h3, h4] at h
     have hq := gr_val (by decide) (okB_drop ho _) h3
     have hp := pairs_short _ _ h4
     rw [← h.1]
     refine ⟨right_len (numS_right h1), right_len (numS_right h2), ?_, ?_⟩
     ·show fs.length ≤ 4096
      omega
     ·show ps.length ≤ 4096
      omega
theorem certs_short : ∀ (m : Nat) (b : List Int) {cs : List CertT} {k : Nat}, okB b → certsS m b = .ok (cs, k) → cs.length = m ∧ ∀ c ∈ cs, shortC 4096 (toS c)
 | 0, b, cs, k, ho, h => by
  simp [certsS] at h
  obtain ⟨rfl, _⟩ := h
  simp
 | m + 1, b, cs, k, ho, h => by
  unfold certsS at h
  cases h1 : certS b with
  | error e => simp [h1] at h
  | ok p =>
   obtain ⟨c, k1⟩ := p
   cases h2 : certsS m (b.drop k1) with
   | error e => simp [h1, h2] at h
   | ok p =>
    obtain ⟨cs', k2⟩ := p
    simp [h1, h2] at h
    obtain ⟨rfl, _⟩ := h
    have ih := certs_short m _ (okB_drop ho _) h2
    refine ⟨by simp [ih.1], fun x hx => ?_⟩
    rcases List.mem_cons.1 hx with rfl | hx
    ·exact cert_short ho h1
    ·exact ih.2 x hx
theorem readG_short (b : List Int) (ho : okB b) : (readG b).1.length ≤ 64 ∧ ∀ c ∈ (readG b).1.map toS, shortC 4096 c := by
 unfold readG
 cases h : readS b with
 | error e => simp
 | ok cs =>
  unfold readS at h
  cases h1 : groupsS 64 b with
  | none => simp [h1] at h
  | some p =>
   obtain ⟨q, k⟩ := p
   have hq := gr_val (by decide) ho h1
   cases h2 : certsS q.toNat (b.drop k) with
   | error e => simp [h1, h2] at h
   | ok p =>
    obtain ⟨cs', k2⟩ := p
    simp only [h1, h2] at h
    have hs := certs_short _ _ (okB_drop ho _) h2
    split at h
    ·cases h
    ·injection h with h
     subst h
     refine ⟨by rw [hs.1]; omega, fun c hc => ?_⟩
     obtain ⟨x, hx, rfl⟩ := List.mem_map.1 hc
     exact hs.2 x hx
theorem read_f (b : List Int) (ho : okB b) (hb : b.length ≤ 4611686018427387904) : store_Read.f b = some ((readG b).1.map toS, (readG b).2) := by
 unfold store_Read.f
 rw [if_pos ⟨ho, hb⟩]
end Go.Proofs.Ytoheamfnddfgkaa.St
