/- store: plain: what is got is put again as the same bytes. -/
import Derived.Test.YtoheamfnddfgkaaStBa
import Derived.Test.YtoheamfnddfgkaaStSr
namespace Go.Proofs.Ytoheamfnddfgkaa.St
open Go.RowKit Go.Proofs.YtoheamfnddfgkaaW.PrintWords Go.Proofs.Ytoheamfnddfgkaa.PB
set_option linter.unusedVariables false
set_option linter.unusedSimpArgs false

theorem gr_can (most : Int) : ∀ (r i acc : Nat) (l : List Int) {v : Int} {k : Nat}, okB l → gr most r i (acc : Int) l = some (v, k) →
    ∃ n : Nat, n < 128 ^ r ∧ v = ((acc + n * 2 ^ (7 * i) : Nat) : Int) ∧ i < k ∧ (∀ f, r ≤ f → grp f n = l.take (k - i)) ∧ (0 < i → 0 < n)
  | 0, _, _, _, _, _, _, h => by simp [gr] at h
  | _ + 1, _, _, [], _, _, _, h => by simp [gr] at h
  | r + 1, i, acc, c :: l, v, k, ho, h => by
    have hc := ho c (by simp)
    obtain ⟨y, rfl⟩ : ∃ y : Nat, c = (y : Int) := ⟨c.toNat, by omega⟩
    have hol : okB l := fun x hx => ho x (by simp [hx])
    rw [gr_cons most r i acc y (acc + y % 128 * 2 ^ (7 * i)) l rfl] at h
    by_cases h1 : 128 ≤ y
    · rw [if_pos h1] at h
      obtain ⟨n, hn, hv, hk, hg, hp⟩ := gr_can most r (i + 1) _ l hol h
      have hn0 := hp (by omega)
      have hp2 : 2 ^ (7 * (i + 1)) = 128 * 2 ^ (7 * i) := by rw [show 7 * (i + 1) = 7 * i + 7 by omega, Nat.pow_add, Nat.mul_comm]
      refine ⟨y % 128 + 128 * n, ?_, ?_, by omega, fun f hf => ?_, fun _ => by omega⟩
      · rw [Nat.pow_succ]
        omega
      · rw [hv, hp2]
        congr 1
        rw [Nat.add_mul, ← Nat.mul_assoc, Nat.mul_comm n 128]
        omega
      · obtain ⟨f, rfl⟩ : ∃ f', f = f' + 1 := ⟨f - 1, by omega⟩
        have e1 : (y % 128 + 128 * n) / 128 = n := by omega
        have e2 : (y % 128 + 128 * n) % 128 + 128 = y := by omega
        simp only [grp]
        rw [if_pos (by omega), e1, e2, hg f (by omega), show k - i = (k - (i + 1)) + 1 by omega, List.take_succ_cons]
    · rw [if_neg h1] at h
      split at h
      · cases h
      · rename_i h2
        simp only [Option.some.injEq, Prod.mk.injEq] at h
        obtain ⟨rfl, rfl⟩ := h
        have e : y % 128 = y := Nat.mod_eq_of_lt (by omega)
        refine ⟨y, ?_, by rw [e], by omega, fun f hf => ?_, fun hi => ?_⟩
        · have : 128 ^ 0 ≤ 128 ^ r := Nat.pow_le_pow_right (by decide) (Nat.zero_le r)
          rw [Nat.pow_zero] at this
          rw [Nat.pow_succ]
          omega
        · obtain ⟨f, rfl⟩ : ∃ f', f = f' + 1 := ⟨f - 1, by omega⟩
          simp only [grp]
          rw [if_neg h1, show i + 1 - i = 0 + 1 by omega, List.take_succ_cons, List.take_zero]
        · rcases Nat.eq_zero_or_pos y with h0 | h0
          · exact absurd (.inr ⟨h0, hi⟩) h2
          · exact h0
theorem groups_can {most : Int} {b : List Int} {v : Int} {k : Nat} (ho : okB b) (h : groupsS most b = some (v, k)) : ∃ n : Nat, v = (n : Int) ∧ n < 34359738368 ∧ grpS n = b.take k := by
  obtain ⟨n, h1, h2, h3, h4, h5⟩ := gr_can most 5 0 0 b ho h
  refine ⟨n, by simpa using h2, Nat.lt_of_lt_of_le h1 (by decide), ?_⟩
  have := h4 10 (by decide)
  simpa [grpS] using this
theorem bF_w8 (l : List Int) (ho : okB l) (hl : 8 ≤ l.length) : bF 8 (w8 l 8) = l.take 8 := by
  match l, hl with
  | x0 :: x1 :: x2 :: x3 :: x4 :: x5 :: x6 :: x7 :: rest, _ =>
    have g0 := ho x0 (by simp)
    have g1 := ho x1 (by simp)
    have g2 := ho x2 (by simp)
    have g3 := ho x3 (by simp)
    have g4 := ho x4 (by simp)
    have g5 := ho x5 (by simp)
    have g6 := ho x6 (by simp)
    have g7 := ho x7 (by simp)
    obtain ⟨y0, rfl⟩ : ∃ y : Nat, x0 = (y : Int) := ⟨x0.toNat, by omega⟩
    obtain ⟨y1, rfl⟩ : ∃ y : Nat, x1 = (y : Int) := ⟨x1.toNat, by omega⟩
    obtain ⟨y2, rfl⟩ : ∃ y : Nat, x2 = (y : Int) := ⟨x2.toNat, by omega⟩
    obtain ⟨y3, rfl⟩ : ∃ y : Nat, x3 = (y : Int) := ⟨x3.toNat, by omega⟩
    obtain ⟨y4, rfl⟩ : ∃ y : Nat, x4 = (y : Int) := ⟨x4.toNat, by omega⟩
    obtain ⟨y5, rfl⟩ : ∃ y : Nat, x5 = (y : Int) := ⟨x5.toNat, by omega⟩
    obtain ⟨y6, rfl⟩ : ∃ y : Nat, x6 = (y : Int) := ⟨x6.toNat, by omega⟩
    obtain ⟨y7, rfl⟩ : ∃ y : Nat, x7 = (y : Int) := ⟨x7.toNat, by omega⟩
    have step : ∀ (a b : Nat), b < 256 → (a * 256 + b) % 256 = b ∧ (a * 256 + b) / 256 = a := fun a b h => by omega
    have hw : w8 ((y0 : Int) :: (y1 : Int) :: (y2 : Int) :: (y3 : Int) :: (y4 : Int) :: (y5 : Int) :: (y6 : Int) :: (y7 : Int) :: rest) 8 = (((((((0 * 256 + y7) * 256 + y6) * 256 + y5) * 256 + y4) * 256 + y3) * 256 + y2) * 256 + y1) * 256 + y0 := by
      simp only [w8, List.getD_cons_zero, List.getD_cons_succ, Nat.sub_self, Nat.reduceSub, Int.toNat_natCast]
    rw [hw]
    simp only [bF]
    rw [(step _ y0 (by omega)).1, (step _ y0 (by omega)).2, (step _ y1 (by omega)).1, (step _ y1 (by omega)).2, (step _ y2 (by omega)).1, (step _ y2 (by omega)).2, (step _ y3 (by omega)).1, (step _ y3 (by omega)).2, (step _ y4 (by omega)).1, (step _ y4 (by omega)).2, (step _ y5 (by omega)).1, (step _ y5 (by omega)).2, (step _ y6 (by omega)).1, (step _ y6 (by omega)).2, (step _ y7 (by omega)).1]
    rfl
theorem words_can : ∀ (q : Nat) (l : List Int), okB l → l.length = q * 8 → limbsS (words q l) = l
  | 0, l, ho, hl => by
    obtain rfl : l = [] := List.eq_nil_of_length_eq_zero (by omega)
    rfl
  | q + 1, l, ho, hl => by
    simp only [words, limbsS_cons, Int.toNat_natCast]
    rw [bF_w8 l ho (by omega), words_can q (l.drop 8) (okB_drop ho 8) (by rw [List.length_drop]; omega), List.take_append_drop]
theorem num_can {b : List Int} {s : Bool} {l : List Int} {k : Nat} (ho : okB b) (h : numS b = some ((s, l), k)) : rightB s l = true ∧ okL64 l ∧ numberS s l = b.take k := by
  have hr := numS_right h
  unfold numS at h
  cases hg : groupsS 8193 b with
  | none => rw [hg] at h; cases h
  | some p =>
    obtain ⟨v, k0⟩ := p
    obtain ⟨n, rfl, hn, hgb⟩ := groups_can ho hg
    have hl := (gr_len hg).2.1
    rw [hg] at h
    simp only [Int.toNat_natCast] at h
    split at h
    · cases h
    · rename_i hlt
      split at h
      · simp only [Option.some.injEq, Prod.mk.injEq] at h
        obtain ⟨⟨h1, h2⟩, h3⟩ := h
        have hlen : l.length = n / 2 := by rw [← h2, words_len]
        have hs : 2 * l.length + s.toNat = n := by
          rw [hlen, ← h1]
          rcases Nat.mod_two_eq_zero_or_one n with h | h <;> simp [h] <;> omega
        refine ⟨hr, by rw [← h2]; exact words_ok (okB_take (okB_drop ho _) _), ?_⟩
        unfold numberS
        rw [hs, hgb, ← h2, words_can _ _ (okB_take (okB_drop ho _) _) (by rw [List.length_take, List.length_drop]; omega), ← h3, List.take_add]
      · cases h
theorem pairs_can : ∀ (m : Nat) (b : List Int) {fs ps : List Int} {k : Nat}, okB b → pairsS m b = .ok ((fs, ps), k) → pairsB fs ps = b.take k ∧ inB fs ps = true
  | 0, b, fs, ps, k, ho, h => by
    simp [pairsS] at h
    obtain ⟨⟨rfl, rfl⟩, rfl⟩ := h
    simp [pairsB, inB]
  | m + 1, b, fs, ps, k, ho, h => by
    unfold pairsS at h
    cases h1 : groupsS 2147483647 b with
    | none => simp [h1] at h
    | some p =>
      obtain ⟨f, k1⟩ := p
      cases h2 : groupsS 2147483647 (b.drop k1) with
      | none => simp [h1, h2] at h
      | some p =>
        obtain ⟨q, k2⟩ := p
        cases h3 : pairsS m (b.drop (k1 + k2)) with
        | error e => simp [h1, h2, h3] at h
        | ok p =>
          obtain ⟨⟨fs', ps'⟩, k3⟩ := p
          simp [h1, h2, h3] at h
          obtain ⟨⟨rfl, rfl⟩, rfl⟩ := h
          obtain ⟨n1, rfl, _, c1⟩ := groups_can ho h1
          obtain ⟨n2, rfl, _, c2⟩ := groups_can (okB_drop ho k1) h2
          have ih := pairs_can m _ (okB_drop ho _) h3
          have v1 := gr_val (by decide) ho h1
          have v2 := gr_val (by decide) (okB_drop ho k1) h2
          have i1 : in31 (n1 : Int) = true := in31_yes (by omega) (by omega)
          have i2 : in31 (n2 : Int) = true := in31_yes (by omega) (by omega)
          refine ⟨?_, by simp only [inB]; rw [i1, i2, ih.2]; rfl⟩
          simp only [pairsB, Int.toNat_natCast]
          rw [c1, c2, ih.1, List.take_add, List.take_add]
theorem cert_can {b : List Int} {c : CertT} {k : Nat} (ho : okB b) (h : certS b = .ok (c, k)) : certB (toS c) = b.take k ∧ mayS (toS c) = true ∧ okCert (toS c) := by
  have hsh := cert_short ho h
  unfold certS at h
  cases h1 : numS b with
  | none => simp [h1] at h
  | some p =>
    obtain ⟨⟨s1, l1⟩, k1⟩ := p
    cases h2 : numS (b.drop k1) with
    | none => simp [h1, h2] at h
    | some p =>
      obtain ⟨⟨s2, l2⟩, k2⟩ := p
      cases h3 : groupsS 64 (b.drop (k1 + k2)) with
      | none => simp [h1, h2, h3] at h
      | some p =>
        obtain ⟨q, k3⟩ := p
        cases h4 : pairsS q.toNat (b.drop (k1 + k2 + k3)) with
        | error e => simp [h1, h2, h3, h4] at h
        | ok p =>
          obtain ⟨⟨fs, ps⟩, k4⟩ := p
          simp [h1, h2, h3, h4] at h
          obtain ⟨rfl, rfl⟩ := h
          obtain ⟨r1, o1, c1⟩ := num_can ho h1
          obtain ⟨r2, o2, c2⟩ := num_can (okB_drop ho k1) h2
          obtain ⟨n, rfl, _, c3⟩ := groups_can (okB_drop ho _) h3
          have v3 := gr_val (by decide) (okB_drop ho _) h3
          have hp := pairs_short _ _ h4
          obtain ⟨c4, i4⟩ := pairs_can _ _ (okB_drop ho _) h4
          rw [Int.toNat_natCast] at hp
          have bnd : ∀ (fs ps : List Int), inB fs ps = true → fs.length = ps.length → okI64 fs ∧ okI64 ps := by
            intro fs
            induction fs with
            | nil => intro ps h hl; obtain rfl : ps = [] := List.eq_nil_of_length_eq_zero hl.symm; exact ⟨fun x hx => by simp at hx, fun x hx => by simp at hx⟩
            | cons f fs ih =>
              intro ps h hl
              match ps, hl with
              | p :: ps, hl =>
                simp only [inB, Bool.and_eq_true] at h
                have a1 := in31_b h.1.1
                have a2 := in31_b h.1.2
                have a3 := ih ps h.2 (by simpa using hl)
                refine ⟨fun x hx => ?_, fun x hx => ?_⟩
                · rcases List.mem_cons.1 hx with rfl | hx
                  · omega
                  · exact a3.1 x hx
                · rcases List.mem_cons.1 hx with rfl | hx
                  · omega
                  · exact a3.2 x hx
          have hb2 := bnd fs ps i4 (by omega)
          refine ⟨?_, ?_, ?_⟩
          · show numberS s1 l1 ++ numberS s2 l2 ++ grpS fs.length ++ pairsB fs ps = _
            rw [hp.1, c1, c2, c3, c4, List.take_add, List.take_add, List.take_add]
          · show ((rightB s1 l1 && rightB s2 l2) && ((decide (fs.length ≤ 64) && decide (fs.length = ps.length)) && inB fs ps)) = true
            rw [r1, r2, i4, decide_eq_true (show fs.length ≤ 64 by omega), decide_eq_true (show fs.length = ps.length by omega)]
            rfl
          · have a1 : l1.length ≤ 4096 := right_len r1
            have a2 : l2.length ≤ 4096 := right_len r2
            refine ⟨⟨o1, ?_⟩, ⟨o2, ?_⟩, ⟨hb2.1, ?_⟩, ⟨hb2.2, ?_⟩⟩
            · show l1.length ≤ _
              omega
            · show l2.length ≤ _
              omega
            · show fs.length ≤ _
              omega
            · show ps.length ≤ _
              omega
theorem certs_can : ∀ (m : Nat) (b : List Int) {cs : List CertT} {k : Nat}, okB b → certsS m b = .ok (cs, k) → flatB (cs.map toS) = b.take k ∧ (∀ c ∈ cs.map toS, mayS c = true ∧ okCert c)
  | 0, b, cs, k, ho, h => by
    simp [certsS] at h
    obtain ⟨rfl, rfl⟩ := h
    simp [flatB]
  | m + 1, b, cs, k, ho, h => by
    unfold certsS at h
    cases h1 : certS b with
    | error e => simp [h1] at h
    | ok p =>
      obtain ⟨c, k1⟩ := p
      cases h2 : certsS m (b.drop k1) with
      | error e => simp [h1, h2] at h
      | ok p =>
        obtain ⟨cs', k2⟩ := p
        simp [h1, h2] at h
        obtain ⟨rfl, rfl⟩ := h
        obtain ⟨a1, a2, a3⟩ := cert_can ho h1
        obtain ⟨b1, b2⟩ := certs_can m _ (okB_drop ho _) h2
        refine ⟨?_, fun x hx => ?_⟩
        · simp only [List.map_cons, flatB]
          rw [a1, b1, List.take_add]
        · rw [List.map_cons] at hx
          rcases List.mem_cons.1 hx with rfl | hx
          · exact ⟨a2, a3⟩
          · exact b2 x hx
theorem certsK_all : ∀ (l : List S61) (out : List Int), (∀ c ∈ l, mayS c = true) → certsK out l = (out ++ flatB l, 0)
  | [], out, _ => by simp [certsK, flatB]
  | c :: l, out, h => by
    simp only [certsK]
    rw [if_pos (h c (by simp)), certsK_all l _ (fun x hx => h x (by simp [hx]))]
    simp [flatB]
/-- What is read is told with the same bytes. -/
theorem read_can {b : List Int} {cs : List CertT} (ho : okB b) (h : readS b = .ok cs) : certsT (cs.map toS) = (b, 0) ∧ ∀ c ∈ cs.map toS, okCert c := by
  unfold readS at h
  cases h1 : groupsS 64 b with
  | none => simp [h1] at h
  | some p =>
    obtain ⟨q, k⟩ := p
    obtain ⟨n, rfl, _, c1⟩ := groups_can ho h1
    have v1 := gr_val (by decide) ho h1
    cases h2 : certsS ((n : Int)).toNat (b.drop k) with
    | error e => simp only [h1, h2] at h; cases h
    | ok p =>
      obtain ⟨cs', k2⟩ := p
      simp only [h1, h2] at h
      have hl1 := (gr_len h1).2.1
      have hl2 := certs_len _ _ h2
      rw [List.length_drop] at hl2
      split at h
      · cases h
      · rename_i hlt
        injection h with h
        subst h
        have hs := (certs_short _ _ (okB_drop ho _) h2).1
        rw [Int.toNat_natCast] at hs
        obtain ⟨a1, a2⟩ := certs_can _ _ (okB_drop ho _) h2
        refine ⟨?_, fun c hc => (a2 c hc).2⟩
        unfold certsT
        rw [List.length_map, hs, if_neg (by omega), certsK_all _ _ (fun c hc => (a2 c hc).1), a1, c1, ← List.take_add, List.take_of_length_le (by omega)]
end Go.Proofs.Ytoheamfnddfgkaa.St
