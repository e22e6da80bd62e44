/- store: plain: what is put is got; more bytes behind change nothing. -/
import Derived.Test.YtoheamfnddfgkaaStCe
namespace Go.Proofs.Ytoheamfnddfgkaa.St
open Go.RowKit Go.Proofs.YtoheamfnddfgkaaW.PrintWords Go.Proofs.Ytoheamfnddfgkaa.PB
set_option linter.unusedVariables false
set_option linter.unusedSimpArgs false

/-! ### more bytes behind -/
theorem gr_ext (most : Int) (m : List Int) : ∀ (r i : Nat) (n : Int) (l : List Int) {v : Int} {k : Nat}, gr most r i n l = some (v, k) → gr most r i n (l ++ m) = some (v, k)
  | 0, _, _, _, _, _, h => by simp [gr] at h
  | _ + 1, _, _, [], _, _, h => by simp [gr] at h
  | r + 1, i, n, c :: l, v, k, h => by
    simp only [gr, List.cons_append] at h ⊢
    split at h
    · rename_i h1
      rw [if_pos h1]
      exact gr_ext most m r (i + 1) _ l h
    · rename_i h1
      rw [if_neg h1]
      exact h
theorem groups_ext {most : Int} {b m : List Int} {v : Int} {k : Nat} (h : groupsS most b = some (v, k)) : groupsS most (b ++ m) = some (v, k) := gr_ext most m 5 0 0 b h
theorem numS_ext {b m : List Int} {r : Bool × List Int} {k : Nat} (h : numS b = some (r, k)) : numS (b ++ m) = some (r, k) := by
  unfold numS at h ⊢
  cases hg : groupsS 8193 b with
  | none => rw [hg] at h; cases h
  | some p =>
    obtain ⟨n, k0⟩ := p
    rw [hg] at h
    rw [groups_ext hg]
    simp only at h ⊢
    have hl := (gr_len hg).2.1
    split at h
    · cases h
    · rename_i hlt
      rw [if_neg (by rw [List.length_append]; omega)]
      have e : ((b ++ m).drop k0).take (n.toNat / 2 * 8) = (b.drop k0).take (n.toNat / 2 * 8) := by
        rw [List.drop_append_of_le_length (by omega), List.take_append_of_le_length (by rw [List.length_drop]; omega)]
      rw [e]
      exact h
theorem drop_ext {b m : List Int} {k : Nat} (h : k ≤ b.length) : (b ++ m).drop k = b.drop k ++ m := List.drop_append_of_le_length h
theorem pairs_ext (m : List Int) : ∀ (q : Nat) (b : List Int) {r : List Int × List Int} {k : Nat}, pairsS q b = .ok (r, k) → pairsS q (b ++ m) = .ok (r, k)
  | 0, b, r, k, h => h
  | q + 1, b, r, k, h => by
    unfold pairsS at h ⊢
    cases h1 : groupsS 2147483647 b with
    | none => simp [h1] at h
    | some p =>
      obtain ⟨f, k1⟩ := p
      have l1 := (gr_len h1).2.1
      rw [groups_ext h1]
      cases h2 : groupsS 2147483647 (b.drop k1) with
      | none => simp [h1, h2] at h
      | some p =>
        obtain ⟨p, k2⟩ := p
        have l2 := (gr_len h2).2.1
        rw [List.length_drop] at l2
        simp only
        rw [drop_ext (by omega), groups_ext h2]
        simp only
        rw [drop_ext (by omega)]
        cases h3 : pairsS q (b.drop (k1 + k2)) with
        | error e => simp [h1, h2, h3] at h
        | ok p =>
          obtain ⟨⟨fs, ps⟩, k3⟩ := p
          rw [pairs_ext m q _ h3]
          simp only [h1, h2, h3] at h ⊢
          exact h
theorem cert_ext {b m : List Int} {c : CertT} {k : Nat} (h : certS b = .ok (c, k)) : certS (b ++ m) = .ok (c, k) := by
  unfold certS at h ⊢
  cases h1 : numS b with
  | none => simp [h1] at h
  | some p =>
    obtain ⟨n, k1⟩ := p
    have l1 := (numS_len h1).2
    rw [numS_ext h1]
    cases h2 : numS (b.drop k1) with
    | none => simp [h1, h2] at h
    | some p =>
      obtain ⟨n2, k2⟩ := p
      have l2 := (numS_len h2).2
      rw [List.length_drop] at l2
      simp only
      rw [drop_ext (by omega), numS_ext h2]
      simp only
      rw [drop_ext (by omega)]
      cases h3 : groupsS 64 (b.drop (k1 + k2)) with
      | none => simp [h1, h2, h3] at h
      | some p =>
        obtain ⟨q, k3⟩ := p
        have l3 := (gr_len h3).2.1
        rw [List.length_drop] at l3
        rw [groups_ext h3]
        simp only
        rw [drop_ext (by omega)]
        cases h4 : pairsS q.toNat (b.drop (k1 + k2 + k3)) with
        | error e => simp [h1, h2, h3, h4] at h
        | ok p =>
          obtain ⟨⟨fs, ps⟩, k4⟩ := p
          rw [pairs_ext m _ _ h4]
          simp only [h1, h2, h3, h4] at h ⊢
          exact h
theorem certs_len : ∀ (q : Nat) (b : List Int) {cs : List CertT} {k : Nat}, certsS q b = .ok (cs, k) → k ≤ b.length
  | 0, b, cs, k, h => by
    simp [certsS] at h
    omega
  | q + 1, b, cs, k, h => by
    unfold certsS at h
    cases h1 : certS b with
    | error e => simp [h1] at h
    | ok p =>
      obtain ⟨c, k1⟩ := p
      cases h2 : certsS q (b.drop k1) with
      | error e => simp [h1, h2] at h
      | ok p =>
        obtain ⟨cs', k2⟩ := p
        simp [h1, h2] at h
        have l1 := cert_len h1
        have l2 := certs_len q _ h2
        rw [List.length_drop] at l2
        omega
theorem certs_ext (m : List Int) : ∀ (q : Nat) (b : List Int) {cs : List CertT} {k : Nat}, certsS q b = .ok (cs, k) → certsS q (b ++ m) = .ok (cs, k)
  | 0, b, cs, k, h => h
  | q + 1, b, cs, k, h => by
    unfold certsS at h ⊢
    cases h1 : certS b with
    | error e => simp [h1] at h
    | ok p =>
      obtain ⟨c, k1⟩ := p
      have l1 := cert_len h1
      rw [cert_ext h1]
      simp only
      rw [drop_ext l1]
      cases h2 : certsS q (b.drop k1) with
      | error e => simp [h1, h2] at h
      | ok p =>
        obtain ⟨cs', k2⟩ := p
        rw [certs_ext m q _ h2]
        simp only [h1, h2] at h ⊢
        exact h

/-! ### places of what can't be read -/
theorem pairs_place : ∀ (q : Nat) (b : List Int) {e : Nat}, pairsS q b = .error e → e ≤ b.length
  | 0, b, e, h => by simp [pairsS] at h
  | q + 1, b, e, h => by
    unfold pairsS at h
    cases h1 : groupsS 2147483647 b with
    | none => simp [h1] at h; omega
    | some p =>
      obtain ⟨f, k1⟩ := p
      have l1 := (gr_len h1).2.1
      cases h2 : groupsS 2147483647 (b.drop k1) with
      | none => simp [h1, h2] at h; omega
      | some p =>
        obtain ⟨p, k2⟩ := p
        have l2 := (gr_len h2).2.1
        rw [List.length_drop] at l2
        cases h3 : pairsS q (b.drop (k1 + k2)) with
        | error e2 =>
          simp [h1, h2, h3] at h
          have := pairs_place q _ h3
          rw [List.length_drop] at this
          omega
        | ok p =>
          obtain ⟨⟨fs, ps⟩, k3⟩ := p
          simp [h1, h2, h3] at h
theorem cert_place {b : List Int} {e : Nat} (h : certS b = .error e) : e ≤ b.length := by
  unfold certS at h
  cases h1 : numS b with
  | none => simp [h1] at h; omega
  | some p =>
    obtain ⟨n, k1⟩ := p
    have l1 := (numS_len h1).2
    cases h2 : numS (b.drop k1) with
    | none => simp [h1, h2] at h; omega
    | some p =>
      obtain ⟨n2, k2⟩ := p
      have l2 := (numS_len h2).2
      rw [List.length_drop] at l2
      cases h3 : groupsS 64 (b.drop (k1 + k2)) with
      | none => simp [h1, h2, h3] at h; omega
      | some p =>
        obtain ⟨q, k3⟩ := p
        have l3 := (gr_len h3).2.1
        rw [List.length_drop] at l3
        cases h4 : pairsS q.toNat (b.drop (k1 + k2 + k3)) with
        | error e2 =>
          simp [h1, h2, h3, h4] at h
          have := pairs_place _ _ h4
          rw [List.length_drop] at this
          omega
        | ok p =>
          obtain ⟨⟨fs, ps⟩, k4⟩ := p
          simp [h1, h2, h3, h4] at h
theorem certs_place : ∀ (q : Nat) (b : List Int) {e : Nat}, certsS q b = .error e → e ≤ b.length
  | 0, b, e, h => by simp [certsS] at h
  | q + 1, b, e, h => by
    unfold certsS at h
    cases h1 : certS b with
    | error e2 =>
      simp [h1] at h
      have := cert_place h1
      omega
    | ok p =>
      obtain ⟨c, k1⟩ := p
      have l1 := cert_len h1
      cases h2 : certsS q (b.drop k1) with
      | error e2 =>
        simp [h1, h2] at h
        have := certs_place q _ h2
        rw [List.length_drop] at this
        omega
      | ok p =>
        obtain ⟨cs', k2⟩ := p
        simp [h1, h2] at h
theorem read_place {b : List Int} {e : Nat} (h : readS b = .error e) : e ≤ b.length := by
  unfold readS at h
  cases h1 : groupsS 64 b with
  | none => simp [h1] at h; omega
  | some p =>
    obtain ⟨q, k⟩ := p
    have l1 := (gr_len h1).2.1
    cases h2 : certsS q.toNat (b.drop k) with
    | error e2 =>
      simp [h1, h2] at h
      have := certs_place _ _ h2
      rw [List.length_drop] at this
      omega
    | ok p =>
      obtain ⟨cs, k2⟩ := p
      simp only [h1, h2] at h
      split at h
      · injection h with h
        omega
      · cases h

/-! ### what is put is got -/
theorem gr_back (most : Int) (m : List Int) : ∀ (f r i n acc : Nat), n < 128 ^ f → n < 128 ^ r → 0 < r → 0 < f → (i = 0 ∨ 0 < n) → ((acc + n * 2 ^ (7 * i) : Nat) : Int) ≤ most →
    gr most r i (acc : Int) (grp f n ++ m) = some (((acc + n * 2 ^ (7 * i) : Nat) : Int), i + (grp f n).length)
  | f + 1, r + 1, i, n, acc, hf, hr, _, _, hi, hm => by
    by_cases h : 128 ≤ n
    · have hf0 : 0 < f := by
        rcases Nat.eq_zero_or_pos f with rfl | h'
        · simp at hf; omega
        · exact h'
      have hr0 : 0 < r := by
        rcases Nat.eq_zero_or_pos r with rfl | h'
        · simp at hr; omega
        · exact h'
      have e0 : (n % 128) * 2 ^ (7 * i) + (n / 128) * 2 ^ (7 * (i + 1)) = n * 2 ^ (7 * i) := by
        rw [show 7 * (i + 1) = 7 * i + 7 by omega, Nat.pow_add, ← Nat.mul_assoc, Nat.mul_right_comm, ← Nat.add_mul]
        congr 1
        omega
      have e1 : acc + (n + 0) % 128 * 2 ^ (7 * i) + n / 128 * 2 ^ (7 * (i + 1)) = acc + n * 2 ^ (7 * i) := by rw [Nat.add_zero, Nat.add_assoc, e0]
      simp only [grp]
      rw [if_pos h, List.cons_append, gr_cons most r i acc (n % 128 + 128) (acc + (n + 0) % 128 * 2 ^ (7 * i)) _ (by congr 2; omega), if_pos (by omega), gr_back most m f r (i + 1) (n / 128) _ (pw f n hf) (pw r n hr) hr0 hf0 (.inr (by omega)) (by rw [e1]; exact hm), e1]
      simp only [List.length_cons]
      congr 2
      omega
    · simp only [grp]
      rw [if_neg h, List.cons_append, gr_cons most r i acc n (acc + n * 2 ^ (7 * i)) _ (by rw [Nat.mod_eq_of_lt (by omega)]), if_neg h, if_neg (fun hc => hc.elim (fun h1 => by omega) (fun h1 => by omega))]
      simp
theorem groups_back (most : Int) (n : Nat) (m : List Int) (h : (n : Int) ≤ most) (h2 : n < 34359738368) : groupsS most (grpS n ++ m) = some ((n : Int), (grpS n).length) := by
  have := gr_back most m 10 5 0 n 0 (Nat.lt_of_lt_of_le h2 (by decide)) (Nat.lt_of_lt_of_le h2 (by decide)) (by decide) (by decide) (.inl rfl) (by simpa using h)
  simpa [groupsS, grpS] using this
theorem w8_bF (u : Nat) (m : List Int) (h : u < 18446744073709551616) : w8 (bF 8 u ++ m) 8 = u := by
  obtain ⟨u1, h1⟩ : ∃ x, u / 256 = x := ⟨_, rfl⟩
  obtain ⟨u2, h2⟩ : ∃ x, u1 / 256 = x := ⟨_, rfl⟩
  obtain ⟨u3, h3⟩ : ∃ x, u2 / 256 = x := ⟨_, rfl⟩
  obtain ⟨u4, h4⟩ : ∃ x, u3 / 256 = x := ⟨_, rfl⟩
  obtain ⟨u5, h5⟩ : ∃ x, u4 / 256 = x := ⟨_, rfl⟩
  obtain ⟨u6, h6⟩ : ∃ x, u5 / 256 = x := ⟨_, rfl⟩
  obtain ⟨u7, h7⟩ : ∃ x, u6 / 256 = x := ⟨_, rfl⟩
  have e : bF 8 u = [((u % 256 : Nat) : Int), ((u1 % 256 : Nat) : Int), ((u2 % 256 : Nat) : Int), ((u3 % 256 : Nat) : Int), ((u4 % 256 : Nat) : Int), ((u5 % 256 : Nat) : Int), ((u6 % 256 : Nat) : Int), ((u7 % 256 : Nat) : Int)] := by
    simp only [bF, h1, h2, h3, h4, h5, h6, h7]
  rw [e]
  simp only [w8, List.cons_append, List.getD_cons_zero, List.getD_cons_succ, Nat.sub_self, Nat.reduceSub, Int.toNat_natCast]
  omega
theorem words_back : ∀ (l : List Int) (m : List Int), okL64 l → words l.length (limbsS l ++ m) = l
  | [], m, h => rfl
  | u :: l, m, h => by
    have hu := h u (by simp)
    simp only [List.length_cons, words, limbsS_cons, List.append_assoc]
    rw [w8_bF u.toNat _ (by omega), List.drop_append_of_le_length (by rw [bF_len]; exact Nat.le_refl _), List.drop_of_length_le (by rw [bF_len]; exact Nat.le_refl _), List.nil_append, words_back l m (fun x hx => h x (by simp [hx]))]
    congr 1
    omega
theorem num_back (s : Bool) (l m : List Int) (hl : okL64 l) (hr : rightB s l = true) : numS (numberS s l ++ m) = some ((s, l), (numberS s l).length) := by
  have h4 := right_len hr
  have hb := Bool.toNat_le s
  have hg := groups_back 8193 (2 * l.length + s.toNat) (limbsS l ++ m) (by omega) (by omega)
  have e1 : (2 * l.length + s.toNat) / 2 = l.length := by omega
  have e2 : ((2 * l.length + s.toNat) % 2 == 1) = s := by
    cases s
    · simp
    · simp
  have e3 : numberS s l ++ m = grpS (2 * l.length + s.toNat) ++ (limbsS l ++ m) := by simp [numberS]
  have e4 : (numberS s l).length = (grpS (2 * l.length + s.toNat)).length + l.length * 8 := by simp only [numberS, List.length_append, limbsS_len]; omega
  have e5 : ((grpS (2 * l.length + s.toNat) ++ (limbsS l ++ m)).drop (grpS (2 * l.length + s.toNat)).length).take (l.length * 8) = limbsS l := by
    rw [List.drop_left, List.take_append_of_le_length (by rw [limbsS_len]; omega), List.take_of_length_le (by rw [limbsS_len]; omega)]
  have e6 : words l.length (limbsS l) = l := by simpa using words_back l [] hl
  unfold numS
  rw [e3, hg]
  simp only [Int.toNat_natCast, e1, e2, e5, e6, e4]
  rw [if_neg (by simp only [List.length_append, limbsS_len]; omega), if_pos hr]
def fromS (c : S61) : CertT := ((c.f0.f0, c.f0.f1), (c.f1.f0, c.f1.f1), c.f2, c.f3)
theorem to_from (c : S61) : toS (fromS c) = c := rfl
theorem from_to (c : CertT) : fromS (toS c) = c := rfl
theorem pairs_back : ∀ (fs ps m : List Int), fs.length = ps.length → inB fs ps = true → pairsS fs.length (pairsB fs ps ++ m) = .ok ((fs, ps), (pairsB fs ps).length)
  | [], [], m, _, _ => rfl
  | [], _ :: _, m, h, _ => by simp at h
  | _ :: _, [], m, h, _ => by simp at h
  | f :: fs, p :: ps, m, h, hb => by
    simp only [inB, Bool.and_eq_true] at hb
    have b1 := in31_b hb.1.1
    have b2 := in31_b hb.1.2
    obtain ⟨f, rfl⟩ : ∃ n : Nat, f = (n : Int) := ⟨f.toNat, by omega⟩
    obtain ⟨p, rfl⟩ : ∃ n : Nat, p = (n : Int) := ⟨p.toNat, by omega⟩
    have g1 := groups_back 2147483647 f (grpS p ++ (pairsB fs ps ++ m)) (by omega) (by omega)
    have g2 := groups_back 2147483647 p (pairsB fs ps ++ m) (by omega) (by omega)
    have ih := pairs_back fs ps m (by simpa using h) hb.2
    have e1 : pairsB ((f : Int) :: fs) ((p : Int) :: ps) ++ m = grpS f ++ (grpS p ++ (pairsB fs ps ++ m)) := by simp [pairsB]
    have e2 : (grpS f ++ (grpS p ++ (pairsB fs ps ++ m))).drop ((grpS f).length + (grpS p).length) = pairsB fs ps ++ m := by
      rw [← List.drop_drop, List.drop_left, List.drop_left]
    rw [e1]
    simp only [List.length_cons, pairsS, g1, List.drop_left, g2, e2, ih]
    simp [pairsB, Nat.add_assoc]
theorem cert_back (c : S61) (m : List Int) (hc : okCert c) (hm : mayS c = true) : certS (certB c ++ m) = .ok (fromS c, (certB c).length) := by
  obtain ⟨h1, h2, h3, h4, h5⟩ := may_facts hm
  have a1 := num_back c.f0.f0 c.f0.f1 (numberS c.f1.f0 c.f1.f1 ++ (grpS c.f2.length ++ (pairsB c.f2 c.f3 ++ m))) hc.1.1 h1
  have a2 := num_back c.f1.f0 c.f1.f1 (grpS c.f2.length ++ (pairsB c.f2 c.f3 ++ m)) hc.2.1.1 h2
  have a3 := groups_back 64 c.f2.length (pairsB c.f2 c.f3 ++ m) (by omega) (by omega)
  have a4 := pairs_back c.f2 c.f3 m h4 h5
  have e1 : certB c ++ m = numberS c.f0.f0 c.f0.f1 ++ (numberS c.f1.f0 c.f1.f1 ++ (grpS c.f2.length ++ (pairsB c.f2 c.f3 ++ m))) := by simp [certB]
  have e2 : ∀ a b c d : List Int, (a ++ (b ++ c)).drop (a.length + b.length) = c := fun a b c d => by rw [← List.drop_drop, List.drop_left, List.drop_left]
  have e3 : ∀ a b c d : List Int, (a ++ (b ++ (c ++ d))).drop (a.length + b.length + c.length) = d := fun a b c d => by rw [← List.drop_drop, ← List.drop_drop, List.drop_left, List.drop_left, List.drop_left]
  rw [e1]
  unfold certS
  rw [a1]
  simp only [List.drop_left]
  rw [a2]
  simp only
  rw [e2 _ _ _ [], a3]
  simp only [Int.toNat_natCast]
  rw [e3, a4]
  simp [fromS, certB, Nat.add_assoc]
def flatB : List S61 → List Int
  | [] => []
  | c :: l => certB c ++ flatB l
theorem certs_back : ∀ (l : List S61) (m : List Int), (∀ c ∈ l, okCert c) → (∀ c ∈ l, mayS c = true) → certsS l.length (flatB l ++ m) = .ok (l.map fromS, (flatB l).length)
  | [], m, _, _ => rfl
  | c :: l, m, h, hm => by
    have a1 := cert_back c (flatB l ++ m) (h c (by simp)) (hm c (by simp))
    have a2 := certs_back l m (fun x hx => h x (by simp [hx])) (fun x hx => hm x (by simp [hx]))
    simp only [List.length_cons, flatB, List.append_assoc, certsS]
    rw [a1]
    simp only [List.drop_left]
    rw [a2]
    simp
theorem certsK_may : ∀ (l : List S61) (out : List Int), (certsK out l).2 = 0 → (∀ c ∈ l, mayS c = true) ∧ certsK out l = (out ++ flatB l, 0)
  | [], out, h => by simp [certsK, flatB]
  | c :: l, out, h => by
    simp only [certsK] at h ⊢
    by_cases hc : mayS c = true
    · rw [if_pos hc] at h ⊢
      have ih := certsK_may l _ h
      refine ⟨fun x hx => ?_, by rw [ih.2]; simp [flatB]⟩
      rcases List.mem_cons.1 hx with rfl | hx
      · exact hc
      · exact ih.1 x hx
    · rw [if_neg hc] at h
      simp at h
/-- Certificates whose bytes are told. -/
theorem certsT_ok {l : List S61} (h : (certsT l).2 = 0) : l.length ≤ 64 ∧ (∀ c ∈ l, mayS c = true) ∧ certsT l = (grpS l.length ++ flatB l, 0) := by
  unfold certsT at h ⊢
  by_cases h1 : 64 < l.length
  · rw [if_pos h1] at h
    simp at h
  · rw [if_neg h1] at h ⊢
    have := certsK_may l _ h
    exact ⟨by omega, this.1, this.2⟩
theorem read_back {l : List S61} (hl : ∀ c ∈ l, okCert c) (h : (certsT l).2 = 0) (m : List Int) : groupsS 64 ((certsT l).1 ++ m) = some ((l.length : Int), (grpS l.length).length) ∧ certsS l.length (((certsT l).1 ++ m).drop (grpS l.length).length) = .ok (l.map fromS, (flatB l).length) ∧ (certsT l).1.length = (grpS l.length).length + (flatB l).length := by
  obtain ⟨h1, h2, h3⟩ := certsT_ok h
  rw [h3]
  simp only [List.append_assoc, List.length_append]
  refine ⟨groups_back 64 l.length _ (by omega) (by omega), ?_, trivial⟩
  rw [List.drop_left]
  exact certs_back l m hl h2
end Go.Proofs.Ytoheamfnddfgkaa.St
