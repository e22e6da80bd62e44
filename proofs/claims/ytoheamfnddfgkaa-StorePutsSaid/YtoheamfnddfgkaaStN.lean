/- store: Read's closure. -/
import Derived.Test.YtoheamfnddfgkaaStL
namespace Go.Proofs.Ytoheamfnddfgkaa.St
open Go.RowKit Go.Proofs.YtoheamfnddfgkaaW.PrintWords Go.Proofs.YtoheamfnddfgkaaW.PrintLast Go.Proofs.YtoheamfnddfgkaaW.PrintMore
set_option linter.unusedVariables false
set_option linter.unusedSimpArgs false

/-- What comes of Read's closure. -/
def ReadsN (w0 : World) (g gl : Nat) (w : World) (r : Except Nat (List CertT)) (e : Ending) (w' : World) : Prop :=
  Aside0 (Below w0.heap.size w0 w') ∧ Aside0 (KeepBut w w' g (some gl)) ∧
  match r with
  | .ok l => e = .returned (.tuple #[]) ∧ ∃ v, Aside0 (Kd.S PB.k61 61 w' w0.heap.size (fun k => w.heap.size ≤ k) v (l.map toS)) ∧ Aside0 (w'.heap[gl]? = some (.cells #[v] 35 (0, 0)))
  | .error p => e = .panicked [{ v := .iface 79 (.int .i64 (p : Int)), recovered := false }]

theorem readsN_error {w0 w w' : World} {g gl p q : Nat} (hb : Below w0.heap.size w0 w') (hk : KeepBut w w' g (some gl)) (h : p = q) : ReadsN w0 g gl w (.error p) (.panicked [{ v := .iface 79 (.int .i64 (q : Int)), recovered := false }]) w' := by
  subst h
  exact ⟨⟨hb⟩, ⟨hk⟩, rfl⟩

set_option maxRecDepth 100000 in
set_option maxHeartbeats 4000000 in
theorem read1_c (w0 : World) (g gr gs gl : Nat) (A : Option Addr) (c : Nat) (b : List Int) (w : World) (hr : RL w0 w g gr gs gl A c b 0 (.slice none 0 0) [] w) (hB : RB w0 g gr gs gl A b w) (ho : okB b) (hn : b.length ≤ 4611686018427387904) (hc : b.length ≤ c) :
    Calls Try.prog 47 #[.pointer (some ⟨gr, 0, none⟩), .pointer (some ⟨gl, 0, none⟩), .pointer (some ⟨gs, 0, none⟩)] w (ReadsN w0 g gl w (readS b)) := by
  have hu := Try.underlying70
  have hu61 := Try.underlying61
  have HR := Aside0.mk hr
  have HBB := Aside0.mk hB
  have HO := Aside0.mk ho
  have cr0 := (blk_cell hr.br 0).trans rfl
  clear hr hB ho
  obtain ⟨Z, hZ⟩ : ∃ Z, readS b = Z := ⟨_, rfl⟩
  have HZ := Aside0.mk hZ
  rw [hZ]
  clear hZ
  go_enter Try.func47, Try.ntmps47
  go_wp2_with fail
  refine (groups_c w0 g A c b 0 w 64 HR.out.rs (Nat.zero_le _) HO.out hn hc (by decide)).mono ?_
  intro e w2 h2
  rw [List.drop_zero] at h2
  cases hg : groupsS 64 b with
  | none =>
    rw [hg] at h2
    obtain ⟨rfl, ⟨yy, hyy⟩, hk⟩ := h2
    obtain rfl := HZ.out.symm.trans (read_e1 hg)
    exact ⟨rfl, ⟨hyy.hb⟩, ⟨keepTo hk.out _⟩, rfl⟩
  | some p =>
    obtain ⟨q, X0⟩ := p
    rw [hg] at h2
    obtain ⟨rfl, hr2, hk2⟩ := h2
    rw [Nat.zero_add] at hr2
    have HR2 := Aside0.mk (RL.call HBB.out HR.out hk2.out hr2.out).1
    clear hr2 hk2
    have hq := gr_val (l := b) (by decide) HO.out hg
    obtain ⟨Q, rfl⟩ : ∃ Q : Nat, q = (Q : Int) := ⟨q.toNat, by omega⟩
    have hQ : Q ≤ 64 := by omega
    have hX0 : X0 ≤ b.length := by have := (gr_len hg).2.1; omega
    have HZe : Aside0 (∀ e, certsS Q (b.drop X0) = .error e → Z = .error (X0 + e)) := ⟨fun e he => HZ.out.symm.trans (read_e2 hg (by simpa using he))⟩
    have HZl : Aside0 (∀ cs k2, certsS Q (b.drop X0) = .ok (cs, k2) → X0 + k2 < b.length → Z = .error (X0 + k2)) := ⟨fun cs k2 he hl => HZ.out.symm.trans (read_e3 hg (by simpa using he) hl)⟩
    have HZo : Aside0 (∀ cs k2, certsS Q (b.drop X0) = .ok (cs, k2) → ¬ X0 + k2 < b.length → Z = .ok cs) := ⟨fun cs k2 he hl => HZ.out.symm.trans (read_ok hg (by simpa using he) hl)⟩
    clear HZ hq hg cr0
    go_wp2_with fail
    go_loopw [5] (fun v5 wr => ∃ (i y d : Nat) (xs : List CertT) (u : Value), v5 = .int .i64 (i : Int) ∧ i ≤ Q ∧ Aside0 (y = X0 + d) ∧ y ≤ b.length ∧ Aside0 (xs.length = i) ∧ Aside0 (certsS Q (b.drop X0) = addC d xs (certsS (Q - i) (b.drop y))) ∧ Aside0 (RL w0 w g gr gs gl A c b y u xs wr)) (fun v5 _ => Q - (intOf v5).toNat)
    case atStart => exact ⟨0, X0, 0, [], .slice none 0 0, rfl, Nat.zero_le _, ⟨rfl⟩, hX0, ⟨rfl⟩, ⟨(certs_start _).symm⟩, HR2⟩
    case round =>
      clear HR2 HR
      obtain ⟨i, y, d, xs, u, rfl, hi, HY, hy, HXL, HPS, HRL⟩ := hrel
      obtain ⟨B1, d1, e1⟩ := Kd.S_slice HRL.out.sl
      obtain ⟨m1, hm1⟩ : ∃ t, (xs.map toS).length = t := ⟨_, rfl⟩
      rw [hm1] at e1
      clear hm1
      subst e1
      have cl0 := (blk_cell HRL.out.bl 0).trans rfl
      have cr0 := (blk_cell HRL.out.br 0).trans rfl
      by_cases hiq : i = Q
      · subst hiq
        have hps := HPS.out
        rw [Nat.sub_self, certs_zero] at hps
        have cs0 := (blk_cell HRL.out.bs 0).trans rfl
        have cg1 := (blk_cell HRL.out.rs.blk 1).trans rfl
        by_cases hlt : y < b.length
        · obtain rfl := HZl.out _ _ hps (by have := HY.out; omega)
          have hlt1 : decide ((y : Int) < (b.length : Int)) = true := decide_eq_true (by omega)
          have hpl : ((X0 + d : Nat) : Int) = (y : Int) := by have := HY.out; omega
          clear hps
          go_wp2
          go_quiet (fail)
          go_wp2
          exact ⟨rfl, readsN_error (pw_below_drewN HRL.out.rs.hb _) (keep_drewN HRL.out.kp _) (by have := HY.out; omega)⟩
        · obtain rfl := HZo.out _ _ hps (by have := HY.out; omega)
          have hlt1 : decide ((y : Int) < (b.length : Int)) = false := decide_eq_false (by omega)
          clear hps
          go_wp2
          go_quiet (fail)
          go_wp2
          exact bodyPost_ret (results_none rfl _ _ _) rfl ⟨⟨pw_below_drewN HRL.out.rs.hb _⟩, ⟨keep_drewN HRL.out.kp _⟩, rfl, _, ⟨Kd.S_drewN HRL.out.sl _⟩, ⟨HRL.out.bl⟩⟩
      · have g1 : i < Q := by omega
        obtain ⟨M, hM⟩ : ∃ M, Q - i = M + 1 := ⟨Q - i - 1, by omega⟩
        have HMM := Aside0.mk hM
        rw [hM] at HPS
        clear hM
        go_wp2_with fail
        refine start_ (n := 6) (S := fun w' => w'.cell? ⟨gl, 0, none⟩ = some (.slice B1 m1 d1) ∧ w'.cell? ⟨gr, 0, none⟩ = some (.pointer (some ⟨g, 0, none⟩))) (ds := [5]) #[false, false, false, false, false, false] (by kernel_rfl) rfl rfl ⟨cl0, cr0⟩ (fun hHeld => ?_)
        have HD := Aside0.mk (show RL w0 w g gr gs gl A c b y (.slice B1 m1 d1) xs wr.drew from HRL.out.drewN 1)
        clear HRL cl0 cr0
        generalize wr.drew = WD at HD hHeld ⊢
        refine take_ (i := 0) (N := some 7) (v := ?_) (a' := ?_) #[true, false, false, false, false, false] rfl rfl (by kernel_rfl) (fun _ _ _ h => h) (Or.inl ⟨by rfl, ?_⟩) hHeld ?_ ?_
        rotate_left
        · rintro w' ⟨s0, s1⟩
          go_simp
          with_reducible rfl
        rotate_left
        · simp only [Act.put, List.setIfInBounds_toArray, List.set_cons_zero, List.set_cons_succ, i64_w, i32_w]
          rfl
        refine take_ (i := 1) (N := some 8) (v := ?_) (a' := ?_) #[true, true, false, false, false, false] rfl rfl (by kernel_rfl) (fun _ _ _ h => h) (Or.inl ⟨by rfl, ?_⟩) hHeld ?_ ?_
        rotate_left
        · rintro w' ⟨s0, s1⟩
          go_simp
          with_reducible rfl
        rotate_left
        · simp only [Act.put, List.setIfInBounds_toArray, List.set_cons_zero, List.set_cons_succ, i64_w, i32_w]
          rfl
        refine one_ (i := 2) (N := some 9) #[true, true, true, false, false, false] rfl rfl (by kernel_rfl) (by decide) (fun K hK => ?_)
        cases hq : certS (b.drop y) with
        | error pe =>
          refine callp_ Try.func49 (by kernel_rfl) rfl #[.pointer (some ⟨g, 0, none⟩)] (by rfl) rfl (by (try simp only [List.map_toArray, List.map_cons, List.map_nil]); first | done | rfl) ?_
          refine (cert_c w0 g A c b y WD HD.out.rs hy HO.out hn hc).mono ?_
          intro e w7 h7
          rw [hq] at h7
          obtain ⟨rfl, ⟨yy, hyy⟩, hk7⟩ := h7
          refine ⟨_, rfl, ?_⟩
          obtain rfl := HZe.out _ (HPS.out.trans (certs_err hq M d xs))
          exact ⟨rfl, readsN_error hyy.hb (HD.out.kp.trans (keepTo hk7.out _) (.inl rfl)) (by have := HY.out; omega)⟩
        | ok p =>
          obtain ⟨ct, k⟩ := p
          refine goes_ Try.func49 (by kernel_rfl) rfl #[.pointer (some ⟨g, 0, none⟩)] (by rfl) rfl rfl (by (try simp only [List.map_toArray, List.map_cons, List.map_nil]); first | done | rfl) ?_
          refine (cert_c w0 g A c b y WD HD.out.rs hy HO.out hn hc).mono ?_
          intro e w7 h7
          rw [hq] at h7
          obtain ⟨⟨s1, l1⟩, ⟨s2, l2⟩, fs, ps⟩ := ct
          obtain ⟨v1, v2, u1, u2, rfl, h1, h2, h3, h4, hr7, hk7⟩ := h7
          refine ⟨_, rfl, ?_⟩
          obtain ⟨hL7, hS7⟩ := RL.call HBB.out HD.out hk7.out hr7.out
          have HL7 := Aside0.mk hL7
          have HS7 := Aside0.mk hS7
          have HD7 := Aside0.mk (Kd.S_lt HD.out.sl)
          have HDW := Aside0.mk HD.out.kp.1
          clear hL7 hS7 hk7 hr7 HD
          have HM := Aside0.mk (cert_mkM (ct := ((s1, l1), (s2, l2), fs, ps)) h1.out h2.out h3.out h4.out)
          have HV1 := Aside0.mk (show ∀ k, (some k = v1.ownBlock ∨ some k = v2.ownBlock ∨ some k = u1.ownBlock ∨ some k = u2.ownBlock) → WD.heap.size ≤ k from fun k hk => hk.elim (fun e => (h1.out.1 k e.symm).1) (fun hk => hk.elim (fun e => (h2.out.1 k e.symm).1) (fun hk => hk.elim (fun e => (h3.out.1 k e.symm).1) (fun e => (h4.out.1 k e.symm).1))))
          obtain ⟨A1, c1, e1⟩ := Kd.R_slice h1.out
          obtain ⟨A2, c2, e2⟩ := Kd.R_slice h2.out
          obtain ⟨A3, c3, e3⟩ := Kd.R_slice h3.out
          obtain ⟨A4, c4, e4⟩ := Kd.R_slice h4.out
          have HW7 := Aside0.mk (show w.heap.size ≤ w7.heap.size from HL7.out.kp.1)
          clear h1 h2 h3 h4
          subst e1 e2 e3 e4
          refine hK.out _ _ ⟨(blk_cell HL7.out.bl 0).trans rfl, (blk_cell HL7.out.br 0).trans rfl⟩ (fun hHeld => ?_)
          clear hK K
          refine norm_ (a' := ?_) ?_ ?_
          rotate_left
          · show Act.put _ (some 9) _ = _
            simp only [Act.put, List.setIfInBounds_toArray, List.set_cons_zero, List.set_cons_succ, i64_w, i32_w]
            rfl
          refine one_ (i := 3) (N := some 10) #[true, true, true, true, false, false] rfl rfl (by kernel_rfl) (by decide) (fun K hK => ?_)
          refine value_ (w1 := ?_) (v := ?_) (by rfl) rfl ?_ ?_
          rotate_left 2
          · go_simp
            constructor
            · rfl
            · rfl
          refine hK.out _ _ ⟨(blk_cell (blk_alloc HL7.out.bl _) 0).trans rfl, (blk_cell (blk_alloc HL7.out.br _) 0).trans rfl⟩ (fun hHeld => ?_)
          clear hK K
          refine norm_ (a' := ?_) ?_ ?_
          rotate_left
          · show Act.put _ (some 10) _ = _
            simp only [Act.put, List.setIfInBounds_toArray, List.set_cons_zero, List.set_cons_succ, i64_w, i32_w]
            rfl
          refine one_ (i := 4) (N := some 11) #[true, true, true, true, true, false] rfl rfl (by kernel_rfl) (by decide) (fun K hK => ?_)
          refine Kd.S_append_step PB.k61 (w0 := w0) w0.heap.size (by rfl) (.tmp 7) (.tmp 10) 35 61 (.agg #[(.bool false), (.slice none 0 0), (.bool false), (.slice none 0 0), (.slice none 0 0), (.slice none 0 0)]) 112 rfl Try.underlying35 infoC rfl (by decide) (by omega) (.slice B1 m1 d1) (xs.map toS) (toS ((s1, l1), (s2, l2), fs, ps)) [.bool s1, .slice A1 l1.length c1, .bool s2, .slice A2 l2.length c2, .slice A3 fs.length c3, .slice A4 ps.length c4] (fun j => w.heap.size ≤ j) _ rfl rfl HM.out ?aK ?aF ?aO HL7.out.rs.hb HL7.out.rs.hb.size ?aL ?_
          (case aK => exact fun k hk => ⟨Nat.le_trans HDW.out (HV1.out k hk), fun e => by have h1 := HV1.out k hk; have h2 := HD7.out k e.symm; omega⟩)
          (case aF => exact fun k hk => Nat.le_trans HW7.out hk)
          (case aO => exact Kd.S_mono HS7.out (fun k hk => ⟨hk.1, fun e => by have h1 := HV1.out k e; omega⟩))
          (case aL => have := HXL.out; rw [List.length_map]; omega)
          intro u8 w8 hU hb8 hg8 hat8
          have hmap : xs.map toS ++ [toS ((s1, l1), (s2, l2), fs, ps)] = (xs ++ [((s1, l1), (s2, l2), fs, ps)]).map toS := by rw [List.map_append]; rfl
          rw [hmap] at hU
          have HL9 := Aside0.mk (RL.app HBB.out HL7.out hU hb8 hg8)
          have HX9 := Aside0.mk (blk_grown HL7.out.bl hg8 (fun e => by have h1 := HL7.out.sl; obtain ⟨f, hR⟩ := h1; have h2 := hR.1 gl e.symm; have h3 := HBB.out.h1.2.1; omega))
          have HR9 := Aside0.mk (blk_grown HL7.out.br hg8 (fun e => by have h1 := HL7.out.sl; obtain ⟨f, hR⟩ := h1; have h2 := hR.1 gr e.symm; have h3 := HBB.out.h1.2.2.1; omega))
          obtain ⟨Bn, dn, en⟩ := Kd.S_slice hU
          clear hU hb8 hg8 hat8 hmap HM HV1 HS7 HL7 HD7 HDW HW7
          subst en
          obtain ⟨mm, hmm⟩ : ∃ t, ((xs ++ [((s1, l1), (s2, l2), fs, ps)]).map toS).length = t := ⟨_, rfl⟩
          rw [hmm] at HL9 ⊢
          clear hmm
          refine hK.out _ _ ⟨(blk_cell HX9.out 0).trans rfl, (blk_cell HR9.out 0).trans rfl⟩ (fun hHeld => ?_)
          clear hK K
          refine norm_ (a' := ?_) ?_ ?_
          rotate_left
          · show Act.put _ (some 11) _ = _
            simp only [Act.put, List.setIfInBounds_toArray, List.set_cons_zero, List.set_cons_succ, i64_w, i32_w]
            rfl
          refine last_ (i := 5) (N := none) #[true, true, true, true, true, true] rfl rfl (by kernel_rfl) (by decide) (fun K hK => ?_)
          have fz := blk_frozen HX9.out 0
          have cz := (blk_cell HX9.out 0).trans rfl
          refine skip_ (w1 := ?_) (by rfl) rfl ?_ ?_
          rotate_left
          · go_simp
            rfl
          refine hK.out _ _ ?_
          clear hK K fz cz HX9 HR9
          refine done_ (by kernel_rfl) ?_
          generalize w8.setCell _ _ = W9 at HL9 ⊢
          have HPS2 := Aside0.mk (HPS.out.trans (certs_ok hq M d xs))
          rw [List.drop_drop] at HPS2
          have HLN := Aside0.mk (cert_len hq)
          rw [List.length_drop] at HLN
          obtain ⟨i1, hi1⟩ : ∃ i1, i + 1 = i1 := ⟨_, rfl⟩
          have HQM : Aside0 (Q - i1 = M) := ⟨by have := HMM.out; omega⟩
          have hw1 : wrap64 ((i : Int) + 1) = (i1 : Int) := by unfold wrap64; omega
          have HI := Aside0.mk hi1
          have HY2 := Aside0.mk hy
          clear hi1 hq hy hHeld
          go_wp2
          exact ⟨⟨i1, y + k, d + k, xs ++ [((s1, l1), (s2, l2), fs, ps)], _, by simp [← HI.out], by have := HI.out; omega, ⟨by have := HY.out; omega⟩, by have := HLN.out; have := HY2.out; omega, ⟨by rw [List.length_append, HXL.out]; exact HI.out⟩, ⟨by rw [HQM.out]; exact HPS2.out⟩, HL9⟩, by have := HI.out; simp [intOf]; omega⟩
end Go.Proofs.Ytoheamfnddfgkaa.St
