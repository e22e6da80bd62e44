/- poly: Divide. -/
import Derived.Test.YtplignahjhenjaaPoDp
import Derived.Test.YtplignahjhenjaaPoSh
namespace Go.Proofs.Ytplignahjhenjaa.Lb
open Go.RowKit Go.Proofs.YtplignahjhenjaaW.PrintWords Go.Proofs.YtplignahjhenjaaW.PrintLast Go.Proofs.YtplignahjhenjaaW.PrintMore
open Go.Proofs.Ytplignahjhenjaa.Po (trm trm_of_tight tight_trm trm_len tight_iff ev dinner dinner_len dv)
set_option linter.unusedVariables false
set_option linter.unusedSimpArgs false

theorem OB.farO {w : World} {g g' : Nat} {zs ys : List Int} (h : OB w g zs) (h' : OB w g' ys) (j : Nat) (hj : j < ys.length) (hne : g ≠ g') (u v : Value) : OB ((w.setCell ⟨g', j * 2, none⟩ u).setCell ⟨g', j * 2 + 1, none⟩ v) g zs := by
  obtain ⟨B, d, c0, c1, _⟩ := h'.at_ j hj
  obtain ⟨cs, hb, hs⟩ := h.blk
  refine ⟨⟨cs, ?_, hs⟩, fun k hk => ?_⟩
  · rw [Below.heap_setCell _ _ _ _ (by exact hne), Below.heap_setCell _ _ _ _ (by exact hne)]
    exact hb
  · obtain ⟨B1, d1, a0, a1, r⟩ := h.at_ k hk
    refine ⟨B1, d1, ?_, ?_, ?_⟩
    · rw [World.cell?_setCell_other _ _ _ _ (fun e => hne (congrArg Addr.block e).symm), World.cell?_setCell_other _ _ _ _ (fun e => hne (congrArg Addr.block e).symm)]
      exact a0
    · rw [World.cell?_setCell_other _ _ _ _ (fun e => hne (congrArg Addr.block e).symm), World.cell?_setCell_other _ _ _ _ (fun e => hne (congrArg Addr.block e).symm)]
      exact a1
    · refine (r.setb c0 (noLimb_bool _) _).setb (v := .slice B (lm (ys.getD j 0)).length d) ?_ (noLimb_slice _ _ _) _
      rw [World.cell?_setCell_other _ _ _ _ (by simp)]
      exact c1
theorem rep_set {L k I : Nat} {dl : List Int} (V : Int) (h : I + k + 1 = L) (hl : dl.length = k) : (List.replicate (L - k) (0 : Int) ++ dl).set I V = List.replicate (L - (k + 1)) 0 ++ V :: dl := by
  have e : L - k = I + 1 := by omega
  have e2 : L - (k + 1) = I := by omega
  rw [e, e2, List.replicate_succ', List.append_assoc, List.set_append_right _ _ (by simp)]
  simp
/-- What comes of a division: quotient and rest. -/
def OutD (w : World) (D R : List Int) (e : Ending) (w' : World) : Prop := ∃ A c A' c', e = .returned (.tuple #[.slice A D.length c, .slice A' R.length c', .int .i64 0]) ∧ D.length ≤ c ∧ R.length ≤ c' ∧ Aside0 (PL w' A D) ∧ Aside0 (PL w' A' R) ∧ Aside0 (Below w.heap.size w w')
theorem one_lm {t : Int} (ht : t.natAbs = 1) : lm t = [1] := lm_one (by omega) (by omega) t (by rw [ht]; rfl)
theorem one_cell {w : World} {A : Option Addr} {c : Nat} {t : Int} (h : RV w A c t) (ht : t.natAbs = 1) : ∃ ad, A = some ad ∧ w.cell? (ad.add 0) = some (.int .u64 1) := by
  have h1 := h.reads
  rw [one_lm ht] at h1
  obtain ⟨ad, e, hc⟩ := read_at h1 0 (by decide)
  exact ⟨ad, e, hc⟩
set_option maxRecDepth 100000 in
set_option maxHeartbeats 400000 in
theorem div_pz (p q : List Int) (n a b : Nat) (t : Int) (hp : ∀ x ∈ p, lim a x) (hq : ∀ x ∈ q, lim b x) (hb : b ≤ 22) (hn : q.length = n + 1) (htop : q.getD n 0 = t) (ht : t.natAbs = 1) (hlim : a + 24 * (b + 1) ≤ 4000) (hpl : p.length ≤ 24) (tp : Po.tight p) (tq : Po.tight q) (hnp : n < p.length) (A1 A2 : Option Addr) (c1 c2 : Nat) (hc2 : q.length ≤ c2) (w : World) (r1 : PL w A1 p) (r2 : PL w A2 q) :
    Calls Try.prog 28 #[.slice A1 p.length c1, .slice A2 q.length c2] w (OutD w (trm (dst t q n (p.length - n) p).1) (trm ((dst t q n (p.length - n) p).2.take n))) := by
  have hu := Try.underlying25
  have hu60 := Try.underlying60
  have R1 := Aside0.mk r1
  have R2 := Aside0.mk r2
  have HP := Aside0.mk hp
  have HQ := Aside0.mk hq
  have HBB := Aside0.mk hb
  have HTO := Aside0.mk htop
  have HT := Aside0.mk ht
  have HLIM := Aside0.mk hlim
  have TP := Aside0.mk tp
  have TQ := Aside0.mk tq
  have hn25 : n ≤ 24 := by omega
  have HN := Aside0.mk hn
  have hqs : q.length ≤ 25 := by omega
  clear r1 r2 hp hq hb htop ht hlim tp tq hn
  go_enter Try.func28, Try.ntmps28
  go_wp2_with fail
  refine (right_pz p (fun z hz => lim_le (HP.out z hz) (by have := HLIM.out; omega)) (by omega) TP.out A1 c1 w R1.out).mono ?_
  rintro e w1 ⟨rfl, hB1⟩
  go_wp2_with fail
  refine (right_pz q (fun z hz => lim_le (HQ.out z hz) (by have := HLIM.out; have := HBB.out; omega)) (by omega) TQ.out A2 c2 w1 (R2.out.below hB1.out)).mono ?_
  rintro e w2 ⟨rfl, hB2⟩
  have HB2 : Aside0 (Below w.heap.size w w2) := ⟨hB1.out.trans (hB2.out.mono hB1.out.size)⟩
  clear hB1 hB2
  obtain ⟨ad, B, cc, rfl, h1, h2, HR⟩ := R2.out.get HB2.out n (by have := HN.out; omega)
  rw [HTO.out] at h1 h2 HR
  obtain ⟨bd, hBd, hb0⟩ := one_cell HR.out HT.out
  have hz0 : bd.add 0 = bd := by simp [Addr.add]
  rw [hz0] at hb0
  subst hBd
  have hl1 : (lm t).length = 1 := by rw [one_lm HT.out]; rfl
  rw [hl1] at h2
  have hqn : ((q.length : Int) == 0) = false := by have := HN.out; simp; intro h; rw [h] at this; simp at this
  have hni : (q.length : Int) - 1 = (n : Int) := by have := HN.out; omega
  have hnl : (n : Int) < (q.length : Int) := by have := HN.out; omega
  have HL1 := Aside0.mk hl1
  clear hl1 hz0
  have hb1 : (w2.alloc (.cells #[.bool (sg t), .slice (some bd) 1 cc] 25)).cell? bd = some (.int .u64 1) := pw_cell_below ((Below.refl _ _).alloc (Nat.le_refl _) _) hb0
  have hpn : ¬ (p.length ≤ n) := by omega
  go_wp2_with fail
  obtain ⟨g8, hg8⟩ : ∃ g8, w2.heap.size = g8 := ⟨_, rfl⟩
  obtain ⟨X, hX⟩ : ∃ X, w2.alloc (.cells #[.bool (sg t), .slice (some bd) 1 cc] 25) = X := ⟨_, rfl⟩
  have HBX : Aside0 (Below w.heap.size w X) := ⟨by rw [← hX]; exact HB2.out.alloc HB2.out.size _⟩
  have HTX : Aside0 (BV X g8 (some bd) cc t) := ⟨by
    rw [← hX, ← hg8]
    have := BV.new HR.out
    rwa [HL1.out] at this⟩
  have HG8 : Aside0 (w.heap.size ≤ g8) := ⟨by rw [← hg8]; exact HB2.out.size⟩
  rw [hX, hg8]
  clear hb0 hb1 h1 h2 hX hg8 HB2
  refine (copied_z p (fun z hz => lim_le (HP.out z hz) (by have := HLIM.out; omega)) (by omega) A1 c1 X (R1.out.below HBX.out)).mono ?_
  rintro e w3 ⟨gr, rfl, hge, HO3, hB3⟩
  have HB3 : Aside0 (Below w.heap.size w w3) := ⟨HBX.out.trans (hB3.out.mono HBX.out.size)⟩
  have HT3 : Aside0 (BV w3 g8 (some bd) cc t) := ⟨HTX.out.below hB3.out⟩
  have HGR : Aside0 (g8 < gr) := ⟨by have := HTX.out.cells.2.2; omega⟩
  clear hge hB3
  obtain ⟨L, hL⟩ : ∃ L, p.length - n = L := ⟨_, rfl⟩
  have hLi : (p.length : Int) - (n : Int) = (L : Int) := by omega
  have hmk := make_nums L (by omega)
  have HL := Aside0.mk hL
  clear hL
  go_wp2_with fail
  obtain ⟨gs, hgs⟩ : ∃ gs, w3.heap.size = gs := ⟨_, rfl⟩
  obtain ⟨Y, hY⟩ : ∃ Y, (w3.alloc (.cells #[.int .i64 0] 60)).alloc (.cells (madeCells #[.bool false, .slice none 0 0] (L * 2)) 25) = Y := ⟨_, rfl⟩
  have HBY : Aside0 (Below w3.heap.size w3 Y) := ⟨by rw [← hY]; exact ((Below.refl _ _).alloc (Nat.le_refl _) _).alloc (by simp) _⟩
  have HSY : Aside0 (SB Y gs) := ⟨by rw [← hY, ← hgs]; exact SB.below (w := w3.alloc (.cells #[.int .i64 0] 60)) (heap_alloc_new w3 _) ((Below.refl _ _).alloc (Nat.le_refl _) _)⟩
  have HDY : Aside0 (OB Y (gs + 1) (List.replicate L 0)) := ⟨by
    rw [← hY, ← hgs]
    have := OB.made (w3.alloc (.cells #[.int .i64 0] 60)) L
    simpa using this⟩
  have HRY : Aside0 (OB Y gr p) := ⟨HO3.out.below HBY.out⟩
  have HTY : Aside0 (BV Y g8 (some bd) cc t) := ⟨HT3.out.below HBY.out⟩
  have HBWY : Aside0 (Below w.heap.size w Y) := ⟨HB3.out.trans (HBY.out.mono HB3.out.size)⟩
  have HGS : Aside0 (gr < gs) := ⟨by rw [← hgs]; exact HO3.out.lt⟩
  rw [hY]
  first | rw [hgs] | skip
  clear hY hgs hmk
  have HST := Lib.hid (dst_len t q n p)
  go_loopw [12] (fun v12 wr => ∃ (k : Nat) (j : Int), v12 = .int .i64 j ∧ j = (L : Int) - (k : Int) - 1 ∧ k ≤ L ∧ Aside0 (OB wr (gs + 1) (List.replicate (L - k) 0 ++ (dst t q n k p).1)) ∧ Aside0 (OB wr gr (dst t q n k p).2) ∧ Aside0 (SB wr gs) ∧ Aside0 (BV wr g8 (some bd) cc t) ∧ Aside0 (Below w.heap.size w wr)) (fun v12 _ => (intOf v12 + 1).toNat)
  case atStart => exact ⟨0, _, rfl, by omega, by omega, ⟨by simpa [dst] using HDY.out⟩, HRY, HSY, HTY, HBWY⟩
  case round =>
    obtain ⟨k, j, rfl, hj, hk, HOD, HOR, HS, HV, HB⟩ := hrel
    rename World => wr
    by_cases hj0 : 0 ≤ j
    · obtain ⟨I, rfl⟩ : ∃ I : Nat, j = (I : Int) := ⟨j.toNat, by omega⟩
      have hIL : I + k + 1 = L := by omega
      have hIp : I + n < p.length := by omega
      have HIL := Aside0.mk hIL
      have hst : dst t q n (k + 1) p = ((t * (dst t q n k p).2.getD (I + n) 0) :: (dst t q n k p).1, dinner (t * (dst t q n k p).2.getD (I + n) 0) q I n (dst t q n k p).2) := by
        have hLp := HL.out
        rw [dst, show p.length - n - (k + 1) = I by omega]
      have hlim := dst_lim (n := n) HT.out HP.out HQ.out (by omega) k (by have := HL.out; omega)
      have hl1 := (HST.out k).1
      have hl2 := (HST.out k).2
      obtain ⟨dl, hdl⟩ : ∃ dl, (dst t q n k p).1 = dl := ⟨_, rfl⟩
      obtain ⟨R, hR⟩ : ∃ R, (dst t q n k p).2 = R := ⟨_, rfl⟩
      rw [hdl] at HOD hst hl1
      rw [hR] at HOR hst hlim hl2
      obtain ⟨K, hK⟩ : ∃ K, I + n = K := ⟨_, rfl⟩
      rw [hK] at hst hIp
      have hKi : (I : Int) + (n : Int) = (K : Int) := by omega
      have hKw : IntKind.i64.wrap (K : Int) = (K : Int) := by rw [IntKind.wrap_i64]; omega
      have hK0 : (0 : Int) ≤ (K : Int) := by omega
      have hKl : (K : Int) < (p.length : Int) := by omega
      have hIl : (I : Int) < (L : Int) := by omega
      have hDL : Aside0 ((List.replicate (L - k) (0 : Int) ++ dl).length = L) := ⟨by rw [List.length_append, List.length_replicate, hl1]; omega⟩
      have hRL : Aside0 (R.length = p.length) := ⟨hl2⟩
      obtain ⟨B1, d1, p0, p1, HR1, _, _⟩ := HOR.out.get (Below.refl _ _) K (by rw [hl2]; exact hIp)
      obtain ⟨t0, t1, _⟩ := HV.out.cells
      obtain ⟨B2, d2, y0, y1, HR2, _, _⟩ := HOD.out.get (Below.refl _ _) I (by rw [hDL.out]; omega)
      have lx := hlim K
      have HLM := Lib.hid hlim
      obtain ⟨x, hx⟩ : ∃ x, R.getD K 0 = x := ⟨_, rfl⟩
      rw [hx] at p0 p1 HR1 hst lx
      have lx2 : lim 4000 x := lim_le lx (by have := HLIM.out; have := HL.out; have : k * (b + 1) ≤ 23 * (b + 1) := Nat.mul_le_mul_right _ (by omega); omega)
      have CL1 := Lib.hid (fun W' (hW' : Below wr.heap.size wr W') => times_z t x (lim_le (k := 1) (by unfold lim; rw [HT.out]; decide) (by omega)) (lim_le lx2 (by omega)) (lim_le (lim_one HT.out lx2) (by omega)) (by rw [one_lm HT.out]; simp; omega) (some bd) B1 cc d1 gs W' (HS.out.below hW') (HV.out.rv.below hW') (HR1.out.below hW'))
      have lV := lim_one HT.out lx
      obtain ⟨V, hV⟩ : ∃ V, t * x = V := ⟨_, rfl⟩
      rw [hV] at CL1 hst lV
      have HSTT := Aside0.mk hst
      have HLV := Aside0.mk lV
      have HKK := Aside0.mk hK
      have HHJ := Aside0.mk hj
      obtain ⟨yy, hyy⟩ : ∃ yy, (List.replicate (L - k) (0 : Int) ++ dl).getD I 0 = yy := ⟨_, rfl⟩
      rw [hyy] at y0 y1
      have HHL := Aside0.mk hl1
      have HHK := Aside0.mk hk
      clear hst hl1 hl2 hdl hR hx hV hK hj lx lx2 lV hlim hyy hIL HR2
      go_upto_region 17 with fail
      -- REGION 17 (mkdw.py)
      refine start_ (n := 13) (S := fun w' => Below wr.heap.size wr w') (ds := [12]) #[false, false, false, false, false, false, false, false, false, false, false, false, false] (by kernel_rfl) rfl rfl (Below.refl _ _).drew (fun hHeld => ?_)
      generalize wr.drew = WD at hHeld ⊢
      refine pure_ (i := 0) (N := some 67) (v := ?_) (a' := ?_) #[true, false, false, false, false, false, false, false, false, false, false, false, false] rfl rfl (by kernel_rfl) (fun _ _ _ h => h) (Or.inl ⟨by rfl, ?_⟩) ?_ ?_
      rotate_left
      · intro w'
        go_simp
        with_reducible rfl
      rotate_left
      · simp only [Act.put, List.setIfInBounds_toArray, List.set_cons_zero, List.set_cons_succ, i64_w, i32_w]
        rfl
      refine pure_ (i := 1) (N := some 68) (v := ?_) (a' := ?_) #[true, true, false, false, false, false, false, false, false, false, false, false, false] rfl rfl (by kernel_rfl) (fun _ _ _ h => h) (Or.inl ⟨by rfl, ?_⟩) ?_ ?_
      rotate_left
      · intro w'
        go_simp
        with_reducible rfl
      rotate_left
      · simp only [Act.put, List.setIfInBounds_toArray, List.set_cons_zero, List.set_cons_succ, i64_w, i32_w]
        rfl
      refine pure_ (i := 2) (N := some 69) (v := ?_) (a' := ?_) #[true, true, true, false, false, false, false, false, false, false, false, false, false] rfl rfl (by kernel_rfl) (fun _ _ _ h => h) (Or.inl ⟨by rfl, ?_⟩) ?_ ?_
      rotate_left
      · intro w'
        go_simp
        with_reducible rfl
      rotate_left
      · simp only [Act.put, List.setIfInBounds_toArray, List.set_cons_zero, List.set_cons_succ, i64_w, i32_w]
        rfl
      refine take_ (i := 3) (N := some 70) (v := ?_) (a' := ?_) #[true, true, true, true, false, false, false, false, false, false, false, false, false] rfl rfl (by kernel_rfl) (fun _ _ _ h => h) (Or.inl ⟨by rfl, ?_⟩) hHeld ?_ ?_
      rotate_left
      · intro w' s0
        have e0 := pw_cell_below s0 t0
        have e1 := pw_cell_below s0 t1
        have e2 := pw_cell_below s0 p0
        have e3 := pw_cell_below s0 p1
        go_simp
        with_reducible rfl
      rotate_left
      · simp only [Act.put, List.setIfInBounds_toArray, List.set_cons_zero, List.set_cons_succ, i64_w, i32_w]
        rfl
      refine pure_ (i := 4) (N := some 71) (v := ?_) (a' := ?_) #[true, true, true, true, true, false, false, false, false, false, false, false, false] rfl rfl (by kernel_rfl) (fun _ _ _ h => h) (Or.inl ⟨by rfl, ?_⟩) ?_ ?_
      rotate_left
      · intro w'
        go_simp
        with_reducible rfl
      rotate_left
      · simp only [Act.put, List.setIfInBounds_toArray, List.set_cons_zero, List.set_cons_succ, i64_w, i32_w]
        rfl
      refine pure_ (i := 5) (N := some 72) (v := ?_) (a' := ?_) #[true, true, true, true, true, true, false, false, false, false, false, false, false] rfl rfl (by kernel_rfl) (fun _ _ _ h => h) (Or.inl ⟨by rfl, ?_⟩) ?_ ?_
      rotate_left
      · intro w'
        go_simp
        with_reducible rfl
      rotate_left
      · simp only [Act.put, List.setIfInBounds_toArray, List.set_cons_zero, List.set_cons_succ, i64_w, i32_w]
        rfl
      refine pure_ (i := 6) (N := some 73) (v := ?_) (a' := ?_) #[true, true, true, true, true, true, true, false, false, false, false, false, false] rfl rfl (by kernel_rfl) (fun _ _ _ h => h) (Or.inl ⟨by rfl, ?_⟩) ?_ ?_
      rotate_left
      · intro w'
        go_simp
        with_reducible rfl
      rotate_left
      · simp only [Act.put, List.setIfInBounds_toArray, List.set_cons_zero, List.set_cons_succ, i64_w, i32_w]
        rfl
      refine pure_ (i := 7) (N := some 74) (v := ?_) (a' := ?_) #[true, true, true, true, true, true, true, true, false, false, false, false, false] rfl rfl (by kernel_rfl) (fun _ _ _ h => h) (Or.inl ⟨by rfl, ?_⟩) ?_ ?_
      rotate_left
      · intro w'
        go_simp
        with_reducible rfl
      rotate_left
      · simp only [Act.put, List.setIfInBounds_toArray, List.set_cons_zero, List.set_cons_succ, i64_w, i32_w]
        rfl
      refine pure_ (i := 8) (N := some 75) (v := ?_) (a' := ?_) #[true, true, true, true, true, true, true, true, true, false, false, false, false] rfl rfl (by kernel_rfl) (fun _ _ _ h => h) (Or.inl ⟨by rfl, ?_⟩) ?_ ?_
      rotate_left
      · intro w'
        go_simp
        with_reducible rfl
      rotate_left
      · simp only [Act.put, List.setIfInBounds_toArray, List.set_cons_zero, List.set_cons_succ, i64_w, i32_w]
        rfl
      refine take_ (i := 9) (N := some 76) (v := ?_) (a' := ?_) #[true, true, true, true, true, true, true, true, true, true, false, false, false] rfl rfl (by kernel_rfl) (fun _ _ _ h => h) (Or.inl ⟨by rfl, ?_⟩) hHeld ?_ ?_
      rotate_left
      · intro w' s0
        have e0 := pw_cell_below s0 t0
        have e1 := pw_cell_below s0 t1
        have e2 := pw_cell_below s0 p0
        have e3 := pw_cell_below s0 p1
        go_simp
        with_reducible rfl
      rotate_left
      · simp only [Act.put, List.setIfInBounds_toArray, List.set_cons_zero, List.set_cons_succ, i64_w, i32_w]
        rfl
      refine one_ (i := 10) (N := some 77) #[true, true, true, true, true, true, true, true, true, true, true, false, false] rfl rfl (by kernel_rfl) (by decide) (fun K hK => ?_)
      refine goes_ Try.func43 (by kernel_rfl) rfl #[.pointer (some ⟨gs, 0, none⟩), .agg #[.bool (sg t), .slice (some bd) (lm t).length cc], .agg #[.bool (sg x), .slice B1 (lm x).length d1]] (by rfl) rfl rfl (by (try simp only [List.map_toArray, List.map_cons, List.map_nil]); first | done | rfl) ?_
      refine (CL1.out _ hHeld).mono ?_
      rintro e w4 ⟨B4, c4, rfl, HR4, hBw4⟩
      refine ⟨_, rfl, ?_⟩
      have HB4 : Aside0 (Below wr.heap.size wr w4) := ⟨hHeld.trans (hBw4.out.mono hHeld.size)⟩
      refine hK.out _ _ HB4.out ?_
      clear hHeld hK K
      intro hHeld
      refine norm_ (a' := ?_) ?_ ?_
      rotate_left
      · show Act.put _ (some 77) _ = _
        simp only [Act.put, List.setIfInBounds_toArray, List.set_cons_zero, List.set_cons_succ, i64_w, i32_w]
        rfl
      refine pure_ (i := 11) (N := some 78) (v := ?_) (a' := ?_) #[true, true, true, true, true, true, true, true, true, true, true, true, false] rfl rfl (by kernel_rfl) (fun _ _ _ h => h) (Or.inl ⟨by rfl, ?_⟩) ?_ ?_
      rotate_left
      · intro w'
        go_simp
        with_reducible rfl
      rotate_left
      · simp only [Act.put, List.setIfInBounds_toArray, List.set_cons_zero, List.set_cons_succ, i64_w, i32_w]
        rfl
      refine last_ (i := 12) (N := none) #[true, true, true, true, true, true, true, true, true, true, true, true, true] rfl rfl (by kernel_rfl) (by decide) (fun K hK => ?_)
      have z0 := pw_cell_below hHeld y0
      have z1 := pw_cell_below hHeld y1
      have zf0 := (HOD.out.below hHeld).frozen (I * 2)
      have zf1 := (HOD.out.below hHeld).frozen (I * 2 + 1)
      refine skip_ (w1 := ?_) (by rfl) rfl ?_ ?_
      rotate_left
      · go_simp
        rfl
      refine hK.out _ _ ?_
      clear hK K
      refine done_ (by kernel_rfl) ?_
      -- END 17
      have HB4' : Aside0 (Below w.heap.size w w4) := ⟨HB.out.trans (HB4.out.mono HB.out.size)⟩
      have hI2 : I < (List.replicate (L - k) (0 : Int) ++ dl).length := by rw [hDL.out]; omega
      obtain ⟨Z, hZ⟩ : ∃ Z, (w4.setCell ⟨gs + 1, I * 2, none⟩ (.bool (sg V))).setCell ⟨gs + 1, I * 2 + 1, none⟩ (.slice B4 (lm V).length c4) = Z := ⟨_, rfl⟩
      have HOD4 : Aside0 (OB Z (gs + 1) (List.replicate (L - (k + 1)) 0 ++ V :: dl)) := ⟨by
        rw [← hZ, ← rep_set V HIL.out HHL.out]
        exact (HOD.out.below HB4.out).set I hI2 HR4.out⟩
      have HOR4 : Aside0 (OB Z gr R) := ⟨by rw [← hZ]; exact (HOR.out.below HB4.out).farO (HOD.out.below HB4.out) I hI2 (by have := HGS.out; omega) _ _⟩
      have HV4 : Aside0 (BV Z g8 (some bd) cc t) := ⟨by rw [← hZ]; exact (HV.out.below HB4.out).farO (HOD.out.below HB4.out) I hI2 (by have := HGS.out; have := HGR.out; omega) _ _⟩
      have HS4 : Aside0 (SB Z gs) := ⟨by rw [← hZ]; exact ((HS.out.below HB4.out).far (p := ⟨gs + 1, I * 2, none⟩) (by simp) _).far (p := ⟨gs + 1, I * 2 + 1, none⟩) (by simp) _⟩
      have HBZ : Aside0 (Below w.heap.size w Z) := ⟨by rw [← hZ]; exact (HB4'.out.setCell (p := ⟨gs + 1, I * 2, none⟩) (by have := HGS.out; have := HGR.out; have := HG8.out; show w.heap.size ≤ gs + 1; omega) _).setCell (p := ⟨gs + 1, I * 2 + 1, none⟩) (by have := HGS.out; have := HGR.out; have := HG8.out; show w.heap.size ≤ gs + 1; omega) _⟩
      rw [hZ]
      have hnc : (n : Int) ≤ (c2 : Int) := by have := HN.out; omega
      clear hZ p0 p1 t0 t1 y0 y1 z0 z1 zf0 zf1 hI2 hKi hKw hK0 hKl
      go_wp2_with fail
      go_loopw [83] (fun v83 wq => ∃ m : Nat, v83 = .int .i64 m ∧ m ≤ n ∧ Aside0 (OB wq gr (dinner V q I m R)) ∧ Aside0 (OB wq (gs + 1) (List.replicate (L - (k + 1)) 0 ++ V :: dl)) ∧ Aside0 (SB wq gs) ∧ Aside0 (BV wq g8 (some bd) cc t) ∧ Aside0 (Below w.heap.size w wq)) (fun v83 _ => n - (intOf v83).toNat)
      case atStart => exact ⟨0, rfl, Nat.zero_le _, HOR4, HOD4, HS4, HV4, HBZ⟩
      case round =>
        obtain ⟨m, rfl, hm, HOR, HOD, HS, HV, HB⟩ := hrel
        rename World => wx
        by_cases hml : m < n
        · have hmq : m < q.length := by have := HN.out; omega
          obtain ⟨ad', B3, d3, hA3, h1, h2, HR3⟩ := R2.out.get HB.out m hmq
          obtain rfl : ad = ad' := by simpa using hA3
          clear hA3
          have lc := lim_getD HQ.out m
          have hgm : (dinner V q I m R).getD (I + m) 0 = R.getD (I + m) 0 := by
            rw [dinner_get V q I R m (I + m) (by rw [hRL.out]; omega), if_neg (by omega)]
          have lx := HLM.out (I + m)
          obtain ⟨c, hc⟩ : ∃ c, q.getD m 0 = c := ⟨_, rfl⟩
          obtain ⟨x, hx⟩ : ∃ x, R.getD (I + m) 0 = x := ⟨_, rfl⟩
          rw [hc] at h1 h2 HR3 lc
          rw [hx] at hgm lx
          have hds : dinner V q I (m + 1) R = (dinner V q I m R).set (I + m) (x - V * c) := by rw [dinner, hgm, hc]
          obtain ⟨K', hK'⟩ : ∃ K', I + m = K' := ⟨_, rfl⟩
          rw [hK'] at hgm hds
          have HDS := Aside0.mk hds
          have HGM := Aside0.mk hgm
          have HLX := Aside0.mk lx
          have HLC := Aside0.mk lc
          have HKK' := Aside0.mk hK'
          clear hc hx hgm hds lx lc hK'
          go_upto_region 21 with fail
          obtain ⟨wq, hwq⟩ : ∃ wq, wx.alloc (.cells #[.bool (sg c), .slice B3 (lm c).length d3] 25) = wq := ⟨_, rfl⟩
          obtain ⟨g14, hg14⟩ : ∃ g14, wx.heap.size = g14 := ⟨_, rfl⟩
          have HBq : Aside0 (Below wx.heap.size wx wq) := ⟨by rw [← hwq]; exact (Below.refl _ _).alloc (Nat.le_refl _) _⟩
          have HC14 : Aside0 (BV wq g14 B3 d3 c) := ⟨by rw [← hwq, ← hg14]; exact BV.new HR3.out⟩
          rw [hwq, hg14]
          have HORq := Aside0.mk (HOR.out.below HBq.out)
          have HODq := Aside0.mk (HOD.out.below HBq.out)
          have HSq := Aside0.mk (HS.out.below HBq.out)
          have HVq := Aside0.mk (HV.out.below HBq.out)
          have HBB' : Aside0 (Below w.heap.size w wq) := ⟨HB.out.trans (HBq.out.mono HB.out.size)⟩
          clear HOR HOD HS HV HB HBq hwq hg14 h1 h2
          obtain ⟨Kx, hK⟩ : ∃ Kx, I + m = Kx := ⟨_, rfl⟩
          have hKe := HKK'.out
          rw [hK] at hKe
          subst hKe
          have hKi : (I : Int) + (m : Int) = (Kx : Int) := by omega
          have hKw : IntKind.i64.wrap (Kx : Int) = (Kx : Int) := by rw [IntKind.wrap_i64]; omega
          have hK0 : (0 : Int) ≤ (Kx : Int) := by omega
          have hKl : (Kx : Int) < (p.length : Int) := by omega
          have hRL2 : Aside0 ((dinner V q I m R).length = p.length) := ⟨by rw [dinner_len]; exact hRL.out⟩
          obtain ⟨B1, d1, p0, p1, HR1, _, _⟩ := HORq.out.get (Below.refl _ _) Kx (by rw [hRL2.out]; omega)
          rw [HGM.out] at p0 p1 HR1
          have hDg : (List.replicate (L - (k + 1)) (0 : Int) ++ V :: dl).getD I 0 = V := by
            have e2 : L - (k + 1) = I := by have := HIL.out; omega
            rw [e2]
            simp [List.getD_eq_getElem?_getD]
          have hDl2 : (List.replicate (L - (k + 1)) (0 : Int) ++ V :: dl).length = L := by
            have := HHL.out; have := HIL.out
            rw [List.length_append, List.length_replicate, List.length_cons]; omega
          obtain ⟨B2, d2, y0, y1, HR2, _, _⟩ := HODq.out.get (Below.refl _ _) I (by rw [hDl2]; omega)
          rw [hDg] at y0 y1 HR2
          obtain ⟨u0, u1, _⟩ := HC14.out.cells
          have hbound : a + k * (b + 1) + b + 1 ≤ 4000 := by
            have := HLIM.out
            have h3 : (k + 1) * (b + 1) ≤ 24 * (b + 1) := Nat.mul_le_mul_right _ (by have := HIL.out; have := HL.out; omega)
            rw [Nat.succ_mul] at h3
            omega
          have CL1 := Lib.hid (fun W' (hW' : Below wq.heap.size wq W') => times_z V c (lim_le HLV.out (by omega)) (lim_le HLC.out (by have := HBB.out; omega)) (lim_le (lim_mul HLV.out HLC.out) (by omega)) (by have h4 := lm_len HLC.out; have := HBB.out; omega) B2 B3 d2 d3 gs W' (HSq.out.below hW') (HR2.out.below hW') (HC14.out.rv.below hW'))
          have CL2 := Lib.hid (fun W' B' c' (hW' : Below wq.heap.size wq W') (hr' : RV W' B' c' (V * c)) => less_z x (V * c) (lim_le HLX.out (by omega)) (lim_le (lim_mul HLV.out HLC.out) (by omega)) (lim_le (lim_sub (lim_le HLX.out (by omega)) (lim_mul HLV.out HLC.out)) (by omega)) B1 B' d1 c' gs W' (HSq.out.below hW') (HR1.out.below hW') hr')
          obtain ⟨M, hM⟩ : ∃ M, V * c = M := ⟨_, rfl⟩
          have hds2 := HDS.out
          rw [hM] at CL1 CL2 hds2
          obtain ⟨N, hN⟩ : ∃ N, x - M = N := ⟨_, rfl⟩
          rw [hN] at CL2 hds2
          have HDS2 := Aside0.mk hds2
          have HOR := HORq
          clear hM hN hds2 hbound hDg hDl2 hK HDS HORq
          -- REGION 21 (mkdw.py)
          refine start_ (n := 21) (S := fun w' => Below wq.heap.size wq w') (ds := [20]) #[false, false, false, false, false, false, false, false, false, false, false, false, false, false, false, false, false, false, false, false, false] (by kernel_rfl) rfl rfl (Below.refl _ _).drew (fun hHeld => ?_)
          generalize wq.drew = WD at hHeld ⊢
          refine pure_ (i := 0) (N := some 88) (v := ?_) (a' := ?_) #[true, false, false, false, false, false, false, false, false, false, false, false, false, false, false, false, false, false, false, false, false] rfl rfl (by kernel_rfl) (fun _ _ _ h => h) (Or.inl ⟨by rfl, ?_⟩) ?_ ?_
          rotate_left
          · intro w'
            go_simp
            with_reducible rfl
          rotate_left
          · simp only [Act.put, List.setIfInBounds_toArray, List.set_cons_zero, List.set_cons_succ, i64_w, i32_w]
            rfl
          refine pure_ (i := 1) (N := some 89) (v := ?_) (a' := ?_) #[true, true, false, false, false, false, false, false, false, false, false, false, false, false, false, false, false, false, false, false, false] rfl rfl (by kernel_rfl) (fun _ _ _ h => h) (Or.inl ⟨by rfl, ?_⟩) ?_ ?_
          rotate_left
          · intro w'
            go_simp
            with_reducible rfl
          rotate_left
          · simp only [Act.put, List.setIfInBounds_toArray, List.set_cons_zero, List.set_cons_succ, i64_w, i32_w]
            rfl
          refine pure_ (i := 2) (N := some 90) (v := ?_) (a' := ?_) #[true, true, true, false, false, false, false, false, false, false, false, false, false, false, false, false, false, false, false, false, false] rfl rfl (by kernel_rfl) (fun _ _ _ h => h) (Or.inl ⟨by rfl, ?_⟩) ?_ ?_
          rotate_left
          · intro w'
            go_simp
            with_reducible rfl
          rotate_left
          · simp only [Act.put, List.setIfInBounds_toArray, List.set_cons_zero, List.set_cons_succ, i64_w, i32_w]
            rfl
          refine pure_ (i := 3) (N := some 91) (v := ?_) (a' := ?_) #[true, true, true, true, false, false, false, false, false, false, false, false, false, false, false, false, false, false, false, false, false] rfl rfl (by kernel_rfl) (fun _ _ _ h => h) (Or.inl ⟨by rfl, ?_⟩) ?_ ?_
          rotate_left
          · intro w'
            go_simp
            with_reducible rfl
          rotate_left
          · simp only [Act.put, List.setIfInBounds_toArray, List.set_cons_zero, List.set_cons_succ, i64_w, i32_w]
            rfl
          refine pure_ (i := 4) (N := some 92) (v := ?_) (a' := ?_) #[true, true, true, true, true, false, false, false, false, false, false, false, false, false, false, false, false, false, false, false, false] rfl rfl (by kernel_rfl) (fun _ _ _ h => h) (Or.inl ⟨by rfl, ?_⟩) ?_ ?_
          rotate_left
          · intro w'
            go_simp
            with_reducible rfl
          rotate_left
          · simp only [Act.put, List.setIfInBounds_toArray, List.set_cons_zero, List.set_cons_succ, i64_w, i32_w]
            rfl
          refine pure_ (i := 5) (N := some 93) (v := ?_) (a' := ?_) #[true, true, true, true, true, true, false, false, false, false, false, false, false, false, false, false, false, false, false, false, false] rfl rfl (by kernel_rfl) (fun _ _ _ h => h) (Or.inl ⟨by rfl, ?_⟩) ?_ ?_
          rotate_left
          · intro w'
            go_simp
            with_reducible rfl
          rotate_left
          · simp only [Act.put, List.setIfInBounds_toArray, List.set_cons_zero, List.set_cons_succ, i64_w, i32_w]
            rfl
          refine pure_ (i := 6) (N := some 94) (v := ?_) (a' := ?_) #[true, true, true, true, true, true, true, false, false, false, false, false, false, false, false, false, false, false, false, false, false] rfl rfl (by kernel_rfl) (fun _ _ _ h => h) (Or.inl ⟨by rfl, ?_⟩) ?_ ?_
          rotate_left
          · intro w'
            go_simp
            with_reducible rfl
          rotate_left
          · simp only [Act.put, List.setIfInBounds_toArray, List.set_cons_zero, List.set_cons_succ, i64_w, i32_w]
            rfl
          refine pure_ (i := 7) (N := some 95) (v := ?_) (a' := ?_) #[true, true, true, true, true, true, true, true, false, false, false, false, false, false, false, false, false, false, false, false, false] rfl rfl (by kernel_rfl) (fun _ _ _ h => h) (Or.inl ⟨by rfl, ?_⟩) ?_ ?_
          rotate_left
          · intro w'
            go_simp
            with_reducible rfl
          rotate_left
          · simp only [Act.put, List.setIfInBounds_toArray, List.set_cons_zero, List.set_cons_succ, i64_w, i32_w]
            rfl
          refine pure_ (i := 8) (N := some 96) (v := ?_) (a' := ?_) #[true, true, true, true, true, true, true, true, true, false, false, false, false, false, false, false, false, false, false, false, false] rfl rfl (by kernel_rfl) (fun _ _ _ h => h) (Or.inl ⟨by rfl, ?_⟩) ?_ ?_
          rotate_left
          · intro w'
            go_simp
            with_reducible rfl
          rotate_left
          · simp only [Act.put, List.setIfInBounds_toArray, List.set_cons_zero, List.set_cons_succ, i64_w, i32_w]
            rfl
          refine pure_ (i := 9) (N := some 97) (v := ?_) (a' := ?_) #[true, true, true, true, true, true, true, true, true, true, false, false, false, false, false, false, false, false, false, false, false] rfl rfl (by kernel_rfl) (fun _ _ _ h => h) (Or.inl ⟨by rfl, ?_⟩) ?_ ?_
          rotate_left
          · intro w'
            go_simp
            with_reducible rfl
          rotate_left
          · simp only [Act.put, List.setIfInBounds_toArray, List.set_cons_zero, List.set_cons_succ, i64_w, i32_w]
            rfl
          refine take_ (i := 10) (N := some 98) (v := ?_) (a' := ?_) #[true, true, true, true, true, true, true, true, true, true, true, false, false, false, false, false, false, false, false, false, false] rfl rfl (by kernel_rfl) (fun _ _ _ h => h) (Or.inl ⟨by rfl, ?_⟩) hHeld ?_ ?_
          rotate_left
          · intro w' s0
            have e0 := pw_cell_below s0 u0
            have e1 := pw_cell_below s0 u1
            have e2 := pw_cell_below s0 p0
            have e3 := pw_cell_below s0 p1
            have e4 := pw_cell_below s0 y0
            have e5 := pw_cell_below s0 y1
            go_simp
            with_reducible rfl
          rotate_left
          · simp only [Act.put, List.setIfInBounds_toArray, List.set_cons_zero, List.set_cons_succ, i64_w, i32_w]
            rfl
          refine pure_ (i := 11) (N := some 99) (v := ?_) (a' := ?_) #[true, true, true, true, true, true, true, true, true, true, true, true, false, false, false, false, false, false, false, false, false] rfl rfl (by kernel_rfl) (fun _ _ _ h => h) (Or.inl ⟨by rfl, ?_⟩) ?_ ?_
          rotate_left
          · intro w'
            go_simp
            with_reducible rfl
          rotate_left
          · simp only [Act.put, List.setIfInBounds_toArray, List.set_cons_zero, List.set_cons_succ, i64_w, i32_w]
            rfl
          refine pure_ (i := 12) (N := some 100) (v := ?_) (a' := ?_) #[true, true, true, true, true, true, true, true, true, true, true, true, true, false, false, false, false, false, false, false, false] rfl rfl (by kernel_rfl) (fun _ _ _ h => h) (Or.inl ⟨by rfl, ?_⟩) ?_ ?_
          rotate_left
          · intro w'
            go_simp
            with_reducible rfl
          rotate_left
          · simp only [Act.put, List.setIfInBounds_toArray, List.set_cons_zero, List.set_cons_succ, i64_w, i32_w]
            rfl
          refine pure_ (i := 13) (N := some 101) (v := ?_) (a' := ?_) #[true, true, true, true, true, true, true, true, true, true, true, true, true, true, false, false, false, false, false, false, false] rfl rfl (by kernel_rfl) (fun _ _ _ h => h) (Or.inl ⟨by rfl, ?_⟩) ?_ ?_
          rotate_left
          · intro w'
            go_simp
            with_reducible rfl
          rotate_left
          · simp only [Act.put, List.setIfInBounds_toArray, List.set_cons_zero, List.set_cons_succ, i64_w, i32_w]
            rfl
          refine pure_ (i := 14) (N := some 102) (v := ?_) (a' := ?_) #[true, true, true, true, true, true, true, true, true, true, true, true, true, true, true, false, false, false, false, false, false] rfl rfl (by kernel_rfl) (fun _ _ _ h => h) (Or.inl ⟨by rfl, ?_⟩) ?_ ?_
          rotate_left
          · intro w'
            go_simp
            with_reducible rfl
          rotate_left
          · simp only [Act.put, List.setIfInBounds_toArray, List.set_cons_zero, List.set_cons_succ, i64_w, i32_w]
            rfl
          refine take_ (i := 15) (N := some 103) (v := ?_) (a' := ?_) #[true, true, true, true, true, true, true, true, true, true, true, true, true, true, true, true, false, false, false, false, false] rfl rfl (by kernel_rfl) (fun _ _ _ h => h) (Or.inl ⟨by rfl, ?_⟩) hHeld ?_ ?_
          rotate_left
          · intro w' s0
            have e0 := pw_cell_below s0 u0
            have e1 := pw_cell_below s0 u1
            have e2 := pw_cell_below s0 p0
            have e3 := pw_cell_below s0 p1
            have e4 := pw_cell_below s0 y0
            have e5 := pw_cell_below s0 y1
            go_simp
            with_reducible rfl
          rotate_left
          · simp only [Act.put, List.setIfInBounds_toArray, List.set_cons_zero, List.set_cons_succ, i64_w, i32_w]
            rfl
          refine take_ (i := 16) (N := some 104) (v := ?_) (a' := ?_) #[true, true, true, true, true, true, true, true, true, true, true, true, true, true, true, true, true, false, false, false, false] rfl rfl (by kernel_rfl) (fun _ _ _ h => h) (Or.inl ⟨by rfl, ?_⟩) hHeld ?_ ?_
          rotate_left
          · intro w' s0
            have e0 := pw_cell_below s0 u0
            have e1 := pw_cell_below s0 u1
            have e2 := pw_cell_below s0 p0
            have e3 := pw_cell_below s0 p1
            have e4 := pw_cell_below s0 y0
            have e5 := pw_cell_below s0 y1
            go_simp
            with_reducible rfl
          rotate_left
          · simp only [Act.put, List.setIfInBounds_toArray, List.set_cons_zero, List.set_cons_succ, i64_w, i32_w]
            rfl
          refine one_ (i := 17) (N := some 105) #[true, true, true, true, true, true, true, true, true, true, true, true, true, true, true, true, true, true, false, false, false] rfl rfl (by kernel_rfl) (by decide) (fun K hK => ?_)
          refine goes_ Try.func43 (by kernel_rfl) rfl #[.pointer (some ⟨gs, 0, none⟩), .agg #[.bool (sg V), .slice B2 (lm V).length d2], .agg #[.bool (sg c), .slice B3 (lm c).length d3]] (by rfl) rfl rfl (by (try simp only [List.map_toArray, List.map_cons, List.map_nil]); first | done | rfl) ?_
          refine (CL1.out _ hHeld).mono ?_
          rintro e w4 ⟨B4, c4, rfl, HR4, hBw4⟩
          refine ⟨_, rfl, ?_⟩
          have HB4 : Aside0 (Below wq.heap.size wq w4) := ⟨hHeld.trans (hBw4.out.mono hHeld.size)⟩
          refine hK.out _ _ HB4.out ?_
          clear hHeld hK K
          intro hHeld
          refine norm_ (a' := ?_) ?_ ?_
          rotate_left
          · show Act.put _ (some 105) _ = _
            simp only [Act.put, List.setIfInBounds_toArray, List.set_cons_zero, List.set_cons_succ, i64_w, i32_w]
            rfl
          refine one_ (i := 18) (N := some 106) #[true, true, true, true, true, true, true, true, true, true, true, true, true, true, true, true, true, true, true, false, false] rfl rfl (by kernel_rfl) (by decide) (fun K hK => ?_)
          refine goes_ Try.func56 (by kernel_rfl) rfl #[.pointer (some ⟨gs, 0, none⟩), .agg #[.bool (sg x), .slice B1 (lm x).length d1], .agg #[.bool (sg M), .slice B4 (lm M).length c4]] (by rfl) rfl rfl (by (try simp only [List.map_toArray, List.map_cons, List.map_nil]); first | done | rfl) ?_
          refine (CL2.out _ _ _ hHeld HR4.out).mono ?_
          rintro e w5 ⟨B5, c5, rfl, HR5, hBw5⟩
          refine ⟨_, rfl, ?_⟩
          have HB5 : Aside0 (Below wq.heap.size wq w5) := ⟨hHeld.trans (hBw5.out.mono hHeld.size)⟩
          refine hK.out _ _ HB5.out ?_
          clear hHeld hK K
          intro hHeld
          refine norm_ (a' := ?_) ?_ ?_
          rotate_left
          · show Act.put _ (some 106) _ = _
            simp only [Act.put, List.setIfInBounds_toArray, List.set_cons_zero, List.set_cons_succ, i64_w, i32_w]
            rfl
          refine pure_ (i := 19) (N := some 107) (v := ?_) (a' := ?_) #[true, true, true, true, true, true, true, true, true, true, true, true, true, true, true, true, true, true, true, true, false] rfl rfl (by kernel_rfl) (fun _ _ _ h => h) (Or.inl ⟨by rfl, ?_⟩) ?_ ?_
          rotate_left
          · intro w'
            go_simp
            with_reducible rfl
          rotate_left
          · simp only [Act.put, List.setIfInBounds_toArray, List.set_cons_zero, List.set_cons_succ, i64_w, i32_w]
            rfl
          refine last_ (i := 20) (N := none) #[true, true, true, true, true, true, true, true, true, true, true, true, true, true, true, true, true, true, true, true, true] rfl rfl (by kernel_rfl) (by decide) (fun K hK => ?_)
          have z0 := pw_cell_below hHeld p0
          have z1 := pw_cell_below hHeld p1
          have zf0 := (HOR.out.below hHeld).frozen (Kx * 2)
          have zf1 := (HOR.out.below hHeld).frozen (Kx * 2 + 1)
          refine skip_ (w1 := ?_) (by rfl) rfl ?_ ?_
          rotate_left
          · go_simp
            rfl
          refine hK.out _ _ ?_
          clear hK K
          refine done_ (by kernel_rfl) ?_
          -- END 21
          have HB5' : Aside0 (Below w.heap.size w w5) := ⟨HBB'.out.trans (HB5.out.mono HBB'.out.size)⟩
          have hK2 : Kx < (dinner V q I m R).length := by rw [hRL2.out]; omega
          have HOR5 : Aside0 (OB ((w5.setCell ⟨gr, Kx * 2, none⟩ (.bool (sg N))).setCell ⟨gr, Kx * 2 + 1, none⟩ (.slice B5 (lm N).length c5)) gr (dinner V q I (m + 1) R)) := ⟨by
            rw [HDS2.out]
            exact (HOR.out.below HB5.out).set Kx hK2 HR5.out⟩
          have HOD5 := Aside0.mk ((HODq.out.below HB5.out).farO (HOR.out.below HB5.out) Kx hK2 (by have := HGS.out; omega) (.bool (sg N)) (.slice B5 (lm N).length c5))
          have HV5 := Aside0.mk ((HVq.out.below HB5.out).farO (HOR.out.below HB5.out) Kx hK2 (by have := HGR.out; omega) (.bool (sg N)) (.slice B5 (lm N).length c5))
          have HS5 := Aside0.mk (((HSq.out.below HB5.out).far (p := ⟨gr, Kx * 2, none⟩) (by have := HGS.out; show gs ≠ gr; omega) (.bool (sg N))).far (p := ⟨gr, Kx * 2 + 1, none⟩) (by have := HGS.out; show gs ≠ gr; omega) (.slice B5 (lm N).length c5))
          have HB6 := Aside0.mk ((HB5'.out.setCell (p := ⟨gr, Kx * 2, none⟩) (by have := HGR.out; have := HG8.out; show w.heap.size ≤ gr; omega) (.bool (sg N))).setCell (p := ⟨gr, Kx * 2 + 1, none⟩) (by have := HGR.out; have := HG8.out; show w.heap.size ≤ gr; omega) (.slice B5 (lm N).length c5))
          clear p0 p1 u0 u1 y0 y1 z0 z1 zf0 zf1 hK2 hKi hKw hK0 hKl
          go_wp2
          go_roundw
          case rel => exact ⟨m + 1, by go_num, by omega, HOR5, HOD5, HS5, HV5, HB6⟩
          case measure => simp [intOf]; omega
        · obtain rfl : m = n := by omega
          have HSTR := Aside0.mk (congrArg Prod.snd HSTT.out)
          have HSTD := Aside0.mk (congrArg Prod.fst HSTT.out)
          go_wp2_with fail
          go_roundw
          case rel =>
            refine ⟨k + 1, _, rfl, by have := HHJ.out; omega, by have := HIL.out; omega, ⟨?_⟩, ⟨?_⟩, HS, HV, HB⟩
            · rw [HSTD.out]; exact HOD.out
            · rw [HSTR.out]; exact HOR.out
          case measure => simp [intOf]; try omega
    · have hkL : k = L := by omega
      subst hkL
      have e0 : Aside0 ((dst t q n k p).1.length = k) := ⟨(HST.out k).1⟩
      have e1 : Aside0 ((dst t q n k p).2.length = p.length) := ⟨(HST.out k).2⟩
      simp only [Nat.sub_self, List.replicate_zero, List.nil_append] at HOD
      have s0 := HS.out.cell
      have HJ := Aside0.mk hj
      clear hj
      have hnp2 : (n : Int) ≤ (p.length : Int) := by omega
      obtain ⟨D, hD⟩ : ∃ D, (dst t q n k p).1 = D := ⟨_, rfl⟩
      obtain ⟨R, hR⟩ : ∃ R, (dst t q n k p).2 = R := ⟨_, rfl⟩
      rw [hD] at HOD e0
      rw [hR] at HOR e1
      have hkp : p.length - n = k := HL.out
      have hRn : (R.take n).length = n := by rw [List.length_take, e1.out]; omega
      have TD := Lib.hid (fun W' (hW' : Below wr.heap.size wr W') => trim_pz D (by rw [e0.out]; omega) (some ⟨gs + 1, 0, none⟩) k k e0.out (Nat.le_refl _) W' ((HOD.out.PL (by rw [e0.out]; omega)).below hW'))
      have TR := Lib.hid (fun W' (hW' : Below wr.heap.size wr W') => trim_pz (R.take n) (by rw [hRn]; omega) (some ⟨gr, 0, none⟩) n n hRn (Nat.le_refl _) W' (((HOR.out.PL (by rw [e1.out]; omega)).take n).below hW'))
      have HDD := Aside0.mk hD
      have HRR := Aside0.mk hR
      have HKP := Aside0.mk hkp
      have HRN := Aside0.mk hRn
      clear hD hR hkp hRn
      go_wp2_with fail
      go_region_with (first | (go_at_call 57; (with_reducible refine (TD.out _ ?_).mono ?_); (first | exact Below.refl _ _ | exact (Below.refl _ _).drew); rintro e w7 ⟨k1, rfl, hk1, HK1, rfl⟩) | (go_at_call 57; (with_reducible refine (TR.out _ ?_).mono ?_); (first | exact Below.refl _ _ | exact (Below.refl _ _).drew); rintro e w8 ⟨k2, rfl, hk2, HK2, rfl⟩))
      all_goals
        have hk1l : Aside0 ((trm D).length = k1) := ⟨by rw [← HK1.out, List.length_take, e0.out]; omega⟩
        have hk2l : Aside0 ((trm (R.take n)).length = k2) := ⟨by rw [← HK2.out, List.length_take, HRN.out]; omega⟩
        go_wp2
        go_ret3
        refine ⟨some ⟨gs + 1, 0, none⟩, k, some ⟨gr, 0, none⟩, n, ?_, ?_, ?_, ⟨?_⟩, ⟨?_⟩, ⟨HB.out.drew⟩⟩
        · rw [HKP.out, HDD.out, HRR.out, hk1l.out, hk2l.out]; first | rfl | (simp [Act.put]; done)
        · rw [HKP.out, HDD.out, hk1l.out]; exact hk1
        · rw [HKP.out, HRR.out, hk2l.out]; exact hk2
        · rw [HKP.out, HDD.out, ← HK1.out]
          exact ((HOD.out.PL (by rw [e0.out]; omega)).take k1).drew
        · rw [HKP.out, HRR.out, ← HK2.out]
          exact (((HOR.out.PL (by rw [e1.out]; omega)).take n).take k2).drew
end Go.Proofs.Ytplignahjhenjaa.Lb
