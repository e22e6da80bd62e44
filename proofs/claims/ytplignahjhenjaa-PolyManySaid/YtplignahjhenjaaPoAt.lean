/- poly: At. -/
import Derived.Test.YtplignahjhenjaaPoAd
namespace Go.Proofs.Ytplignahjhenjaa.Lb
open Go.RowKit Go.Proofs.YtplignahjhenjaaW.PrintWords Go.Proofs.YtplignahjhenjaaW.PrintLast Go.Proofs.YtplignahjhenjaaW.PrintMore
open Go.Proofs.Ytplignahjhenjaa.Po (trm trm_of_tight tight_trm trm_len tight_iff ev)
set_option linter.unusedVariables false
set_option linter.unusedSimpArgs false

/-- A variable's two cells, written. -/
theorem BV.set {w : World} {g : Nat} {A B : Option Addr} {c d : Nat} {z y : Int} (h : BV w g A c z) (r : RV w B d y) : BV ((w.setCell ⟨g, 0, none⟩ (.bool (sg y))).setCell ⟨g, 1, none⟩ (.slice B (lm y).length d)) g B d y := by
  obtain ⟨c0, c1, _⟩ := h.cells
  refine ⟨?_, ?_⟩
  · have hb := h.blk
    simp [World.setCell, Array.getElem?_modify, hb]
  · refine (r.setb c0 (noLimb_bool _) _).setb (v := .slice A (lm z).length c) ?_ (noLimb_slice _ _ _) _
    rw [World.cell?_setCell_other _ _ _ _ (by simp)]
    exact c1
/-- .. and another variable. -/
theorem BV.far {w : World} {g g' : Nat} {A A' : Option Addr} {c c' : Nat} {z z' : Int} (h : BV w g A c z) (h' : BV w g' A' c' z') (hne : g ≠ g') (u v : Value) : BV ((w.setCell ⟨g', 0, none⟩ u).setCell ⟨g', 1, none⟩ v) g A c z := by
  obtain ⟨c0, c1, _⟩ := h'.cells
  refine ⟨?_, ?_⟩
  · rw [Below.heap_setCell _ _ _ _ (by exact hne), Below.heap_setCell _ _ _ _ (by exact hne)]
    exact h.blk
  · refine (h.rv.setb c0 (noLimb_bool _) _).setb (v := .slice A' (lm z').length c') ?_ (noLimb_slice _ _ _) _
    rw [World.cell?_setCell_other _ _ _ _ (by simp)]
    exact c1
theorem BV.rfar {w : World} {g' : Nat} {A A' : Option Addr} {c c' : Nat} {z z' : Int} (h : RV w A c z) (h' : BV w g' A' c' z') (u v : Value) : RV ((w.setCell ⟨g', 0, none⟩ u).setCell ⟨g', 1, none⟩ v) A c z := by
  obtain ⟨c0, c1, _⟩ := h'.cells
  refine (h.setb c0 (noLimb_bool _) _).setb (v := .slice A' (lm z').length c') ?_ (noLimb_slice _ _ _) _
  rw [World.cell?_setCell_other _ _ _ _ (by simp)]
  exact c1
theorem BV.frz {w : World} {g : Nat} {A : Option Addr} {c : Nat} {z : Int} (h : BV w g A c z) (i : Nat) : w.frozen? ⟨g, i, none⟩ = false := by
  have := h.blk
  simp [World.frozen?, this]
theorem sg_zero : sg 0 = false := by simp [sg]
theorem lm_zero : lm 0 = [] := by simp [lm, toL_zero]
theorem BV.zero (w : World) : BV (w.alloc (.cells #[.bool false, .slice none 0 0] 25)) w.heap.size none 0 0 := by
  have h : BV (w.alloc (.cells #[.bool (sg 0), .slice none (lm 0).length 0] 25)) w.heap.size none 0 0 := BV.new (RV.zero w none 0)
  rwa [sg_zero, lm_zero] at h
theorem drop_getD {p : List Int} {i : Nat} (h : i < p.length) : p.drop i = p.getD i 0 :: p.drop (i + 1) := by
  rw [List.drop_eq_getElem_cons h]
  congr 1
  simp [List.getD_eq_getElem?_getD, List.getElem?_eq_getElem h]
theorem ev_drop {p : List Int} {i : Nat} (h : i < p.length) (x : Int) : ev (p.drop i) x = ev (p.drop (i + 1)) x * x + p.getD i 0 := by
  rw [drop_getD h, ev, Int.mul_comm]
  omega
set_option maxRecDepth 100000 in
set_option maxHeartbeats 4000000 in
theorem at_pz (p : List Int) (x : Int) (hp : ∀ z ∈ p, lim 4096 z) (hsp : p.length ≤ 4096) (tp : Po.tight p) (hx : lim 23 x) (he : ∀ i, i ≤ p.length → lim 4096 (ev (p.drop i) x)) (hm : ∀ i, i ≤ p.length → lim 4096 (ev (p.drop i) x * x)) (A1 A2 : Option Addr) (c1 c2 : Nat) (w : World) (r1 : PL w A1 p) (r2 : RV w A2 c2 x) :
    Calls Try.prog 14 #[.slice A1 p.length c1, .agg #[.bool (sg x), .slice A2 (lm x).length c2]] w (OutZ w (ev p x)) := by
  have hu := Try.underlying25
  have hu60 := Try.underlying60
  have R1 := Aside0.mk r1
  have R2 := Aside0.mk r2
  have HP := Aside0.mk hp
  have TP := Aside0.mk tp
  have HE := Aside0.mk he
  have HM := Aside0.mk hm
  have HX := Aside0.mk hx
  obtain ⟨X, hX⟩ : ∃ X, (w.alloc (.cells #[.bool (sg x), .slice A2 (lm x).length c2] 25)).alloc (.cells #[.bool false, .slice none 0 0] 25) = X := ⟨_, rfl⟩
  have HBX : Aside0 (Below w.heap.size w X) := ⟨by rw [← hX]; exact ((Below.refl _ _).alloc (Nat.le_refl _) _).alloc (by simp) _⟩
  have HVX : Aside0 (BV X w.heap.size A2 c2 x) := ⟨by rw [← hX]; exact (BV.new R2.out).alloc _⟩
  have HVR : Aside0 (BV X (w.heap.size + 1) none 0 0) := ⟨by
    rw [← hX]
    have := BV.zero (w.alloc (.cells #[.bool (sg x), .slice A2 (lm x).length c2] 25))
    simpa using this⟩
  have HXX := Aside0.mk hX
  clear r1 r2 hp tp he hm hx hX
  go_enter Try.func14, Try.ntmps14
  go_wp2_with fail
  rw [HXX.out]
  refine (right_pz p HP.out hsp TP.out A1 c1 X (R1.out.below HBX.out)).mono ?_
  rintro e w1 ⟨rfl, hB1⟩
  have HV1 : Aside0 (BV w1 w.heap.size A2 c2 x) := ⟨HVX.out.below hB1.out⟩
  have HW1 : Aside0 (BV w1 (w.heap.size + 1) none 0 0) := ⟨HVR.out.below hB1.out⟩
  have HB1 : Aside0 (Below w.heap.size w w1) := ⟨HBX.out.trans (hB1.out.mono HBX.out.size)⟩
  obtain ⟨x0, x1, _⟩ := HV1.out.cells
  go_wp2_with fail
  refine (right_z x (lim_le HX.out (by omega)) A2 c2 w1 HV1.out.rv).mono ?_
  rintro e w2 ⟨rfl, hB2⟩
  have HV2 : Aside0 (BV w2 w.heap.size A2 c2 x) := ⟨HV1.out.below hB2.out⟩
  have HW2 : Aside0 (BV w2 (w.heap.size + 1) none 0 0) := ⟨HW1.out.below hB2.out⟩
  have HB2 : Aside0 (Below w.heap.size w w2) := ⟨HB1.out.trans (hB2.out.mono HB1.out.size)⟩
  clear x0 x1 hB1 hB2
  go_wp2_with fail
  obtain ⟨gs, hgs⟩ : ∃ gs, w2.heap.size = gs := ⟨_, rfl⟩
  obtain ⟨g3, hg3⟩ : ∃ g3, w.heap.size = g3 := ⟨_, rfl⟩
  obtain ⟨Y, hY⟩ : ∃ Y, (w2.alloc (.cells #[.int .i64 0] 60)).alloc (.cells #[.bool false, .slice none 0 0] 25) = Y := ⟨_, rfl⟩
  have hgs1 := HW2.out.cells.2.2
  have HBY : Aside0 (Below w.heap.size w Y) := ⟨by rw [← hY]; exact (HB2.out.alloc HB2.out.size _).alloc (by simp; have := HB2.out.size; omega) _⟩
  have HSY : Aside0 (SB Y gs) := ⟨by rw [← hY, ← hgs]; exact SB.below (w := w2.alloc (.cells #[.int .i64 0] 60)) (heap_alloc_new w2 _) ((Below.refl _ _).alloc (Nat.le_refl _) _)⟩
  have HVY : Aside0 (BV Y (gs + 1) none 0 0) := ⟨by
    rw [← hY, ← hgs]
    have := BV.zero (w2.alloc (.cells #[.int .i64 0] 60))
    simpa using this⟩
  have HXY : Aside0 (BV Y g3 A2 c2 x) := ⟨by rw [← hY, ← hg3]; exact (HV2.out.alloc _).alloc _⟩
  have HRY : Aside0 (BV Y (g3 + 1) none 0 0) := ⟨by rw [← hY, ← hg3]; exact (HW2.out.alloc _).alloc _⟩
  have HNE : Aside0 (g3 + 1 < gs) := ⟨by rw [← hg3, ← hgs]; exact hgs1⟩
  have HYY := Aside0.mk hY
  rw [hY]
  rw [hg3] at HBY
  rw [hg3, hgs]
  have hlY : trm p = p := trm_of_tight TP.out
  have HG3 := Aside0.mk hg3
  have HD0 : Aside0 (ev (p.drop p.length) x = 0) := ⟨by rw [List.drop_length]; rfl⟩
  clear hY hgs hg3 hgs1 hlY HV2 HW2 HB2
  go_loopw [8] (fun v8 wr => ∃ (j : Nat) (A : Option Addr) (c : Nat), v8 = .int .i64 ((j : Int) - 1) ∧ j ≤ p.length ∧ Aside0 (BV wr (gs + 1) A c (ev (p.drop j) x)) ∧ Aside0 (SB wr gs) ∧ Aside0 (BV wr g3 A2 c2 x) ∧ Aside0 (BV wr (g3 + 1) none 0 0) ∧ Aside0 (Below g3 w wr)) (fun v8 _ => (intOf v8 + 1).toNat)
  case atStart => exact ⟨p.length, none, 0, rfl, Nat.le_refl _, ⟨by rw [HD0.out]; exact HVY.out⟩, HSY, HXY, HRY, HBY⟩
  case round =>
    obtain ⟨j, A, c, hv8, hj, HV, HS, HX2, HR2, HB⟩ := hrel
    rename World => wr
    have s0 := HS.out.cell
    have s1 := HS.out.frozen 0
    cases j with
    | zero =>
      obtain rfl := hv8
      rw [List.drop_zero] at HV
      have hm1 : (((0 : Nat) : Int) - 1) = -1 := rfl
      rw [hm1]
      obtain ⟨y0, y1, _⟩ := HV.out.cells
      obtain ⟨t0, t1, _⟩ := HR2.out.cells
      have f0 := HR2.out.frz 0
      have f1 := HR2.out.frz 1
      go_wp2_with fail
      refine bodyPost_ret (v := .tuple #[.agg #[.bool (sg (ev p x)), .slice A (lm (ev p x)).length c], .int .i64 0]) (by simp [results, Try.results14, go_sem, *]) rfl ⟨A, c, rfl, ⟨BV.rfar HV.out.rv HR2.out _ _⟩, ⟨?_⟩⟩
      rw [HG3.out]
      exact (HB.out.setCell (p := ⟨g3 + 1, 0, none⟩) (Nat.le_succ _) _).setCell (p := ⟨g3 + 1, 1, none⟩) (Nat.le_succ _) _
    | succ m =>
      have hv : (((m + 1 : Nat) : Int) - 1) = (m : Int) := by omega
      rw [hv] at hv8
      obtain rfl := hv8
      clear hv
      have hml : (m : Int) < (p.length : Int) := by omega
      have hBw : Below w.heap.size w wr := by rw [HG3.out]; exact HB.out
      obtain ⟨ad, B, cc, rfl, h1, h2, HRp⟩ := R1.out.get hBw m (by omega)
      have HS1 := Aside0.mk (HE.out (m + 1) hj)
      have HS2 := Aside0.mk (HM.out (m + 1) hj)
      have HS3 := Aside0.mk (HE.out m (by omega))
      have hev := ev_drop (p := p) (i := m) (by omega) x
      rw [hev] at HS3
      have hcl := lim_getD HP.out m
      obtain ⟨a, ha⟩ : ∃ a, p.getD m 0 = a := ⟨_, rfl⟩
      obtain ⟨S, hS⟩ : ∃ S, ev (p.drop (m + 1)) x = S := ⟨_, rfl⟩
      rw [ha] at h1 h2 HRp hev HS3 hcl
      rw [hS] at HS1 HS2 HV hev HS3
      have HCL := Aside0.mk hcl
      have HEV := Aside0.mk hev
      clear ha hS hev hcl hBw
      obtain ⟨y0, y1, _⟩ := HV.out.cells
      obtain ⟨t0, t1, _⟩ := HX2.out.cells
      have CL1 := Lib.hid (fun W' (hW' : Below wr.heap.size wr W') => times_z S x HS1.out (lim_le HX.out (by omega)) HS2.out (by have := lm_len HX.out; omega) A A2 c c2 gs W' (HS.out.below hW') (HV.out.rv.below hW') (HX2.out.rv.below hW'))
      have CL2 := Lib.hid (fun W' B' c' (hW' : Below wr.heap.size wr W') (hr' : RV W' B' c' (S * x)) => plus_z (S * x) a HS2.out HCL.out HS3.out B' B c' cc gs W' (HS.out.below hW') hr' (HRp.out.below hW'))
      obtain ⟨M, hM⟩ : ∃ M, S * x = M := ⟨_, rfl⟩
      rw [hM] at CL1 CL2 HEV
      obtain ⟨Z, hZ⟩ : ∃ Z, M + a = Z := ⟨_, rfl⟩
      rw [hZ] at CL2 HEV
      clear hM hZ HS1 HS2 HS3 HCL
      go_upto_region 8 with fail
      go_region_with (first | (go_at_call 43; refine (CL1.out _ ?_).mono ?_; (first | exact Below.refl _ _ | exact (Below.refl _ _).drew); rintro e w4 ⟨B4, c4, rfl, HR4, hB4⟩; have HB4 : Aside0 (Below wr.heap.size wr w4) := ⟨by first | exact hB4.out | exact (Below.refl _ _).drew.trans hB4.out⟩; have q0 := pw_cell_below HB4.out h1; have q1 := pw_cell_below HB4.out h2; obtain ⟨z0, z1, _⟩ := (HV.out.below HB4.out).cells) | (go_at_call 42; refine (CL2.out _ _ _ HB4.out HR4.out).mono ?_; rintro e w5 ⟨B5, c5, rfl, HR5, hB5⟩; have HB5 : Aside0 (Below wr.heap.size wr w5) := ⟨HB4.out.trans (hB5.out.mono HB4.out.size)⟩; obtain ⟨z0', z1', _⟩ := (HV.out.below HB5.out).cells; have zf0 := (HV.out.below HB5.out).frz 0; have zf1 := (HV.out.below HB5.out).frz 1))
      all_goals
        have HVZ := Aside0.mk (HV.out.below HB5.out)
        have HXZ := Aside0.mk (HX2.out.below HB5.out)
        have HRZ := Aside0.mk (HR2.out.below HB5.out)
        have HSZ : Aside0 (SB w5 gs) := ⟨HS.out.below HB5.out⟩
        have hg3w : Aside0 (g3 ≤ wr.heap.size) := ⟨by have := HXY.out.cells.2.2; have := HX2.out.cells.2.2; omega⟩
        have HBZ : Aside0 (Below g3 w w5) := ⟨HB.out.trans (HB5.out.mono hg3w.out)⟩
        clear y0 y1 t0 t1 h1 h2 q0 q1 z0 z1 z0' z1' zf0 zf1 s0 s1
        go_wp2
        go_roundw
        case rel =>
          refine ⟨m, B5, c5, rfl, by omega, ⟨?_⟩, ⟨(HSZ.out.far (p := ⟨gs + 1, 0, none⟩) (by simp) _).far (p := ⟨gs + 1, 1, none⟩) (by simp) _⟩, ⟨HXZ.out.far HVZ.out (by have := HNE.out; omega) _ _⟩, ⟨HRZ.out.far HVZ.out (by have := HNE.out; omega) _ _⟩, ⟨(HBZ.out.setCell (p := ⟨gs + 1, 0, none⟩) (by have := HNE.out; show g3 ≤ gs + 1; omega) _).setCell (p := ⟨gs + 1, 1, none⟩) (by have := HNE.out; show g3 ≤ gs + 1; omega) _⟩⟩
          rw [HEV.out]
          exact HVZ.out.set HR5.out
        case measure => simp [intOf]; try omega
end Go.Proofs.Ytplignahjhenjaa.Lb
