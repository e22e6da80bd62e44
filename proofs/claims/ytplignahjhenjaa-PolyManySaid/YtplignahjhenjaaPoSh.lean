/- poly: Shift. -/
import Derived.Test.YtplignahjhenjaaPoMv
import Derived.Test.YtplignahjhenjaaPoAt
namespace Go.Proofs.Ytplignahjhenjaa.Lb
open Go.RowKit Go.Proofs.YtplignahjhenjaaW.PrintWords Go.Proofs.YtplignahjhenjaaW.PrintLast Go.Proofs.YtplignahjhenjaaW.PrintMore
open Go.Proofs.Ytplignahjhenjaa.Po (trm trm_of_tight tight_trm trm_len tight_iff ev)
set_option linter.unusedVariables false
set_option linter.unusedSimpArgs false

theorem BV.farO {w : World} {g g' : Nat} {A : Option Addr} {c : Nat} {z : Int} {zs : List Int} (h : BV w g A c z) (h' : OB w g' zs) (j : Nat) (hj : j < zs.length) (hne : g ≠ g') (u v : Value) : BV ((w.setCell ⟨g', j * 2, none⟩ u).setCell ⟨g', j * 2 + 1, none⟩ v) g A c z := by
  obtain ⟨B, d, c0, c1, _⟩ := h'.at_ j hj
  refine ⟨?_, ?_⟩
  · rw [Below.heap_setCell _ _ _ _ (by exact hne), Below.heap_setCell _ _ _ _ (by exact hne)]
    exact h.blk
  · refine (h.rv.setb c0 (noLimb_bool _) _).setb (v := .slice B (lm (zs.getD j 0)).length d) ?_ (noLimb_slice _ _ _) _
    rw [World.cell?_setCell_other _ _ _ _ (by simp)]
    exact c1
set_option maxRecDepth 100000 in
set_option maxHeartbeats 8000000 in
theorem shift_pz (p : List Int) (z : Int) (hp : ∀ x ∈ p, lim 4096 x) (hsp : p.length ≤ 4096) (tp : Po.tight p) (hz : lim 23 z) (hl : ∀ i m j, i + 1 ≤ p.length → m + 1 ≤ p.length → lim 4000 ((rnd z (Po.move z i p) m).getD j 0)) (A1 A2 : Option Addr) (c1 c2 : Nat) (w : World) (r1 : PL w A1 p) (r2 : RV w A2 c2 z) :
    Calls Try.prog 15 #[.slice A1 p.length c1, .agg #[.bool (sg z), .slice A2 (lm z).length c2]] w (OutLE w (trm (Po.move z (p.length - 1) p)) 0) := by
  have hu := Try.underlying25
  have hu60 := Try.underlying60
  have R1 := Aside0.mk r1
  have R2 := Aside0.mk r2
  have HP := Aside0.mk hp
  have TP := Aside0.mk tp
  have HL := Aside0.mk hl
  have HX := Aside0.mk hz
  obtain ⟨X, hX⟩ : ∃ X, w.alloc (.cells #[.bool (sg z), .slice A2 (lm z).length c2] 25) = X := ⟨_, rfl⟩
  have HBX : Aside0 (Below w.heap.size w X) := ⟨by rw [← hX]; exact (Below.refl _ _).alloc (Nat.le_refl _) _⟩
  have HVX : Aside0 (BV X w.heap.size A2 c2 z) := ⟨by rw [← hX]; exact BV.new R2.out⟩
  have HXX := Aside0.mk hX
  clear r1 r2 hp tp hl hz hX
  go_enter Try.func15, Try.ntmps15
  go_wp2_with fail
  rw [HXX.out]
  refine (right_pz p HP.out hsp TP.out A1 c1 X (R1.out.below HBX.out)).mono ?_
  rintro e w1 ⟨rfl, hB1⟩
  have HV1 : Aside0 (BV w1 w.heap.size A2 c2 z) := ⟨HVX.out.below hB1.out⟩
  have HB1 : Aside0 (Below w.heap.size w w1) := ⟨HBX.out.trans (hB1.out.mono HBX.out.size)⟩
  obtain ⟨x0, x1, _⟩ := HV1.out.cells
  go_wp2_with fail
  refine (right_z z (lim_le HX.out (by omega)) A2 c2 w1 HV1.out.rv).mono ?_
  rintro e w2 ⟨rfl, hB2⟩
  have HV2 : Aside0 (BV w2 w.heap.size A2 c2 z) := ⟨HV1.out.below hB2.out⟩
  have HB2 : Aside0 (Below w.heap.size w w2) := ⟨HB1.out.trans (hB2.out.mono HB1.out.size)⟩
  clear x0 x1 hB1 hB2
  go_wp2_with fail
  obtain ⟨gs, hgs⟩ : ∃ gs, w2.heap.size = gs := ⟨_, rfl⟩
  obtain ⟨g3, hg3⟩ : ∃ g3, w.heap.size = g3 := ⟨_, rfl⟩
  obtain ⟨Y, hY⟩ : ∃ Y, w2.alloc (.cells #[.int .i64 0] 60) = Y := ⟨_, rfl⟩
  have hgs1 := HV2.out.cells.2.2
  have HBY : Aside0 (Below w.heap.size w Y) := ⟨by rw [← hY]; exact HB2.out.alloc HB2.out.size _⟩
  have HSY : Aside0 (SB Y gs) := ⟨by rw [← hY, ← hgs]; exact heap_alloc_new w2 _⟩
  have HXY : Aside0 (BV Y g3 A2 c2 z) := ⟨by rw [← hY, ← hg3]; exact HV2.out.alloc _⟩
  have HNE : Aside0 (g3 < gs) := ⟨by rw [← hg3, ← hgs]; exact hgs1⟩
  rw [hY]
  rw [hg3] at HBY
  rw [hg3, hgs]
  have HG3 := Aside0.mk hg3
  clear hY hgs hg3 hgs1 HV2 HB2
  refine (copied_z p HP.out (by omega) A1 c1 Y (R1.out.below (by rw [HG3.out]; exact HBY.out))).mono ?_
  rintro e w3 ⟨g, rfl, hge, HO3, hB3⟩
  have hs3 := HSY.out.lt
  have HB3 : Aside0 (Below g3 w w3) := ⟨HBY.out.trans (hB3.out.mono (by have := HNE.out; omega))⟩
  have HS3 : Aside0 (SB w3 gs) := ⟨HSY.out.below hB3.out⟩
  have HX3 : Aside0 (BV w3 g3 A2 c2 z) := ⟨HXY.out.below hB3.out⟩
  have HNE2 : Aside0 (gs < g) := ⟨by omega⟩
  clear hge hB3 hs3
  go_wp2_with fail
  go_loopw [8] (fun v8 wr => ∃ i : Nat, v8 = .int .i64 i ∧ (i = 0 ∨ i + 1 ≤ p.length) ∧ Aside0 (OB wr g (Po.move z i p)) ∧ Aside0 (SB wr gs) ∧ Aside0 (BV wr g3 A2 c2 z) ∧ Aside0 (Below g3 w wr)) (fun v8 _ => p.length - (intOf v8).toNat)
  case atStart => exact ⟨0, rfl, .inl rfl, HO3, HS3, HX3, HB3⟩
  case round =>
    obtain ⟨i, rfl, hi, HO, HS, HV, HB⟩ := hrel
    rename World => wr
    have s0 := HS.out.cell
    have s1 := HS.out.frozen 0
    by_cases hil : i + 1 < p.length
    · have HIL := Aside0.mk hil
      go_wp2_with fail
      go_loopw [9] (fun v9 wq => ∃ (m : Nat) (j : Int), v9 = .int .i64 j ∧ j = (p.length : Int) - 2 - (m : Int) ∧ m ≤ p.length - 1 - i ∧ Aside0 (OB wq g (rnd z (Po.move z i p) m)) ∧ Aside0 (SB wq gs) ∧ Aside0 (BV wq g3 A2 c2 z) ∧ Aside0 (Below g3 w wq)) (fun v9 _ => (intOf v9 + 1).toNat)
      case atStart => exact ⟨0, _, rfl, by omega, by omega, HO, HS, HV, HB⟩
      case round =>
        obtain ⟨m, j, rfl, hj, hm, HOQ, HSQ, HVQ, HBQ⟩ := hrel
        rename World => wq
        clear s0 s1
        have s0 := HSQ.out.cell
        have s1 := HSQ.out.frozen 0
        have hll : Aside0 ((rnd z (Po.move z i p) m).length = p.length) := ⟨by rw [rnd_len, move_len]⟩
        by_cases hji : (i : Int) ≤ j
        · obtain ⟨J, rfl⟩ : ∃ J : Nat, j = (J : Int) := ⟨j.toNat, by omega⟩
          obtain ⟨K, hK⟩ : ∃ K, J + 1 = K := ⟨_, rfl⟩
          have hKi : (J : Int) + 1 = (K : Int) := by omega
          have hKw : IntKind.i64.wrap ((J : Int) + 1) = (K : Int) := by rw [IntKind.wrap_i64]; omega
          have hKw2 : IntKind.i64.wrap (K : Int) = (K : Int) := by rw [IntKind.wrap_i64]; omega
          have hK0 : (0 : Int) ≤ (K : Int) := by omega
          have hKl : (K : Int) < (p.length : Int) := by omega
          have hJl : (J : Int) < (p.length : Int) := by omega
          obtain ⟨B1, d1, p0, p1, HR1, f0, f1⟩ := HOQ.out.get (Below.refl _ _) J (by rw [hll.out]; omega)
          obtain ⟨B2, d2, q0, q1, HR2, _, _⟩ := HOQ.out.get (Below.refl _ _) K (by rw [hll.out]; omega)
          obtain ⟨t0, t1, _⟩ := HVQ.out.cells
          have l1 := HL.out i m J (by omega) (by omega)
          have l2 := HL.out i m K (by omega) (by omega)
          have hst : Aside0 (rnd z (Po.move z i p) (m + 1) = (rnd z (Po.move z i p) m).set J ((rnd z (Po.move z i p) m).getD J 0 + z * (rnd z (Po.move z i p) m).getD K 0)) := ⟨by
            rw [rnd, move_len, show p.length - 2 - m = J by omega, hK]⟩
          obtain ⟨L, hLL⟩ : ∃ L, rnd z (Po.move z i p) m = L := ⟨_, rfl⟩
          rw [hLL] at HOQ hll p0 p1 HR1 q0 q1 HR2 l1 l2 hst
          obtain ⟨a, ha⟩ : ∃ a, L.getD J 0 = a := ⟨_, rfl⟩
          obtain ⟨b, hb⟩ : ∃ b, L.getD K 0 = b := ⟨_, rfl⟩
          rw [ha] at p0 p1 HR1 l1 hst
          rw [hb] at q0 q1 HR2 l2 hst
          have lzb : lim 4050 (z * b) := lim_le (lim_mul HX.out l2) (by omega)
          have CL1 := Lib.hid (fun W' (hW' : Below wq.heap.size wq W') => times_z z b (lim_le HX.out (by omega)) (lim_le l2 (by omega)) (lim_le lzb (by omega)) (by have := lm_len HX.out; omega) A2 B2 c2 d2 gs W' (HSQ.out.below hW') (HVQ.out.rv.below hW') (HR2.out.below hW'))
          have CL2 := Lib.hid (fun W' B' c' (hW' : Below wq.heap.size wq W') (hr' : RV W' B' c' (z * b)) => plus_z a (z * b) (lim_le l1 (by omega)) (lim_le lzb (by omega)) (lim_le (lim_add (k := 4050) (lim_le l1 (by omega)) lzb) (by omega)) B1 B' d1 c' gs W' (HSQ.out.below hW') (HR1.out.below hW') hr')
          obtain ⟨M, hM⟩ : ∃ M, z * b = M := ⟨_, rfl⟩
          rw [hM] at CL1 CL2 hst
          obtain ⟨Z, hZ⟩ : ∃ Z, a + M = Z := ⟨_, rfl⟩
          rw [hZ] at CL2 hst
          have HJ := Aside0.mk hj
          have HK := Aside0.mk hK
          have HMM := Aside0.mk hm
          clear hM hZ ha hb hLL l1 l2 lzb hj hK
          go_upto_region 11 with fail
          go_region_with (first | (go_at_call 43; refine (CL1.out _ ?_).mono ?_; (first | exact Below.refl _ _ | exact (Below.refl _ _).drew); rintro e w4 ⟨B4, c4, rfl, HR4, hB4⟩; have HB4 : Aside0 (Below wq.heap.size wq w4) := ⟨by first | exact hB4.out | exact (Below.refl _ _).drew.trans hB4.out⟩; have y0 := pw_cell_below HB4.out p0; have y1 := pw_cell_below HB4.out p1) | (go_at_call 42; refine (CL2.out _ _ _ HB4.out HR4.out).mono ?_; rintro e w5 ⟨B5, c5, rfl, HR5, hB5⟩; have HB5 : Aside0 (Below wq.heap.size wq w5) := ⟨HB4.out.trans (hB5.out.mono HB4.out.size)⟩; have z0 := pw_cell_below HB5.out p0; have z1 := pw_cell_below HB5.out p1; have zf0 := (HOQ.out.below HB5.out).frozen (J * 2); have zf1 := (HOQ.out.below HB5.out).frozen (J * 2 + 1)))
          all_goals
            have HOZ : Aside0 (OB w5 g L) := ⟨HOQ.out.below HB5.out⟩
            have HSZ : Aside0 (SB w5 gs) := ⟨HSQ.out.below HB5.out⟩
            have HVZ := Aside0.mk (HVQ.out.below HB5.out)
            have hg3w : Aside0 (g3 ≤ wq.heap.size) := ⟨by have := HVQ.out.cells.2.2; omega⟩
            have HBZ : Aside0 (Below g3 w w5) := ⟨HBQ.out.trans (HB5.out.mono hg3w.out)⟩
            clear t0 t1 p0 p1 q0 q1 f0 f1 y0 y1 z0 z1 zf0 zf1 s0 s1 hKi hKw hKw2 hK0
            go_wp2
            go_roundw
            case rel =>
              refine ⟨m + 1, _, rfl, by have := HJ.out; omega, by have := HJ.out; have := HIL.out; omega, ⟨?_⟩, ⟨(HSZ.out.far (p := ⟨g, J * 2, none⟩) (Nat.ne_of_lt HNE2.out) _).far (p := ⟨g, J * 2 + 1, none⟩) (Nat.ne_of_lt HNE2.out) _⟩, ⟨HVZ.out.farO HOZ.out J (by rw [hll.out]; omega) (by have := HNE.out; have := HNE2.out; omega) _ _⟩, ⟨(HBZ.out.setCell (p := ⟨g, J * 2, none⟩) (by have := HNE.out; have := HNE2.out; show g3 ≤ g; omega) _).setCell (p := ⟨g, J * 2 + 1, none⟩) (by have := HNE.out; have := HNE2.out; show g3 ≤ g; omega) _⟩⟩
              rw [hst.out]
              exact HOZ.out.set J (by rw [hll.out]; omega) HR5.out
            case measure => simp [intOf]; try omega
        · have hmm : m = p.length - 1 - i := by omega
          subst hmm
          rw [move_rnd z p i (by have := HIL.out; omega)] at HOQ
          have HJ := Aside0.mk hj
          clear hj hll
          go_wp2_with fail
          go_roundw
          case rel => exact ⟨i + 1, by go_num, .inr (by have := HIL.out; omega), HOQ, HSQ, HVQ, HBQ⟩
          case measure => simp [intOf]; have := HIL.out; omega
    · have hie : i = p.length - 1 := by omega
      have HIE := Aside0.mk hie
      have HOL := Aside0.mk (move_len z i p)
      clear hie
      go_wp2_with fail
      refine (out_pz (Po.move z i p) (by rw [HOL.out]; omega) _ p.length p.length gs HOL.out (Nat.le_refl _) wr (HO.out.PL (by rw [HOL.out]; omega)) HS.out).mono ?_
      rintro e w5 ⟨k, rfl, hk, HK, rfl⟩
      have hkl : Aside0 ((trm (Po.move z i p)).length = k) := ⟨by rw [← HK.out, List.length_take, HOL.out]; omega⟩
      go_wp2_with fail
      go_ret2
      refine ⟨some ⟨g, 0, none⟩, p.length, ?_, ?_, ⟨?_⟩, ⟨by rw [HG3.out]; exact HB.out⟩⟩
      · rw [← HIE.out, hkl.out]; rfl
      · rw [← HIE.out, hkl.out]; exact hk
      · rw [← HIE.out, ← HK.out]
        exact (HO.out.PL (by rw [HOL.out]; omega)).take k
end Go.Proofs.Ytplignahjhenjaa.Lb
