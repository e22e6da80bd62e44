/- PolyMany: the walk. -/
import Derived.Test.YtplignahjhenjaaPoMa
namespace Go.Proofs.Ytplignahjhenjaa.Lb
open Go.RowKit Go.Proofs.YtplignahjhenjaaW.PrintWords Go.Proofs.YtplignahjhenjaaW.PrintLast Go.Proofs.YtplignahjhenjaaW.PrintMore
open Go.Proofs.Ytplignahjhenjaa.Po (trm trm_of_tight tight_trm trm_len tight_iff ev)
set_option linter.unusedVariables false
set_option linter.unusedSimpArgs false

set_option maxRecDepth 100000 in
set_option maxHeartbeats 4000000 in
theorem polyMany_c (a : Int) (w : World) (ha : -9223372036854775808 ≤ a ∧ a ≤ 9223372036854775807) :
    Calls Try.prog 4 #[.int .i64 a] w (OutP w (.bool true)) := by
  have HB : Aside0 (Below w.heap.size w w) := ⟨Below.refl _ _⟩
  have hu := Try.underlying25
  have HA := Aside0.mk ha
  clear ha
  go_enter Try.func4, Try.ntmps4
  go_wp2_with fail
  refine (awake_c _).mono ?_
  rintro e w1 ⟨rfl, hB⟩
  replace HB : Aside0 (Below w.heap.size w w1) := ⟨HB.out.trans (hB.out.mono HB.out.size)⟩
  clear hB
  go_wp2_with fail
  refine (pick10 a HA.out _).mono ?_
  rintro e w2 ⟨m, hm, rfl, hB⟩
  replace HB : Aside0 (Below w.heap.size w w2) := ⟨HB.out.trans (hB.out.mono HB.out.size)⟩
  clear hB
  have hbw2 : w.heap.size ≤ w2.heap.size := HB.out.size
  obtain ⟨k, hk⟩ : ∃ k, 4090 + m = k := ⟨_, rfl⟩
  have hk1 : (4090 : Int) + (m : Int) = (k : Int) := by omega
  have hk2 : wrap64 (k : Int) = (k : Int) := by unfold wrap64; omega
  have hk3 : IntKind.i64.wrap (k : Int) = (k : Int) := by rw [IntKind.wrap_i64]; omega
  have hkl : 4090 ≤ k ∧ k < 4100 := by omega
  obtain ⟨j, hj⟩ : ∃ j, k - 1 = j := ⟨_, rfl⟩
  have hj1 : (k : Int) - 1 = (j : Int) := by omega
  have hj2 : wrap64 (j : Int) = (j : Int) := by unfold wrap64; omega
  have hj3 : IntKind.i64.wrap (j : Int) = (j : Int) := by rw [IntKind.wrap_i64]; omega
  have hmk := make_nums k (by omega)
  clear hm hk
  go_wp2_with fail
  obtain ⟨X0, hX⟩ : ∃ X, w2.alloc (.cells (madeCells #[.bool false, .slice none 0 0] (k * 2)) 25) = X := ⟨_, rfl⟩
  have nX : Below w2.heap.size w2 X0 := by rw [← hX]; exact (Below.refl _ _).alloc (Nat.le_refl _) _
  have HO : Aside0 (OB X0 w2.heap.size (List.replicate k 0)) := ⟨by rw [← hX]; exact OB.made w2 k⟩
  replace HB : Aside0 (Below w.heap.size w X0) := ⟨HB.out.trans (nX.mono HB.out.size)⟩
  rw [hX]
  clear hX nX
  go_wp2_with fail
  refine (of_z 1 (by decide) (by decide) _).mono ?_
  rintro e w3 ⟨B1, c1, rfl, H1, hB⟩
  replace HO := Aside0.mk (HO.out.below hB.out)
  replace HB : Aside0 (Below w.heap.size w w3) := ⟨HB.out.trans (hB.out.mono HB.out.size)⟩
  clear hB
  go_wp2_with fail
  refine (of_z (-1) (by decide) (by decide) _).mono ?_
  rintro e w4 ⟨B2, c2, rfl, H2, hB⟩
  replace HO := Aside0.mk (HO.out.below hB.out)
  replace H1 := Aside0.mk (H1.out.below hB.out)
  replace HB : Aside0 (Below w.heap.size w w4) := ⟨HB.out.trans (hB.out.mono HB.out.size)⟩
  clear hB
  have hjk : j + 1 = k := by omega
  have hj1' : 1 ≤ j := by omega
  have hjl : (j : Int) < (k : Int) := by omega
  have h0l : (0 : Int) < (k : Int) := by omega
  have hjn : (0 : Int) ≤ (j : Int) := by omega
  obtain ⟨G, hG⟩ : ∃ G, w2.heap.size = G := ⟨_, rfl⟩
  have hGw : w.heap.size ≤ G := by rw [← hG]; exact hbw2
  rw [hG] at HO ⊢
  have HK := Aside0.mk hjk
  have HG := Aside0.mk hGw
  obtain ⟨D1, d1, p0, p1, _, f0, f1⟩ := HO.out.get (Below.refl _ _) 0 (by simp; omega)
  have HO2 : Aside0 (OB ((w4.setCell ⟨G, 0, none⟩ (.bool (sg 1))).setCell ⟨G, 1, none⟩ (.slice B1 (lm 1).length c1)) G ((List.replicate k 0).set 0 1)) := ⟨HO.out.set 0 (by simp; omega) H1.out⟩
  have H2' : Aside0 (RV ((w4.setCell ⟨G, 0, none⟩ (.bool (sg 1))).setCell ⟨G, 1, none⟩ (.slice B1 (lm 1).length c1)) B2 c2 (-1)) := ⟨by
    have h := H2.out.setb (p := ⟨G, 0, none⟩) p0 (noLimb_bool _) (.bool (sg 1))
    refine h.setb (p := ⟨G, 1, none⟩) (v := .slice D1 (lm ((List.replicate k (0 : Int)).getD 0 0)).length d1) ?_ (noLimb_slice _ _ _) _
    rw [World.cell?_setCell_other _ _ _ _ (by simp)]
    exact p1⟩
  obtain ⟨D2, d2, q0, q1, _, e0, e1⟩ := HO2.out.get (Below.refl _ _) j (by simp; omega)
  have HB4 : Aside0 (Below w.heap.size w ((w4.setCell ⟨G, 0, none⟩ (.bool (sg 1))).setCell ⟨G, 1, none⟩ (.slice B1 (lm 1).length c1))) := ⟨(HB.out.setCell (p := ⟨G, 0, none⟩) hGw _).setCell (p := ⟨G, 1, none⟩) hGw _⟩
  have HO3 : Aside0 (OB ((((w4.setCell ⟨G, 0, none⟩ (.bool (sg 1))).setCell ⟨G, 1, none⟩ (.slice B1 (lm 1).length c1)).setCell ⟨G, j * 2, none⟩ (.bool (sg (-1)))).setCell ⟨G, j * 2 + 1, none⟩ (.slice B2 (lm (-1)).length c2)) G (onex k j)) := ⟨HO2.out.set j (by simp; omega) H2'.out⟩
  have HB5 : Aside0 (Below w.heap.size w ((((w4.setCell ⟨G, 0, none⟩ (.bool (sg 1))).setCell ⟨G, 1, none⟩ (.slice B1 (lm 1).length c1)).setCell ⟨G, j * 2, none⟩ (.bool (sg (-1)))).setCell ⟨G, j * 2 + 1, none⟩ (.slice B2 (lm (-1)).length c2))) := ⟨(HB4.out.setCell (p := ⟨G, j * 2, none⟩) hGw _).setCell (p := ⟨G, j * 2 + 1, none⟩) hGw _⟩
  rw [Nat.zero_mul] at p0 p1 f0 f1
  clear hjk hGw hG H2 H1 HO2 HB4 HB HO
  go_wp2_with fail
  obtain ⟨Y, hY⟩ : ∃ Y, ((((w4.setCell ⟨G, 0, none⟩ (.bool (sg 1))).setCell ⟨G, 1, none⟩ (.slice B1 (lm 1).length c1)).setCell ⟨G, j * 2, none⟩ (.bool (sg (-1)))).setCell ⟨G, j * 2 + 1, none⟩ (.slice B2 (lm (-1)).length c2)) = Y := ⟨_, rfl⟩
  rw [hY] at HO3 HB5 ⊢
  have HB := HB5
  clear HB5
  have HP : Aside0 (PL Y (some ⟨G, 0, none⟩) (onex k j)) := ⟨HO3.out.PL (by rw [onex_len]; omega)⟩
  clear hY p0 p1 f0 f1 q0 q1 e0 e1 HO3 H2' hbw2
  by_cases hkk : (k : Int) ≤ 4096
  · have hk4 : ¬ ((4096 : Int) < (k : Int)) := many_ge hkk
    obtain ⟨m1, n, hm1, hn, hkp1, hkp, hmw, hnw, hmw3, hnw3, hkn, h2n⟩ := many_nums k hkl
    by_cases hk5 : k ≤ 4094
    · have hk6 : ¬ ((4096 : Int) < (n : Int)) := many_le hn hk5
      refine (many_right HK.out (Int.ofNat_le.1 hkk) _ k Y HP.out).mono ?_
      rintro e u1 ⟨rfl, hB⟩
      replace HP := Aside0.mk (HP.out.below hB.out)
      replace HB : Aside0 (Below w.heap.size w u1) := ⟨HB.out.trans (hB.out.mono HB.out.size)⟩
      clear hB
      go_wp2_with fail
      obtain ⟨Z, hX⟩ : ∃ X, u1.alloc (.cells #[.int .i64 0, .int .i64 0, .int .i64 1] 2) = X := ⟨_, rfl⟩
      have nX : Below u1.heap.size u1 Z := by rw [← hX]; exact (Below.refl _ _).alloc (Nat.le_refl _) _
      have hl : Kd.C (Kd.int .i64) Z (some ⟨u1.heap.size, 0, none⟩) 3 [0, 0, 1] := by rw [← hX]; exact lit64 u1 [0, 0, 1] 3 _ rfl rfl (by decide)
      replace HP := Aside0.mk (HP.out.below nX)
      replace HB : Aside0 (Below w.heap.size w Z) := ⟨HB.out.trans (nX.mono HB.out.size)⟩
      rw [hX]
      clear hX nX
      refine (row_z [0, 0, 1] (by decide) (by decide) _ 3 3 rfl (Nat.le_refl _) _ hl).mono ?_
      rintro e vZ ⟨Ax, cx, rfl, hcx, Hx, hB⟩
      replace HP := Aside0.mk (HP.out.below hB.out)
      replace HB : Aside0 (Below w.heap.size w vZ) := ⟨HB.out.trans (hB.out.mono HB.out.size)⟩
      clear hB hl hcx
      go_wp2_with fail
      refine (many_times HK.out hk5 hn _ _ _ _ _ HP.out Hx.out).mono ?_
      rintro e u2 ⟨Aq, cq, rfl, HQ, hB⟩
      replace HP := Aside0.mk (HP.out.below hB.out)
      replace Hx := Aside0.mk (Hx.out.below hB.out)
      replace HB : Aside0 (Below w.heap.size w u2) := ⟨HB.out.trans (hB.out.mono HB.out.size)⟩
      clear hB
      obtain ⟨ad, C1, e1, rfl, t0, t1, HR1⟩ := HQ.out.get (Below.refl _ _) 2 (by rw [many_len hn]; exact Int.ofNat_lt.1 h2n)
      obtain ⟨ad', C2, e2, had, t2, t3, HR2⟩ := HQ.out.get (Below.refl _ _) (k + 1) (by rw [many_len hn, hm1]; exact Int.ofNat_lt.1 hkn)
      obtain rfl : ad = ad' := by injection had
      rw [onex_one HK.out hj1'] at t0 t1 HR1
      rw [show ad.add (2 * 2) = ⟨ad.block, ad.off + 4, none⟩ from rfl] at t0 t1
      rw [onex_last HK.out] at t2 t3 HR2
      rw [hm1] at t2 t3
      clear HP Hx had HQ
      have HS := Lib.hid (And.intro hkp (And.intro hkp1 (And.intro hkn h2n)))
      have hnN : n ≤ 4096 := Int.ofNat_le.1 hk6
      have hkN : k ≤ 4096 := Int.ofNat_le.1 hkk
      clear hk4 hkl hk1 hj hkp hkp1 hkn h2n hk5 hk6
      go_upto_region 10 with fail
      clear hkk
      go_upto_region 14 with fail
      obtain ⟨hkp, hkp1, hkn, h2n⟩ := HS.out
      clear HS
      refine start_ (n := 26) (S := fun w' => Below u2.heap.size u2 w') (ds := []) #[false, false, false, false, false, false, false, false, false, false, false, false, false, false, false, false, false, false, false, false, false, false, false, false, false, false] (by kernel_rfl) rfl rfl (Below.refl _ _).drew (fun hHeld => ?_)
      generalize u2.drew = WD at hHeld ⊢
      refine pure_ (i := 0) (N := some 55) (v := ?_) (a' := ?_) #[true, false, false, false, false, false, false, false, false, false, false, false, false, false, false, false, false, false, false, false, false, false, false, false, false, false] rfl rfl (by kernel_rfl) (fun _ _ _ h => h) (Or.inl ⟨by rfl, ?_⟩) ?_ ?_
      rotate_left
      · intro w'
        go_simp
        with_reducible rfl
      rotate_left
      · simp only [Act.put, List.setIfInBounds_toArray, List.set_cons_zero, List.set_cons_succ, i64_w, i32_w]
        rfl
      refine pure_ (i := 1) (N := some 56) (v := ?_) (a' := ?_) #[true, true, false, false, false, false, false, false, false, false, false, false, false, false, false, false, false, false, false, false, false, false, false, false, false, false] rfl rfl (by kernel_rfl) (fun _ _ _ h => h) (Or.inl ⟨by rfl, ?_⟩) ?_ ?_
      rotate_left
      · intro w'
        go_simp
        with_reducible rfl
      rotate_left
      · simp only [Act.put, List.setIfInBounds_toArray, List.set_cons_zero, List.set_cons_succ, i64_w, i32_w]
        rfl
      refine pure_ (i := 2) (N := some 57) (v := ?_) (a' := ?_) #[true, true, true, false, false, false, false, false, false, false, false, false, false, false, false, false, false, false, false, false, false, false, false, false, false, false] rfl rfl (by kernel_rfl) (fun _ _ _ h => h) (Or.inl ⟨by rfl, ?_⟩) ?_ ?_
      rotate_left
      · intro w'
        go_simp
        with_reducible rfl
      rotate_left
      · simp only [Act.put, List.setIfInBounds_toArray, List.set_cons_zero, List.set_cons_succ, i64_w, i32_w]
        rfl
      refine pure_ (i := 3) (N := some 58) (v := ?_) (a' := ?_) #[true, true, true, true, false, false, false, false, false, false, false, false, false, false, false, false, false, false, false, false, false, false, false, false, false, false] rfl rfl (by kernel_rfl) (fun _ _ _ h => h) (Or.inl ⟨by rfl, ?_⟩) ?_ ?_
      rotate_left
      · intro w'
        go_simp
        with_reducible rfl
      rotate_left
      · simp only [Act.put, List.setIfInBounds_toArray, List.set_cons_zero, List.set_cons_succ, i64_w, i32_w]
        rfl
      refine pure_ (i := 4) (N := some 59) (v := ?_) (a' := ?_) #[true, true, true, true, true, false, false, false, false, false, false, false, false, false, false, false, false, false, false, false, false, false, false, false, false, false] rfl rfl (by kernel_rfl) (fun _ _ _ h => h) (Or.inl ⟨by rfl, ?_⟩) ?_ ?_
      rotate_left
      · intro w'
        go_simp
        with_reducible rfl
      rotate_left
      · simp only [Act.put, List.setIfInBounds_toArray, List.set_cons_zero, List.set_cons_succ, i64_w, i32_w]
        rfl
      refine pure_ (i := 5) (N := some 60) (v := ?_) (a' := ?_) #[true, true, true, true, true, true, false, false, false, false, false, false, false, false, false, false, false, false, false, false, false, false, false, false, false, false] rfl rfl (by kernel_rfl) (fun _ _ _ h => h) (Or.inl ⟨by rfl, ?_⟩) ?_ ?_
      rotate_left
      · intro w'
        go_simp
        with_reducible rfl
      rotate_left
      · simp only [Act.put, List.setIfInBounds_toArray, List.set_cons_zero, List.set_cons_succ, i64_w, i32_w]
        rfl
      refine pure_ (i := 6) (N := some 61) (v := ?_) (a' := ?_) #[true, true, true, true, true, true, true, false, false, false, false, false, false, false, false, false, false, false, false, false, false, false, false, false, false, false] rfl rfl (by kernel_rfl) (fun _ _ _ h => h) (Or.inl ⟨by rfl, ?_⟩) ?_ ?_
      rotate_left
      · intro w'
        go_simp
        with_reducible rfl
      rotate_left
      · simp only [Act.put, List.setIfInBounds_toArray, List.set_cons_zero, List.set_cons_succ, i64_w, i32_w]
        rfl
      refine pure_ (i := 7) (N := some 62) (v := ?_) (a' := ?_) #[true, true, true, true, true, true, true, true, false, false, false, false, false, false, false, false, false, false, false, false, false, false, false, false, false, false] rfl rfl (by kernel_rfl) (fun _ _ _ h => h) (Or.inl ⟨by rfl, ?_⟩) ?_ ?_
      rotate_left
      · intro w'
        go_simp
        with_reducible rfl
      rotate_left
      · simp only [Act.put, List.setIfInBounds_toArray, List.set_cons_zero, List.set_cons_succ, i64_w, i32_w]
        rfl
      refine pure_ (i := 8) (N := some 63) (v := ?_) (a' := ?_) #[true, true, true, true, true, true, true, true, true, false, false, false, false, false, false, false, false, false, false, false, false, false, false, false, false, false] rfl rfl (by kernel_rfl) (fun _ _ _ h => h) (Or.inl ⟨by rfl, ?_⟩) ?_ ?_
      rotate_left
      · intro w'
        go_simp
        with_reducible rfl
      rotate_left
      · simp only [Act.put, List.setIfInBounds_toArray, List.set_cons_zero, List.set_cons_succ, i64_w, i32_w]
        rfl
      refine pure_ (i := 9) (N := some 64) (v := ?_) (a' := ?_) #[true, true, true, true, true, true, true, true, true, true, false, false, false, false, false, false, false, false, false, false, false, false, false, false, false, false] rfl rfl (by kernel_rfl) (fun _ _ _ h => h) (Or.inl ⟨by rfl, ?_⟩) ?_ ?_
      rotate_left
      · intro w'
        go_simp
        with_reducible rfl
      rotate_left
      · simp only [Act.put, List.setIfInBounds_toArray, List.set_cons_zero, List.set_cons_succ, i64_w, i32_w]
        rfl
      refine pure_ (i := 10) (N := some 65) (v := ?_) (a' := ?_) #[true, true, true, true, true, true, true, true, true, true, true, false, false, false, false, false, false, false, false, false, false, false, false, false, false, false] rfl rfl (by kernel_rfl) (fun _ _ _ h => h) (Or.inl ⟨by rfl, ?_⟩) ?_ ?_
      rotate_left
      · intro w'
        go_simp
        with_reducible rfl
      rotate_left
      · simp only [Act.put, List.setIfInBounds_toArray, List.set_cons_zero, List.set_cons_succ, i64_w, i32_w]
        rfl
      refine pure_ (i := 11) (N := some 66) (v := ?_) (a' := ?_) #[true, true, true, true, true, true, true, true, true, true, true, true, false, false, false, false, false, false, false, false, false, false, false, false, false, false] rfl rfl (by kernel_rfl) (fun _ _ _ h => h) (Or.inl ⟨by rfl, ?_⟩) ?_ ?_
      rotate_left
      · intro w'
        go_simp
        with_reducible rfl
      rotate_left
      · simp only [Act.put, List.setIfInBounds_toArray, List.set_cons_zero, List.set_cons_succ, i64_w, i32_w]
        rfl
      refine take_ (i := 12) (N := some 67) (v := ?_) (a' := ?_) #[true, true, true, true, true, true, true, true, true, true, true, true, true, false, false, false, false, false, false, false, false, false, false, false, false, false] rfl rfl (by kernel_rfl) (fun _ _ _ h => h) (Or.inl ⟨by rfl, ?_⟩) hHeld ?_ ?_
      rotate_left
      · intro w' s0
        have e0 := pw_cell_below s0 t0
        have e1 := pw_cell_below s0 t1
        go_simp
        with_reducible rfl
      rotate_left
      · simp only [Act.put, List.setIfInBounds_toArray, List.set_cons_zero, List.set_cons_succ, i64_w, i32_w]
        rfl
      refine one_ (i := 13) (N := some 68) #[true, true, true, true, true, true, true, true, true, true, true, true, true, true, false, false, false, false, false, false, false, false, false, false, false, false] rfl rfl (by kernel_rfl) (by decide) (fun K hK => ?_)
      refine goes_ Try.func23 (by kernel_rfl) rfl #[.int .i64 1] (by rfl) rfl rfl (by (try simp only [List.map_toArray, List.map_cons, List.map_nil]); first | done | rfl) ?_
      refine (of_z 1 (by decide) (by decide) _).mono ?_
      rintro e w5 ⟨A5, c5, rfl, H5, hBw5⟩
      refine ⟨_, rfl, ?_⟩
      have HBw5 : Aside0 (Below u2.heap.size u2 w5) := ⟨hHeld.trans (hBw5.out.mono hHeld.size)⟩
      refine hK.out _ _ HBw5.out ?_
      clear hHeld hK K
      intro hHeld
      refine norm_ (a' := ?_) ?_ ?_
      rotate_left
      · show Act.put _ (some 68) _ = _
        simp only [Act.put, List.setIfInBounds_toArray, List.set_cons_zero, List.set_cons_succ, i64_w, i32_w]
        rfl
      refine one_ (i := 14) (N := some 69) #[true, true, true, true, true, true, true, true, true, true, true, true, true, true, true, false, false, false, false, false, false, false, false, false, false, false] rfl rfl (by kernel_rfl) (by decide) (fun K hK => ?_)
      refine goes_ Try.func20 (by kernel_rfl) rfl #[.agg #[.bool (sg 1), .slice C1 (lm 1).length e1], .agg #[.bool (sg 1), .slice A5 (lm 1).length c5]] (by rfl) rfl rfl (by (try simp only [List.map_toArray, List.map_cons, List.map_nil]); first | done | rfl) ?_
      refine (sameInt_z 1 (lim_le (lim_small (by decide)) (by omega)) _ _ _ _ w5 (HR1.out.below hHeld) H5.out).mono ?_
      rintro e w6 ⟨rfl, hBw6⟩
      refine ⟨_, rfl, ?_⟩
      have HBw6 : Aside0 (Below u2.heap.size u2 w6) := ⟨hHeld.trans (hBw6.out.mono hHeld.size)⟩
      refine hK.out _ _ HBw6.out ?_
      clear hHeld hK K
      intro hHeld
      refine norm_ (a' := ?_) ?_ ?_
      rotate_left
      · show Act.put _ (some 69) _ = _
        simp only [Act.put, List.setIfInBounds_toArray, List.set_cons_zero, List.set_cons_succ, i64_w, i32_w]
        rfl
      refine pure_ (i := 15) (N := some 70) (v := ?_) (a' := ?_) #[true, true, true, true, true, true, true, true, true, true, true, true, true, true, true, true, false, false, false, false, false, false, false, false, false, false] rfl rfl (by kernel_rfl) (fun _ _ _ h => h) (Or.inl ⟨by rfl, ?_⟩) ?_ ?_
      rotate_left
      · intro w'
        go_simp
        with_reducible rfl
      rotate_left
      · simp only [Act.put, List.setIfInBounds_toArray, List.set_cons_zero, List.set_cons_succ, i64_w, i32_w]
        rfl
      refine pure_ (i := 16) (N := some 71) (v := ?_) (a' := ?_) #[true, true, true, true, true, true, true, true, true, true, true, true, true, true, true, true, true, false, false, false, false, false, false, false, false, false] rfl rfl (by kernel_rfl) (fun _ _ _ h => h) (Or.inl ⟨by rfl, ?_⟩) ?_ ?_
      rotate_left
      · intro w'
        go_simp
        with_reducible rfl
      rotate_left
      · simp only [Act.put, List.setIfInBounds_toArray, List.set_cons_zero, List.set_cons_succ, i64_w, i32_w]
        rfl
      refine pure_ (i := 17) (N := some 72) (v := ?_) (a' := ?_) #[true, true, true, true, true, true, true, true, true, true, true, true, true, true, true, true, true, true, false, false, false, false, false, false, false, false] rfl rfl (by kernel_rfl) (fun _ _ _ h => h) (Or.inl ⟨by rfl, ?_⟩) ?_ ?_
      rotate_left
      · intro w'
        go_simp
        with_reducible rfl
      rotate_left
      · simp only [Act.put, List.setIfInBounds_toArray, List.set_cons_zero, List.set_cons_succ, i64_w, i32_w]
        rfl
      refine pure_ (i := 18) (N := some 73) (v := ?_) (a' := ?_) #[true, true, true, true, true, true, true, true, true, true, true, true, true, true, true, true, true, true, true, false, false, false, false, false, false, false] rfl rfl (by kernel_rfl) (fun _ _ _ h => h) (Or.inl ⟨by rfl, ?_⟩) ?_ ?_
      rotate_left
      · intro w'
        go_simp
        with_reducible rfl
      rotate_left
      · simp only [Act.put, List.setIfInBounds_toArray, List.set_cons_zero, List.set_cons_succ, i64_w, i32_w]
        rfl
      refine pure_ (i := 19) (N := some 74) (v := ?_) (a' := ?_) #[true, true, true, true, true, true, true, true, true, true, true, true, true, true, true, true, true, true, true, true, false, false, false, false, false, false] rfl rfl (by kernel_rfl) (fun _ _ _ h => h) (Or.inl ⟨by rfl, ?_⟩) ?_ ?_
      rotate_left
      · intro w'
        go_simp
        with_reducible rfl
      rotate_left
      · simp only [Act.put, List.setIfInBounds_toArray, List.set_cons_zero, List.set_cons_succ, i64_w, i32_w]
        rfl
      refine pure_ (i := 20) (N := some 75) (v := ?_) (a' := ?_) #[true, true, true, true, true, true, true, true, true, true, true, true, true, true, true, true, true, true, true, true, true, false, false, false, false, false] rfl rfl (by kernel_rfl) (fun _ _ _ h => h) (Or.inl ⟨by rfl, ?_⟩) ?_ ?_
      rotate_left
      · intro w'
        go_simp
        with_reducible rfl
      rotate_left
      · simp only [Act.put, List.setIfInBounds_toArray, List.set_cons_zero, List.set_cons_succ, i64_w, i32_w]
        rfl
      refine take_ (i := 21) (N := some 76) (v := ?_) (a' := ?_) #[true, true, true, true, true, true, true, true, true, true, true, true, true, true, true, true, true, true, true, true, true, true, false, false, false, false] rfl rfl (by kernel_rfl) (fun _ _ _ h => h) (Or.inl ⟨by rfl, ?_⟩) hHeld ?_ ?_
      rotate_left
      · intro w' s0
        have e0 := pw_cell_below s0 t2
        have e1 := pw_cell_below s0 t3
        go_simp
        with_reducible rfl
      rotate_left
      · simp only [Act.put, List.setIfInBounds_toArray, List.set_cons_zero, List.set_cons_succ, i64_w, i32_w]
        rfl
      refine one_ (i := 22) (N := some 77) #[true, true, true, true, true, true, true, true, true, true, true, true, true, true, true, true, true, true, true, true, true, true, true, false, false, false] rfl rfl (by kernel_rfl) (by decide) (fun K hK => ?_)
      refine goes_ Try.func23 (by kernel_rfl) rfl #[.int .i64 (-1)] (by rfl) rfl rfl (by (try simp only [List.map_toArray, List.map_cons, List.map_nil]); first | done | rfl) ?_
      refine (of_z (-1) (by decide) (by decide) _).mono ?_
      rintro e w7 ⟨A7, c7, rfl, H7, hBw7⟩
      refine ⟨_, rfl, ?_⟩
      have HBw7 : Aside0 (Below u2.heap.size u2 w7) := ⟨hHeld.trans (hBw7.out.mono hHeld.size)⟩
      refine hK.out _ _ HBw7.out ?_
      clear hHeld hK K
      intro hHeld
      refine norm_ (a' := ?_) ?_ ?_
      rotate_left
      · show Act.put _ (some 77) _ = _
        simp only [Act.put, List.setIfInBounds_toArray, List.set_cons_zero, List.set_cons_succ, i64_w, i32_w]
        rfl
      refine one_ (i := 23) (N := some 78) #[true, true, true, true, true, true, true, true, true, true, true, true, true, true, true, true, true, true, true, true, true, true, true, true, false, false] rfl rfl (by kernel_rfl) (by decide) (fun K hK => ?_)
      refine goes_ Try.func20 (by kernel_rfl) rfl #[.agg #[.bool (sg (-1)), .slice C2 (lm (-1)).length e2], .agg #[.bool (sg (-1)), .slice A7 (lm (-1)).length c7]] (by rfl) rfl rfl (by (try simp only [List.map_toArray, List.map_cons, List.map_nil]); first | done | rfl) ?_
      refine (sameInt_z (-1) (lim_le (lim_small (by decide)) (by omega)) _ _ _ _ w7 (HR2.out.below hHeld) H7.out).mono ?_
      rintro e w8 ⟨rfl, hBw8⟩
      refine ⟨_, rfl, ?_⟩
      have HBw8 : Aside0 (Below u2.heap.size u2 w8) := ⟨hHeld.trans (hBw8.out.mono hHeld.size)⟩
      refine hK.out _ _ HBw8.out ?_
      clear hHeld hK K
      intro hHeld
      refine norm_ (a' := ?_) ?_ ?_
      rotate_left
      · show Act.put _ (some 78) _ = _
        simp only [Act.put, List.setIfInBounds_toArray, List.set_cons_zero, List.set_cons_succ, i64_w, i32_w]
        rfl
      refine pure_ (i := 24) (N := some 79) (v := ?_) (a' := ?_) #[true, true, true, true, true, true, true, true, true, true, true, true, true, true, true, true, true, true, true, true, true, true, true, true, true, false] rfl rfl (by kernel_rfl) (fun _ _ _ h => h) (Or.inl ⟨by rfl, ?_⟩) ?_ ?_
      rotate_left
      · intro w'
        go_simp
        with_reducible rfl
      rotate_left
      · simp only [Act.put, List.setIfInBounds_toArray, List.set_cons_zero, List.set_cons_succ, i64_w, i32_w]
        rfl
      refine pure_ (i := 25) (N := some 2) (v := ?_) (a' := ?_) #[true, true, true, true, true, true, true, true, true, true, true, true, true, true, true, true, true, true, true, true, true, true, true, true, true, true] rfl rfl (by kernel_rfl) (fun _ _ _ h => h) (Or.inl ⟨by rfl, ?_⟩) ?_ ?_
      rotate_left
      · intro w'
        go_simp
        with_reducible rfl
      rotate_left
      · simp only [Act.put, List.setIfInBounds_toArray, List.set_cons_zero, List.set_cons_succ, i64_w, i32_w]
        rfl
      refine done_ (by kernel_rfl) ?_
      go_wp2_with fail
      go_ret
      exact ⟨rfl, ⟨HB.out.trans (hHeld.mono HB.out.size)⟩⟩
    · have hk6 : (4096 : Int) < (n : Int) := many_gt hn hk5
      refine (many_right HK.out (Int.ofNat_le.1 hkk) _ k Y HP.out).mono ?_
      rintro e u1 ⟨rfl, hB⟩
      replace HP := Aside0.mk (HP.out.below hB.out)
      replace HB : Aside0 (Below w.heap.size w u1) := ⟨HB.out.trans (hB.out.mono HB.out.size)⟩
      clear hB
      go_wp2_with fail
      obtain ⟨Z, hX⟩ : ∃ X, u1.alloc (.cells #[.int .i64 0, .int .i64 0, .int .i64 1] 2) = X := ⟨_, rfl⟩
      have nX : Below u1.heap.size u1 Z := by rw [← hX]; exact (Below.refl _ _).alloc (Nat.le_refl _) _
      have hl : Kd.C (Kd.int .i64) Z (some ⟨u1.heap.size, 0, none⟩) 3 [0, 0, 1] := by rw [← hX]; exact lit64 u1 [0, 0, 1] 3 _ rfl rfl (by decide)
      replace HP := Aside0.mk (HP.out.below nX)
      replace HB : Aside0 (Below w.heap.size w Z) := ⟨HB.out.trans (nX.mono HB.out.size)⟩
      rw [hX]
      clear hX nX
      refine (row_z [0, 0, 1] (by decide) (by decide) _ 3 3 rfl (Nat.le_refl _) _ hl).mono ?_
      rintro e vZ ⟨Ax, cx, rfl, hcx, Hx, hB⟩
      replace HP := Aside0.mk (HP.out.below hB.out)
      replace HB : Aside0 (Below w.heap.size w vZ) := ⟨HB.out.trans (hB.out.mono HB.out.size)⟩
      clear hB hl hcx
      go_wp2_with fail
      refine (many_long HK.out (Int.ofNat_le.1 hkk) (Nat.lt_of_not_le hk5) _ _ _ _ _ HP.out Hx.out).mono ?_
      rintro e u2 ⟨rfl, hB⟩
      replace HP := Aside0.mk (HP.out.below hB.out)
      replace Hx := Aside0.mk (Hx.out.below hB.out)
      replace HB : Aside0 (Below w.heap.size w u2) := ⟨HB.out.trans (hB.out.mono HB.out.size)⟩
      clear hB
      have hnN : 4096 < n := Int.ofNat_lt.1 hk6
      have hkN : k ≤ 4096 := Int.ofNat_le.1 hkk
      clear HP Hx hk4 hkl hk1 hj hkp1 hkn h2n hk5 hk6
      go_upto_region 10 with fail
      clear hkk
      go_wp2_with fail
      all_goals
        go_ret
        exact ⟨rfl, HB⟩
  · have hk4 : (4096 : Int) < (k : Int) := by omega
    refine (right_long _ k k (by omega) (by omega) Y).mono ?_
    rintro e u1 ⟨rfl, hB⟩
    replace HP := Aside0.mk (HP.out.below hB.out)
    replace HB : Aside0 (Below w.heap.size w u1) := ⟨HB.out.trans (hB.out.mono HB.out.size)⟩
    clear hB
    go_wp2_with fail
    obtain ⟨Z, hX⟩ : ∃ X, u1.alloc (.cells #[.int .i64 0, .int .i64 0, .int .i64 1] 2) = X := ⟨_, rfl⟩
    have nX : Below u1.heap.size u1 Z := by rw [← hX]; exact (Below.refl _ _).alloc (Nat.le_refl _) _
    have hl : Kd.C (Kd.int .i64) Z (some ⟨u1.heap.size, 0, none⟩) 3 [0, 0, 1] := by rw [← hX]; exact lit64 u1 [0, 0, 1] 3 _ rfl rfl (by decide)
    replace HP := Aside0.mk (HP.out.below nX)
    replace HB : Aside0 (Below w.heap.size w Z) := ⟨HB.out.trans (nX.mono HB.out.size)⟩
    rw [hX]
    clear hX nX
    refine (row_z [0, 0, 1] (by decide) (by decide) _ 3 3 rfl (Nat.le_refl _) _ hl).mono ?_
    rintro e vZ ⟨Ax, cx, rfl, hcx, Hx, hB⟩
    replace HP := Aside0.mk (HP.out.below hB.out)
    replace HB : Aside0 (Below w.heap.size w vZ) := ⟨HB.out.trans (hB.out.mono HB.out.size)⟩
    clear hB hl hcx
    go_wp2_with fail
    refine (times_arg k 3 (by omega) (by omega) _ _ _ _ _).mono ?_
    rintro e u2 ⟨rfl, hB⟩
    replace HP := Aside0.mk (HP.out.below hB.out)
    replace Hx := Aside0.mk (Hx.out.below hB.out)
    replace HB : Aside0 (Below w.heap.size w u2) := ⟨HB.out.trans (hB.out.mono HB.out.size)⟩
    clear hB
    have hkN : 4096 < k := Int.ofNat_lt.1 hk4
    clear HP Hx hk4 hkl hk1 hj
    go_upto_region 10 with fail
    clear hkk
    go_wp2_with fail
    all_goals
      go_ret
      exact ⟨rfl, HB⟩
end Go.Proofs.Ytplignahjhenjaa.Lb
