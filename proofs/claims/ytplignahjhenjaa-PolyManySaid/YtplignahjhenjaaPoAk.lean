/- poly: awake. -/
import Derived.Test.YtplignahjhenjaaPoTa
import Derived.Test.YtplignahjhenjaaPoTi
import Derived.Test.YtplignahjhenjaaPoDx
namespace Go.Proofs.Ytplignahjhenjaa.Lb
open Go.RowKit Go.Proofs.YtplignahjhenjaaW.PrintWords Go.Proofs.YtplignahjhenjaaW.PrintLast Go.Proofs.YtplignahjhenjaaW.PrintMore
open Go.Proofs.Ytplignahjhenjaa.Po (trm trm_of_tight tight_trm trm_len tight_iff ev)
set_option linter.unusedVariables false
set_option linter.unusedSimpArgs false

theorem small_lim {zs : List Int} (h : ∀ z ∈ zs, z.natAbs < 18446744073709551616) {k : Nat} (hk : 1 ≤ k) : ∀ z ∈ zs, lim k z := fun z hz => lim_le (k := 1) (by unfold lim; rw [Nat.pow_one]; exact h z hz) hk
theorem small_min {p q : List Int} (hp : ∀ z ∈ p, z.natAbs < 18446744073709551616) : ∀ x ∈ p, ∀ y ∈ q, min (lm x).length (lm y).length < 24 := fun x hx y hy => by
  have := lm_len (small_lim hp (k := 1) (by omega) x hx)
  omega
theorem lit64 (w : World) (l : List Int) (n : Nat) (cs : Array Value) (hcs : cs = (nums .i64 l).toArray) (hn : l.length = n) (hm : n ≤ 1000) : Kd.C (Kd.int .i64) (w.alloc (.cells cs 2)) (some ⟨w.heap.size, 0, none⟩) n l := by
  subst hn hcs
  have hown := World.ownsRow_lit (base := w.heap.size) (e := 2) (size := 1) w (nums .i64 l).toArray l.length (Nat.le_refl _) (by unfold maxLen; omega) (by simp [nums])
  have hR : Kd.R (Kd.int .i64) 2 _ w.heap.size (fun _ => True) (.slice (some ⟨w.heap.size, 0, none⟩) l.length l.length) l := Kd.R_of_own (by simpa [nums, encs] using hown) (fun _ _ => trivial)
  exact (Kd.R_reads' hR).2.2
theorem at_bounds1 : ∀ i, i ≤ [1, 2, 3].length → lim 4096 (ev (([1, 2, 3] : List Int).drop i) 10) := fun i hi => by
  match i, hi with
  | 0, _ => exact lim_le (lim_small (by decide)) (by omega)
  | 1, _ => exact lim_le (lim_small (by decide)) (by omega)
  | 2, _ => exact lim_le (lim_small (by decide)) (by omega)
  | 3, _ => exact lim_le (lim_small (by decide)) (by omega)
  | i + 4, h => simp at h
theorem at_bounds2 : ∀ i, i ≤ [1, 2, 3].length → lim 4096 (ev (([1, 2, 3] : List Int).drop i) 10 * 10) := fun i hi => by
  match i, hi with
  | 0, _ => exact lim_le (lim_small (by decide)) (by omega)
  | 1, _ => exact lim_le (lim_small (by decide)) (by omega)
  | 2, _ => exact lim_le (lim_small (by decide)) (by omega)
  | 3, _ => exact lim_le (lim_small (by decide)) (by omega)
  | i + 4, h => simp at h
theorem shift_bounds : ∀ i m j, i + 1 ≤ [0, 0, 1].length → m + 1 ≤ [0, 0, 1].length → lim 4000 ((rnd 3 (Po.move 3 i [0, 0, 1]) m).getD j 0) := fun i m j hi hm =>
  lim_le (shift_lim (a := 1) (b := 1) (lim_small (by decide)) (small_lim (by decide) (by omega)) (by decide) i m hi hm j) (by omega)
theorem aw_times (A1 A2 : Option Addr) (c1 c2 : Nat) (w : World) (r1 : PL w A1 [1, 1]) (r2 : PL w A2 [1, -1]) : Calls Try.prog 25 #[.slice A1 2 c1, .slice A2 2 c2] w (OutLE w [1, 0, -1] 0) := by
  have h := times_pz [1, 1] [1, -1] (small_lim (by decide) (by omega)) (small_lim (by decide) (by omega)) (small_min (by decide)) (by decide) (by decide) (by decide) (.inr (by decide)) (.inr (by decide)) A1 A2 c1 c2 w r1 r2
  rwa [show trm (Po.mul [1, 1] [1, -1]) = [1, 0, -1] by decide] at h
theorem aw_div (A1 A2 : Option Addr) (c1 c2 : Nat) (hc2 : 2 ≤ c2) (w : World) (r1 : PL w A1 [7, 0, 0, 2]) (r2 : PL w A2 [3, -1]) : Calls Try.prog 28 #[.slice A1 4 c1, .slice A2 2 c2] w (OutD w [-18, -6, -2] [61]) := by
  have h := div_z [7, 0, 0, 2] [3, -1] 1 1 1 (-1) (small_lim (by decide) (by omega)) (small_lim (by decide) (by omega)) (by omega) rfl rfl rfl (by omega) (by decide) (.inr (by decide)) (.inr (by decide)) (by omega) A1 A2 c1 c2 hc2 w r1 r2
  rwa [show trm (dst (-1) [3, -1] 1 (([7, 0, 0, 2] : List Int).length - 1) [7, 0, 0, 2]).1 = [-18, -6, -2] by decide, show trm ((dst (-1) [3, -1] 1 (([7, 0, 0, 2] : List Int).length - 1) [7, 0, 0, 2]).2.take 1) = [61] by decide] at h
theorem aw_at (A1 A2 : Option Addr) (c1 c2 : Nat) (w : World) (r1 : PL w A1 [1, 2, 3]) (r2 : RV w A2 c2 10) : Calls Try.prog 14 #[.slice A1 3 c1, .agg #[.bool (sg 10), .slice A2 (lm 10).length c2]] w (OutZ w 321) := by
  have h := at_pz [1, 2, 3] 10 (small_lim (by decide) (by omega)) (by decide) (.inr (by decide)) (lim_le (lim_small (by decide)) (by omega)) at_bounds1 at_bounds2 A1 A2 c1 c2 w r1 r2
  rwa [show ev [1, 2, 3] 10 = 321 by decide] at h
theorem aw_shift (A1 A2 : Option Addr) (c1 c2 : Nat) (w : World) (r1 : PL w A1 [0, 0, 1]) (r2 : RV w A2 c2 3) : Calls Try.prog 15 #[.slice A1 3 c1, .agg #[.bool (sg 3), .slice A2 (lm 3).length c2]] w (OutLE w [9, 6, 1] 0) := by
  have h := shift_pz [0, 0, 1] 3 (small_lim (by decide) (by omega)) (by decide) (.inr (by decide)) (lim_le (lim_small (by decide)) (by omega)) shift_bounds A1 A2 c1 c2 w r1 r2
  rwa [show trm (Po.move 3 (([0, 0, 1] : List Int).length - 1) [0, 0, 1]) = [9, 6, 1] by decide] at h
set_option maxRecDepth 100000 in
set_option maxHeartbeats 1000000 in
theorem awake_c (w : World) : Calls Try.prog 10 #[] w (OutP w (.bool true)) := by
  have HB : Aside0 (Below w.heap.size w w) := ⟨Below.refl _ _⟩
  have hu := Try.underlying25
  go_enter Try.func10, Try.ntmps10
  go_wp2_with fail
  obtain ⟨X1, hX⟩ : ∃ X, w.alloc (.cells #[.int .i64 1, .int .i64 1] 2) = X := ⟨_, rfl⟩
  have nX : Below w.heap.size w X1 := by rw [← hX]; exact (Below.refl _ _).alloc (Nat.le_refl _) _
  have hl : Kd.C (Kd.int .i64) X1 (some ⟨w.heap.size, 0, none⟩) 2 [1, 1] := by rw [← hX]; exact lit64 w [1, 1] 2 _ rfl rfl (by decide)
  replace HB : Aside0 (Below w.heap.size w X1) := ⟨HB.out.trans (nX.mono HB.out.size)⟩
  rw [hX]
  clear hX nX
  refine (row_z [1, 1] (by decide) (by decide) _ 2 2 rfl (Nat.le_refl _) _ hl).mono ?_
  rintro e v1 ⟨Ap, cp, rfl, hcp, Hp, hB⟩
  replace HB : Aside0 (Below w.heap.size w v1) := ⟨HB.out.trans (hB.out.mono HB.out.size)⟩
  clear hB hl
  go_wp2_with fail
  obtain ⟨X2, hX⟩ : ∃ X, v1.alloc (.cells #[.int .i64 1, .int .i64 (-1)] 2) = X := ⟨_, rfl⟩
  have nX : Below v1.heap.size v1 X2 := by rw [← hX]; exact (Below.refl _ _).alloc (Nat.le_refl _) _
  have hl : Kd.C (Kd.int .i64) X2 (some ⟨v1.heap.size, 0, none⟩) 2 [1, -1] := by rw [← hX]; exact lit64 v1 [1, -1] 2 _ rfl rfl (by decide)
  replace Hp := Aside0.mk (Hp.out.below nX)
  replace HB : Aside0 (Below w.heap.size w X2) := ⟨HB.out.trans (nX.mono HB.out.size)⟩
  rw [hX]
  clear hX nX
  refine (row_z [1, -1] (by decide) (by decide) _ 2 2 rfl (Nat.le_refl _) _ hl).mono ?_
  rintro e v2 ⟨Aq, cq, rfl, hcq, Hq, hB⟩
  replace Hp := Aside0.mk (Hp.out.below hB.out)
  replace HB : Aside0 (Below w.heap.size w v2) := ⟨HB.out.trans (hB.out.mono HB.out.size)⟩
  clear hB hl
  go_wp2_with fail
  refine (aw_times Ap Aq cp cq _ Hp.out Hq.out).mono ?_
  rintro e w1 ⟨At, ct, rfl, hct, Ht, hB⟩
  replace Hp := Aside0.mk (Hp.out.below hB.out)
  replace Hq := Aside0.mk (Hq.out.below hB.out)
  replace HB : Aside0 (Below w.heap.size w w1) := ⟨HB.out.trans (hB.out.mono HB.out.size)⟩
  clear hB
  go_wp2_with fail
  obtain ⟨X3, hX⟩ : ∃ X, w1.alloc (.cells #[.int .i64 7, .int .i64 0, .int .i64 0, .int .i64 2] 2) = X := ⟨_, rfl⟩
  have nX : Below w1.heap.size w1 X3 := by rw [← hX]; exact (Below.refl _ _).alloc (Nat.le_refl _) _
  have hl : Kd.C (Kd.int .i64) X3 (some ⟨w1.heap.size, 0, none⟩) 4 [7, 0, 0, 2] := by rw [← hX]; exact lit64 w1 [7, 0, 0, 2] 4 _ rfl rfl (by decide)
  replace Ht := Aside0.mk (Ht.out.below nX)
  replace HB : Aside0 (Below w.heap.size w X3) := ⟨HB.out.trans (nX.mono HB.out.size)⟩
  rw [hX]
  clear hX nX
  refine (row_z [7, 0, 0, 2] (by decide) (by decide) _ 4 4 rfl (Nat.le_refl _) _ hl).mono ?_
  rintro e v3 ⟨Ad, cd, rfl, hcd, Hd, hB⟩
  replace Ht := Aside0.mk (Ht.out.below hB.out)
  replace HB : Aside0 (Below w.heap.size w v3) := ⟨HB.out.trans (hB.out.mono HB.out.size)⟩
  clear hB hl
  go_wp2_with fail
  obtain ⟨X4, hX⟩ : ∃ X, v3.alloc (.cells #[.int .i64 3, .int .i64 (-1)] 2) = X := ⟨_, rfl⟩
  have nX : Below v3.heap.size v3 X4 := by rw [← hX]; exact (Below.refl _ _).alloc (Nat.le_refl _) _
  have hl : Kd.C (Kd.int .i64) X4 (some ⟨v3.heap.size, 0, none⟩) 2 [3, -1] := by rw [← hX]; exact lit64 v3 [3, -1] 2 _ rfl rfl (by decide)
  replace Ht := Aside0.mk (Ht.out.below nX)
  replace Hd := Aside0.mk (Hd.out.below nX)
  replace HB : Aside0 (Below w.heap.size w X4) := ⟨HB.out.trans (nX.mono HB.out.size)⟩
  rw [hX]
  clear hX nX
  refine (row_z [3, -1] (by decide) (by decide) _ 2 2 rfl (Nat.le_refl _) _ hl).mono ?_
  rintro e v4 ⟨Ae, ce, rfl, hce, He, hB⟩
  replace Ht := Aside0.mk (Ht.out.below hB.out)
  replace Hd := Aside0.mk (Hd.out.below hB.out)
  replace HB : Aside0 (Below w.heap.size w v4) := ⟨HB.out.trans (hB.out.mono HB.out.size)⟩
  clear hB hl
  go_wp2_with fail
  refine (aw_div Ad Ae cd ce hce _ Hd.out He.out).mono ?_
  rintro e w2 ⟨Af, cf, Ag, cg, rfl, hcf, hcg, Hf, Hg, hB⟩
  replace Ht := Aside0.mk (Ht.out.below hB.out)
  replace Hd := Aside0.mk (Hd.out.below hB.out)
  replace He := Aside0.mk (He.out.below hB.out)
  replace HB : Aside0 (Below w.heap.size w w2) := ⟨HB.out.trans (hB.out.mono HB.out.size)⟩
  clear hB
  go_wp2_with fail
  obtain ⟨X5, hX⟩ : ∃ X, w2.alloc (.cells #[.int .i64 1, .int .i64 2, .int .i64 3] 2) = X := ⟨_, rfl⟩
  have nX : Below w2.heap.size w2 X5 := by rw [← hX]; exact (Below.refl _ _).alloc (Nat.le_refl _) _
  have hl : Kd.C (Kd.int .i64) X5 (some ⟨w2.heap.size, 0, none⟩) 3 [1, 2, 3] := by rw [← hX]; exact lit64 w2 [1, 2, 3] 3 _ rfl rfl (by decide)
  replace Ht := Aside0.mk (Ht.out.below nX)
  replace Hf := Aside0.mk (Hf.out.below nX)
  replace Hg := Aside0.mk (Hg.out.below nX)
  replace HB : Aside0 (Below w.heap.size w X5) := ⟨HB.out.trans (nX.mono HB.out.size)⟩
  rw [hX]
  clear hX nX
  refine (row_z [1, 2, 3] (by decide) (by decide) _ 3 3 rfl (Nat.le_refl _) _ hl).mono ?_
  rintro e v5 ⟨Aa, ca, rfl, hca, Ha, hB⟩
  replace Ht := Aside0.mk (Ht.out.below hB.out)
  replace Hf := Aside0.mk (Hf.out.below hB.out)
  replace Hg := Aside0.mk (Hg.out.below hB.out)
  replace HB : Aside0 (Below w.heap.size w v5) := ⟨HB.out.trans (hB.out.mono HB.out.size)⟩
  clear hB hl
  go_wp2_with fail
  refine (of_z 10 (by decide) (by decide) _).mono ?_
  rintro e w3 ⟨Ax, cx, rfl, Hx, hB⟩
  replace Ht := Aside0.mk (Ht.out.below hB.out)
  replace Hf := Aside0.mk (Hf.out.below hB.out)
  replace Hg := Aside0.mk (Hg.out.below hB.out)
  replace Ha := Aside0.mk (Ha.out.below hB.out)
  replace HB : Aside0 (Below w.heap.size w w3) := ⟨HB.out.trans (hB.out.mono HB.out.size)⟩
  clear hB
  go_wp2_with fail
  refine (aw_at Aa Ax ca cx _ Ha.out Hx.out).mono ?_
  rintro e w4 ⟨Ay, cy, rfl, Hy, hB⟩
  replace Ht := Aside0.mk (Ht.out.below hB.out)
  replace Hf := Aside0.mk (Hf.out.below hB.out)
  replace Hg := Aside0.mk (Hg.out.below hB.out)
  replace Ha := Aside0.mk (Ha.out.below hB.out)
  replace Hx := Aside0.mk (Hx.out.below hB.out)
  replace HB : Aside0 (Below w.heap.size w w4) := ⟨HB.out.trans (hB.out.mono HB.out.size)⟩
  clear hB
  go_wp2_with fail
  obtain ⟨Y, hX⟩ : ∃ X, w4.alloc (.cells #[.bool (sg 321), .slice Ay (lm 321).length cy] 25) = X := ⟨_, rfl⟩
  have nX : Below w4.heap.size w4 Y := by rw [← hX]; exact (Below.refl _ _).alloc (Nat.le_refl _) _
  have HYZ : Aside0 (w4.heap.size + 1 = Y.heap.size) := ⟨by rw [← hX]; simp⟩
  have HY : Aside0 (BV Y w4.heap.size Ay cy 321) := ⟨by rw [← hX]; exact BV.new Hy.out⟩
  replace Ht := Aside0.mk (Ht.out.below nX)
  replace Hf := Aside0.mk (Hf.out.below nX)
  replace Hg := Aside0.mk (Hg.out.below nX)
  replace Hy := Aside0.mk (Hy.out.below nX)
  replace HB : Aside0 (Below w.heap.size w Y) := ⟨HB.out.trans (nX.mono HB.out.size)⟩
  rw [hX]
  clear hX nX
  go_wp2_with fail
  rw [HYZ.out]
  obtain ⟨X6, hX⟩ : ∃ X, Y.alloc (.cells #[.int .i64 0, .int .i64 0, .int .i64 1] 2) = X := ⟨_, rfl⟩
  have nX : Below Y.heap.size Y X6 := by rw [← hX]; exact (Below.refl _ _).alloc (Nat.le_refl _) _
  have hl : Kd.C (Kd.int .i64) X6 (some ⟨Y.heap.size, 0, none⟩) 3 [0, 0, 1] := by rw [← hX]; exact lit64 Y [0, 0, 1] 3 _ rfl rfl (by decide)
  replace Ht := Aside0.mk (Ht.out.below nX)
  replace Hf := Aside0.mk (Hf.out.below nX)
  replace Hg := Aside0.mk (Hg.out.below nX)
  replace Hy := Aside0.mk (Hy.out.below nX)
  replace HY := Aside0.mk (HY.out.below nX)
  replace HB : Aside0 (Below w.heap.size w X6) := ⟨HB.out.trans (nX.mono HB.out.size)⟩
  rw [hX]
  clear hX nX
  refine (row_z [0, 0, 1] (by decide) (by decide) _ 3 3 rfl (Nat.le_refl _) _ hl).mono ?_
  rintro e v6 ⟨As, cs, rfl, hcs, Hs, hB⟩
  replace Ht := Aside0.mk (Ht.out.below hB.out)
  replace Hf := Aside0.mk (Hf.out.below hB.out)
  replace Hg := Aside0.mk (Hg.out.below hB.out)
  replace Hy := Aside0.mk (Hy.out.below hB.out)
  replace HY := Aside0.mk (HY.out.below hB.out)
  replace HB : Aside0 (Below w.heap.size w v6) := ⟨HB.out.trans (hB.out.mono HB.out.size)⟩
  clear hB hl
  go_wp2_with fail
  refine (of_z 3 (by decide) (by decide) _).mono ?_
  rintro e w5 ⟨Az, cz, rfl, Hz, hB⟩
  replace Ht := Aside0.mk (Ht.out.below hB.out)
  replace Hf := Aside0.mk (Hf.out.below hB.out)
  replace Hg := Aside0.mk (Hg.out.below hB.out)
  replace Hy := Aside0.mk (Hy.out.below hB.out)
  replace HY := Aside0.mk (HY.out.below hB.out)
  replace Hs := Aside0.mk (Hs.out.below hB.out)
  replace HB : Aside0 (Below w.heap.size w w5) := ⟨HB.out.trans (hB.out.mono HB.out.size)⟩
  clear hB
  go_wp2_with fail
  refine (aw_shift As Az cs cz _ Hs.out Hz.out).mono ?_
  rintro e w6 ⟨Au, cu, rfl, hcu, Hu, hB⟩
  replace Ht := Aside0.mk (Ht.out.below hB.out)
  replace Hf := Aside0.mk (Hf.out.below hB.out)
  replace Hg := Aside0.mk (Hg.out.below hB.out)
  replace Hy := Aside0.mk (Hy.out.below hB.out)
  replace HY := Aside0.mk (HY.out.below hB.out)
  replace Hs := Aside0.mk (Hs.out.below hB.out)
  replace Hz := Aside0.mk (Hz.out.below hB.out)
  replace HB : Aside0 (Below w.heap.size w w6) := ⟨HB.out.trans (hB.out.mono HB.out.size)⟩
  clear hB
  go_upto_region 5 with fail
  obtain ⟨y0, y1, _⟩ := HY.out.cells
  refine start_ (n := 44) (S := fun w' => Below w6.heap.size w6 w') (ds := []) #[false, false, false, false, false, false, false, false, false, false, false, false, false, false, false, false, false, false, false, false, false, false, false, false, false, false, false, false, false, false, false, false, false, false, false, false, false, false, false, false, false, false, false, false] (by kernel_rfl) rfl rfl (Below.refl _ _).drew (fun hHeld => ?_)
  generalize w6.drew = WD at hHeld ⊢
  refine pure_ (i := 0) (N := some 41) (v := ?_) (a' := ?_) #[true, false, false, false, false, false, false, false, false, false, false, false, false, false, false, false, false, false, false, false, false, false, false, false, false, false, false, false, false, false, false, false, false, false, false, false, false, false, false, false, false, false, false, false] rfl rfl (by kernel_rfl) (fun _ _ _ h => h) (Or.inl ⟨by rfl, ?_⟩) ?_ ?_
  rotate_left
  · intro w'
    go_simp
    with_reducible rfl
  rotate_left
  · simp only [Act.put, List.setIfInBounds_toArray, List.set_cons_zero, List.set_cons_succ, i64_w, i32_w]
    rfl
  refine pure_ (i := 1) (N := some 42) (v := ?_) (a' := ?_) #[true, true, false, false, false, false, false, false, false, false, false, false, false, false, false, false, false, false, false, false, false, false, false, false, false, false, false, false, false, false, false, false, false, false, false, false, false, false, false, false, false, false, false, false] rfl rfl (by kernel_rfl) (fun _ _ _ h => h) (Or.inl ⟨by rfl, ?_⟩) ?_ ?_
  rotate_left
  · intro w'
    go_simp
    with_reducible rfl
  rotate_left
  · simp only [Act.put, List.setIfInBounds_toArray, List.set_cons_zero, List.set_cons_succ, i64_w, i32_w]
    rfl
  refine pure_ (i := 2) (N := some 43) (v := ?_) (a' := ?_) #[true, true, true, false, false, false, false, false, false, false, false, false, false, false, false, false, false, false, false, false, false, false, false, false, false, false, false, false, false, false, false, false, false, false, false, false, false, false, false, false, false, false, false, false] rfl rfl (by kernel_rfl) (fun _ _ _ h => h) (Or.inl ⟨by rfl, ?_⟩) ?_ ?_
  rotate_left
  · intro w'
    go_simp
    with_reducible rfl
  rotate_left
  · simp only [Act.put, List.setIfInBounds_toArray, List.set_cons_zero, List.set_cons_succ, i64_w, i32_w]
    rfl
  refine pure_ (i := 3) (N := some 44) (v := ?_) (a' := ?_) #[true, true, true, true, false, false, false, false, false, false, false, false, false, false, false, false, false, false, false, false, false, false, false, false, false, false, false, false, false, false, false, false, false, false, false, false, false, false, false, false, false, false, false, false] rfl rfl (by kernel_rfl) (fun _ _ _ h => h) (Or.inl ⟨by rfl, ?_⟩) ?_ ?_
  rotate_left
  · intro w'
    go_simp
    with_reducible rfl
  rotate_left
  · simp only [Act.put, List.setIfInBounds_toArray, List.set_cons_zero, List.set_cons_succ, i64_w, i32_w]
    rfl
  refine pure_ (i := 4) (N := some 45) (v := ?_) (a' := ?_) #[true, true, true, true, true, false, false, false, false, false, false, false, false, false, false, false, false, false, false, false, false, false, false, false, false, false, false, false, false, false, false, false, false, false, false, false, false, false, false, false, false, false, false, false] rfl rfl (by kernel_rfl) (fun _ _ _ h => h) (Or.inl ⟨by rfl, ?_⟩) ?_ ?_
  rotate_left
  · intro w'
    go_simp
    with_reducible rfl
  rotate_left
  · simp only [Act.put, List.setIfInBounds_toArray, List.set_cons_zero, List.set_cons_succ, i64_w, i32_w]
    rfl
  refine pure_ (i := 5) (N := some 46) (v := ?_) (a' := ?_) #[true, true, true, true, true, true, false, false, false, false, false, false, false, false, false, false, false, false, false, false, false, false, false, false, false, false, false, false, false, false, false, false, false, false, false, false, false, false, false, false, false, false, false, false] rfl rfl (by kernel_rfl) (fun _ _ _ h => h) (Or.inl ⟨by rfl, ?_⟩) ?_ ?_
  rotate_left
  · intro w'
    go_simp
    with_reducible rfl
  rotate_left
  · simp only [Act.put, List.setIfInBounds_toArray, List.set_cons_zero, List.set_cons_succ, i64_w, i32_w]
    rfl
  refine pure_ (i := 6) (N := some 47) (v := ?_) (a' := ?_) #[true, true, true, true, true, true, true, false, false, false, false, false, false, false, false, false, false, false, false, false, false, false, false, false, false, false, false, false, false, false, false, false, false, false, false, false, false, false, false, false, false, false, false, false] rfl rfl (by kernel_rfl) (fun _ _ _ h => h) (Or.inl ⟨by rfl, ?_⟩) ?_ ?_
  rotate_left
  · intro w'
    go_simp
    with_reducible rfl
  rotate_left
  · simp only [Act.put, List.setIfInBounds_toArray, List.set_cons_zero, List.set_cons_succ, i64_w, i32_w]
    rfl
  refine pure_ (i := 7) (N := some 48) (v := ?_) (a' := ?_) #[true, true, true, true, true, true, true, true, false, false, false, false, false, false, false, false, false, false, false, false, false, false, false, false, false, false, false, false, false, false, false, false, false, false, false, false, false, false, false, false, false, false, false, false] rfl rfl (by kernel_rfl) (fun _ _ _ h => h) (Or.inl ⟨by rfl, ?_⟩) ?_ ?_
  rotate_left
  · intro w'
    go_simp
    with_reducible rfl
  rotate_left
  · simp only [Act.put, List.setIfInBounds_toArray, List.set_cons_zero, List.set_cons_succ, i64_w, i32_w]
    rfl
  refine pure_ (i := 8) (N := some 49) (v := ?_) (a' := ?_) #[true, true, true, true, true, true, true, true, true, false, false, false, false, false, false, false, false, false, false, false, false, false, false, false, false, false, false, false, false, false, false, false, false, false, false, false, false, false, false, false, false, false, false, false] rfl rfl (by kernel_rfl) (fun _ _ _ h => h) (Or.inl ⟨by rfl, ?_⟩) ?_ ?_
  rotate_left
  · intro w'
    go_simp
    with_reducible rfl
  rotate_left
  · simp only [Act.put, List.setIfInBounds_toArray, List.set_cons_zero, List.set_cons_succ, i64_w, i32_w]
    rfl
  refine pure_ (i := 9) (N := some 50) (v := ?_) (a' := ?_) #[true, true, true, true, true, true, true, true, true, true, false, false, false, false, false, false, false, false, false, false, false, false, false, false, false, false, false, false, false, false, false, false, false, false, false, false, false, false, false, false, false, false, false, false] rfl rfl (by kernel_rfl) (fun _ _ _ h => h) (Or.inl ⟨by rfl, ?_⟩) ?_ ?_
  rotate_left
  · intro w'
    go_simp
    with_reducible rfl
  rotate_left
  · simp only [Act.put, List.setIfInBounds_toArray, List.set_cons_zero, List.set_cons_succ, i64_w, i32_w]
    rfl
  refine pure_ (i := 10) (N := some 51) (v := ?_) (a' := ?_) #[true, true, true, true, true, true, true, true, true, true, true, false, false, false, false, false, false, false, false, false, false, false, false, false, false, false, false, false, false, false, false, false, false, false, false, false, false, false, false, false, false, false, false, false] rfl rfl (by kernel_rfl) (fun _ _ _ h => h) (Or.inl ⟨by rfl, ?_⟩) ?_ ?_
  rotate_left
  · intro w'
    go_simp
    with_reducible rfl
  rotate_left
  · simp only [Act.put, List.setIfInBounds_toArray, List.set_cons_zero, List.set_cons_succ, i64_w, i32_w]
    rfl
  refine pure_ (i := 11) (N := some 52) (v := ?_) (a' := ?_) #[true, true, true, true, true, true, true, true, true, true, true, true, false, false, false, false, false, false, false, false, false, false, false, false, false, false, false, false, false, false, false, false, false, false, false, false, false, false, false, false, false, false, false, false] rfl rfl (by kernel_rfl) (fun _ _ _ h => h) (Or.inl ⟨by rfl, ?_⟩) ?_ ?_
  rotate_left
  · intro w'
    go_simp
    with_reducible rfl
  rotate_left
  · simp only [Act.put, List.setIfInBounds_toArray, List.set_cons_zero, List.set_cons_succ, i64_w, i32_w]
    rfl
  refine pure_ (i := 12) (N := some 53) (v := ?_) (a' := ?_) #[true, true, true, true, true, true, true, true, true, true, true, true, true, false, false, false, false, false, false, false, false, false, false, false, false, false, false, false, false, false, false, false, false, false, false, false, false, false, false, false, false, false, false, false] rfl rfl (by kernel_rfl) (fun _ _ _ h => h) (Or.inl ⟨by rfl, ?_⟩) ?_ ?_
  rotate_left
  · intro w'
    go_simp
    with_reducible rfl
  rotate_left
  · simp only [Act.put, List.setIfInBounds_toArray, List.set_cons_zero, List.set_cons_succ, i64_w, i32_w]
    rfl
  refine pure_ (i := 13) (N := some 54) (v := ?_) (a' := ?_) #[true, true, true, true, true, true, true, true, true, true, true, true, true, true, false, false, false, false, false, false, false, false, false, false, false, false, false, false, false, false, false, false, false, false, false, false, false, false, false, false, false, false, false, false] rfl rfl (by kernel_rfl) (fun _ _ _ h => h) (Or.inl ⟨by rfl, ?_⟩) ?_ ?_
  rotate_left
  · intro w'
    go_simp
    with_reducible rfl
  rotate_left
  · simp only [Act.put, List.setIfInBounds_toArray, List.set_cons_zero, List.set_cons_succ, i64_w, i32_w]
    rfl
  refine pure_ (i := 14) (N := some 55) (v := ?_) (a' := ?_) #[true, true, true, true, true, true, true, true, true, true, true, true, true, true, true, false, false, false, false, false, false, false, false, false, false, false, false, false, false, false, false, false, false, false, false, false, false, false, false, false, false, false, false, false] rfl rfl (by kernel_rfl) (fun _ _ _ h => h) (Or.inl ⟨by rfl, ?_⟩) ?_ ?_
  rotate_left
  · intro w'
    go_simp
    with_reducible rfl
  rotate_left
  · simp only [Act.put, List.setIfInBounds_toArray, List.set_cons_zero, List.set_cons_succ, i64_w, i32_w]
    rfl
  refine pure_ (i := 15) (N := some 56) (v := ?_) (a' := ?_) #[true, true, true, true, true, true, true, true, true, true, true, true, true, true, true, true, false, false, false, false, false, false, false, false, false, false, false, false, false, false, false, false, false, false, false, false, false, false, false, false, false, false, false, false] rfl rfl (by kernel_rfl) (fun _ _ _ h => h) (Or.inl ⟨by rfl, ?_⟩) ?_ ?_
  rotate_left
  · intro w'
    go_simp
    with_reducible rfl
  rotate_left
  · simp only [Act.put, List.setIfInBounds_toArray, List.set_cons_zero, List.set_cons_succ, i64_w, i32_w]
    rfl
  refine one_ (i := 16) (N := some 57) #[true, true, true, true, true, true, true, true, true, true, true, true, true, true, true, true, true, false, false, false, false, false, false, false, false, false, false, false, false, false, false, false, false, false, false, false, false, false, false, false, false, false, false, false] rfl rfl (by kernel_rfl) (by decide) (fun K hK => ?_)
  refine value_ (w1 := ?_) (v := ?_) (by rfl) rfl ?_ ?_
  rotate_left 2
  · go_simp
    constructor
    · rfl
    · rfl
  obtain ⟨XX0, hX⟩ : ∃ X, WD.alloc (.cells #[.int .i64 1, .int .i64 0, .int .i64 (-1)] 2) = X := ⟨_, rfl⟩
  have nX : Below WD.heap.size WD XX0 := by rw [← hX]; exact (Below.refl _ _).alloc (Nat.le_refl _) _
  have HXX0 : Aside0 (Below w6.heap.size w6 XX0) := ⟨hHeld.trans (nX.mono hHeld.size)⟩
  have hl0 : Kd.C (Kd.int .i64) XX0 (some ⟨WD.heap.size, 0, none⟩) 3 [1, 0, -1] := by rw [← hX]; exact lit64 _ [1, 0, -1] 3 _ rfl rfl (by decide)
  rw [hX]
  clear hX nX
  refine hK.out _ _ HXX0.out ?_
  clear hHeld hK K
  intro hHeld
  refine norm_ (a' := ?_) ?_ ?_
  rotate_left
  · show Act.put _ (some 57) _ = _
    simp only [Act.put, List.setIfInBounds_toArray, List.set_cons_zero, List.set_cons_succ, i64_w, i32_w]
    rfl
  refine one_ (i := 17) (N := some 58) #[true, true, true, true, true, true, true, true, true, true, true, true, true, true, true, true, true, true, false, false, false, false, false, false, false, false, false, false, false, false, false, false, false, false, false, false, false, false, false, false, false, false, false, false] rfl rfl (by kernel_rfl) (by decide) (fun K hK => ?_)
  refine goes_ Try.func26 (by kernel_rfl) rfl #[.slice (some ⟨WD.heap.size, 0, none⟩) 3 3] (by rfl) rfl rfl (by (try simp only [List.map_toArray, List.map_cons, List.map_nil]); first | done | rfl) ?_
  refine (row_z [1, 0, -1] (by decide) (by decide) _ 3 3 rfl (Nat.le_refl _) _ hl0).mono ?_
  rintro e u0 ⟨BB0, ee0, rfl, he0, KK0, hBu0⟩
  refine ⟨_, rfl, ?_⟩
  have HU0 : Aside0 (Below w6.heap.size w6 u0) := ⟨hHeld.trans (hBu0.out.mono hHeld.size)⟩
  refine hK.out _ _ HU0.out ?_
  clear hHeld hK K
  intro hHeld
  refine norm_ (a' := ?_) ?_ ?_
  rotate_left
  · show Act.put _ (some 58) _ = _
    simp only [Act.put, List.setIfInBounds_toArray, List.set_cons_zero, List.set_cons_succ, i64_w, i32_w]
    rfl
  refine one_ (i := 18) (N := some 59) #[true, true, true, true, true, true, true, true, true, true, true, true, true, true, true, true, true, true, true, false, false, false, false, false, false, false, false, false, false, false, false, false, false, false, false, false, false, false, false, false, false, false, false, false] rfl rfl (by kernel_rfl) (by decide) (fun K hK => ?_)
  refine goes_ Try.func21 (by kernel_rfl) rfl #[.slice At 3 ct, .slice BB0 3 ee0] (by rfl) rfl rfl (by (try simp only [List.map_toArray, List.map_cons, List.map_nil]); first | done | rfl) ?_
  refine (same_z [1, 0, -1] (small_lim (by decide) (by omega)) (by decide) At BB0 3 3 ct ee0 rfl rfl hct he0 _ (Ht.out.below hHeld) KK0.out).mono ?_
  rintro e u1 ⟨rfl, hBu1⟩
  refine ⟨_, rfl, ?_⟩
  have HU1 : Aside0 (Below w6.heap.size w6 u1) := ⟨hHeld.trans (hBu1.out.mono hHeld.size)⟩
  refine hK.out _ _ HU1.out ?_
  clear hHeld hK K
  intro hHeld
  refine norm_ (a' := ?_) ?_ ?_
  rotate_left
  · show Act.put _ (some 59) _ = _
    simp only [Act.put, List.setIfInBounds_toArray, List.set_cons_zero, List.set_cons_succ, i64_w, i32_w]
    rfl
  refine pure_ (i := 19) (N := some 60) (v := ?_) (a' := ?_) #[true, true, true, true, true, true, true, true, true, true, true, true, true, true, true, true, true, true, true, true, false, false, false, false, false, false, false, false, false, false, false, false, false, false, false, false, false, false, false, false, false, false, false, false] rfl rfl (by kernel_rfl) (fun _ _ _ h => h) (Or.inl ⟨by rfl, ?_⟩) ?_ ?_
  rotate_left
  · intro w'
    go_simp
    with_reducible rfl
  rotate_left
  · simp only [Act.put, List.setIfInBounds_toArray, List.set_cons_zero, List.set_cons_succ, i64_w, i32_w]
    rfl
  refine pure_ (i := 20) (N := some 61) (v := ?_) (a' := ?_) #[true, true, true, true, true, true, true, true, true, true, true, true, true, true, true, true, true, true, true, true, true, false, false, false, false, false, false, false, false, false, false, false, false, false, false, false, false, false, false, false, false, false, false, false] rfl rfl (by kernel_rfl) (fun _ _ _ h => h) (Or.inl ⟨by rfl, ?_⟩) ?_ ?_
  rotate_left
  · intro w'
    go_simp
    with_reducible rfl
  rotate_left
  · simp only [Act.put, List.setIfInBounds_toArray, List.set_cons_zero, List.set_cons_succ, i64_w, i32_w]
    rfl
  refine pure_ (i := 21) (N := some 62) (v := ?_) (a' := ?_) #[true, true, true, true, true, true, true, true, true, true, true, true, true, true, true, true, true, true, true, true, true, true, false, false, false, false, false, false, false, false, false, false, false, false, false, false, false, false, false, false, false, false, false, false] rfl rfl (by kernel_rfl) (fun _ _ _ h => h) (Or.inl ⟨by rfl, ?_⟩) ?_ ?_
  rotate_left
  · intro w'
    go_simp
    with_reducible rfl
  rotate_left
  · simp only [Act.put, List.setIfInBounds_toArray, List.set_cons_zero, List.set_cons_succ, i64_w, i32_w]
    rfl
  refine one_ (i := 22) (N := some 63) #[true, true, true, true, true, true, true, true, true, true, true, true, true, true, true, true, true, true, true, true, true, true, true, false, false, false, false, false, false, false, false, false, false, false, false, false, false, false, false, false, false, false, false, false] rfl rfl (by kernel_rfl) (by decide) (fun K hK => ?_)
  refine value_ (w1 := ?_) (v := ?_) (by rfl) rfl ?_ ?_
  rotate_left 2
  · go_simp
    constructor
    · rfl
    · rfl
  obtain ⟨XX1, hX⟩ : ∃ X, u1.alloc (.cells #[.int .i64 (-18), .int .i64 (-6), .int .i64 (-2)] 2) = X := ⟨_, rfl⟩
  have nX : Below u1.heap.size u1 XX1 := by rw [← hX]; exact (Below.refl _ _).alloc (Nat.le_refl _) _
  have HXX1 : Aside0 (Below w6.heap.size w6 XX1) := ⟨hHeld.trans (nX.mono hHeld.size)⟩
  have hl1 : Kd.C (Kd.int .i64) XX1 (some ⟨u1.heap.size, 0, none⟩) 3 [-18, -6, -2] := by rw [← hX]; exact lit64 _ [-18, -6, -2] 3 _ rfl rfl (by decide)
  rw [hX]
  clear hX nX
  refine hK.out _ _ HXX1.out ?_
  clear hHeld hK K
  intro hHeld
  refine norm_ (a' := ?_) ?_ ?_
  rotate_left
  · show Act.put _ (some 63) _ = _
    simp only [Act.put, List.setIfInBounds_toArray, List.set_cons_zero, List.set_cons_succ, i64_w, i32_w]
    rfl
  refine one_ (i := 23) (N := some 64) #[true, true, true, true, true, true, true, true, true, true, true, true, true, true, true, true, true, true, true, true, true, true, true, true, false, false, false, false, false, false, false, false, false, false, false, false, false, false, false, false, false, false, false, false] rfl rfl (by kernel_rfl) (by decide) (fun K hK => ?_)
  refine goes_ Try.func26 (by kernel_rfl) rfl #[.slice (some ⟨u1.heap.size, 0, none⟩) 3 3] (by rfl) rfl rfl (by (try simp only [List.map_toArray, List.map_cons, List.map_nil]); first | done | rfl) ?_
  refine (row_z [-18, -6, -2] (by decide) (by decide) _ 3 3 rfl (Nat.le_refl _) _ hl1).mono ?_
  rintro e u2 ⟨BB1, ee1, rfl, he1, KK1, hBu2⟩
  refine ⟨_, rfl, ?_⟩
  have HU2 : Aside0 (Below w6.heap.size w6 u2) := ⟨hHeld.trans (hBu2.out.mono hHeld.size)⟩
  refine hK.out _ _ HU2.out ?_
  clear hHeld hK K
  intro hHeld
  refine norm_ (a' := ?_) ?_ ?_
  rotate_left
  · show Act.put _ (some 64) _ = _
    simp only [Act.put, List.setIfInBounds_toArray, List.set_cons_zero, List.set_cons_succ, i64_w, i32_w]
    rfl
  refine one_ (i := 24) (N := some 65) #[true, true, true, true, true, true, true, true, true, true, true, true, true, true, true, true, true, true, true, true, true, true, true, true, true, false, false, false, false, false, false, false, false, false, false, false, false, false, false, false, false, false, false, false] rfl rfl (by kernel_rfl) (by decide) (fun K hK => ?_)
  refine goes_ Try.func21 (by kernel_rfl) rfl #[.slice Af 3 cf, .slice BB1 3 ee1] (by rfl) rfl rfl (by (try simp only [List.map_toArray, List.map_cons, List.map_nil]); first | done | rfl) ?_
  refine (same_z [-18, -6, -2] (small_lim (by decide) (by omega)) (by decide) Af BB1 3 3 cf ee1 rfl rfl hcf he1 _ (Hf.out.below hHeld) KK1.out).mono ?_
  rintro e u3 ⟨rfl, hBu3⟩
  refine ⟨_, rfl, ?_⟩
  have HU3 : Aside0 (Below w6.heap.size w6 u3) := ⟨hHeld.trans (hBu3.out.mono hHeld.size)⟩
  refine hK.out _ _ HU3.out ?_
  clear hHeld hK K
  intro hHeld
  refine norm_ (a' := ?_) ?_ ?_
  rotate_left
  · show Act.put _ (some 65) _ = _
    simp only [Act.put, List.setIfInBounds_toArray, List.set_cons_zero, List.set_cons_succ, i64_w, i32_w]
    rfl
  refine pure_ (i := 25) (N := some 66) (v := ?_) (a' := ?_) #[true, true, true, true, true, true, true, true, true, true, true, true, true, true, true, true, true, true, true, true, true, true, true, true, true, true, false, false, false, false, false, false, false, false, false, false, false, false, false, false, false, false, false, false] rfl rfl (by kernel_rfl) (fun _ _ _ h => h) (Or.inl ⟨by rfl, ?_⟩) ?_ ?_
  rotate_left
  · intro w'
    go_simp
    with_reducible rfl
  rotate_left
  · simp only [Act.put, List.setIfInBounds_toArray, List.set_cons_zero, List.set_cons_succ, i64_w, i32_w]
    rfl
  refine pure_ (i := 26) (N := some 67) (v := ?_) (a' := ?_) #[true, true, true, true, true, true, true, true, true, true, true, true, true, true, true, true, true, true, true, true, true, true, true, true, true, true, true, false, false, false, false, false, false, false, false, false, false, false, false, false, false, false, false, false] rfl rfl (by kernel_rfl) (fun _ _ _ h => h) (Or.inl ⟨by rfl, ?_⟩) ?_ ?_
  rotate_left
  · intro w'
    go_simp
    with_reducible rfl
  rotate_left
  · simp only [Act.put, List.setIfInBounds_toArray, List.set_cons_zero, List.set_cons_succ, i64_w, i32_w]
    rfl
  refine pure_ (i := 27) (N := some 68) (v := ?_) (a' := ?_) #[true, true, true, true, true, true, true, true, true, true, true, true, true, true, true, true, true, true, true, true, true, true, true, true, true, true, true, true, false, false, false, false, false, false, false, false, false, false, false, false, false, false, false, false] rfl rfl (by kernel_rfl) (fun _ _ _ h => h) (Or.inl ⟨by rfl, ?_⟩) ?_ ?_
  rotate_left
  · intro w'
    go_simp
    with_reducible rfl
  rotate_left
  · simp only [Act.put, List.setIfInBounds_toArray, List.set_cons_zero, List.set_cons_succ, i64_w, i32_w]
    rfl
  refine one_ (i := 28) (N := some 69) #[true, true, true, true, true, true, true, true, true, true, true, true, true, true, true, true, true, true, true, true, true, true, true, true, true, true, true, true, true, false, false, false, false, false, false, false, false, false, false, false, false, false, false, false] rfl rfl (by kernel_rfl) (by decide) (fun K hK => ?_)
  refine value_ (w1 := ?_) (v := ?_) (by rfl) rfl ?_ ?_
  rotate_left 2
  · go_simp
    constructor
    · rfl
    · rfl
  obtain ⟨XX2, hX⟩ : ∃ X, u3.alloc (.cells #[.int .i64 61] 2) = X := ⟨_, rfl⟩
  have nX : Below u3.heap.size u3 XX2 := by rw [← hX]; exact (Below.refl _ _).alloc (Nat.le_refl _) _
  have HXX2 : Aside0 (Below w6.heap.size w6 XX2) := ⟨hHeld.trans (nX.mono hHeld.size)⟩
  have hl2 : Kd.C (Kd.int .i64) XX2 (some ⟨u3.heap.size, 0, none⟩) 1 [61] := by rw [← hX]; exact lit64 _ [61] 1 _ rfl rfl (by decide)
  rw [hX]
  clear hX nX
  refine hK.out _ _ HXX2.out ?_
  clear hHeld hK K
  intro hHeld
  refine norm_ (a' := ?_) ?_ ?_
  rotate_left
  · show Act.put _ (some 69) _ = _
    simp only [Act.put, List.setIfInBounds_toArray, List.set_cons_zero, List.set_cons_succ, i64_w, i32_w]
    rfl
  refine one_ (i := 29) (N := some 70) #[true, true, true, true, true, true, true, true, true, true, true, true, true, true, true, true, true, true, true, true, true, true, true, true, true, true, true, true, true, true, false, false, false, false, false, false, false, false, false, false, false, false, false, false] rfl rfl (by kernel_rfl) (by decide) (fun K hK => ?_)
  refine goes_ Try.func26 (by kernel_rfl) rfl #[.slice (some ⟨u3.heap.size, 0, none⟩) 1 1] (by rfl) rfl rfl (by (try simp only [List.map_toArray, List.map_cons, List.map_nil]); first | done | rfl) ?_
  refine (row_z [61] (by decide) (by decide) _ 1 1 rfl (Nat.le_refl _) _ hl2).mono ?_
  rintro e u4 ⟨BB2, ee2, rfl, he2, KK2, hBu4⟩
  refine ⟨_, rfl, ?_⟩
  have HU4 : Aside0 (Below w6.heap.size w6 u4) := ⟨hHeld.trans (hBu4.out.mono hHeld.size)⟩
  refine hK.out _ _ HU4.out ?_
  clear hHeld hK K
  intro hHeld
  refine norm_ (a' := ?_) ?_ ?_
  rotate_left
  · show Act.put _ (some 70) _ = _
    simp only [Act.put, List.setIfInBounds_toArray, List.set_cons_zero, List.set_cons_succ, i64_w, i32_w]
    rfl
  refine one_ (i := 30) (N := some 71) #[true, true, true, true, true, true, true, true, true, true, true, true, true, true, true, true, true, true, true, true, true, true, true, true, true, true, true, true, true, true, true, false, false, false, false, false, false, false, false, false, false, false, false, false] rfl rfl (by kernel_rfl) (by decide) (fun K hK => ?_)
  refine goes_ Try.func21 (by kernel_rfl) rfl #[.slice Ag 1 cg, .slice BB2 1 ee2] (by rfl) rfl rfl (by (try simp only [List.map_toArray, List.map_cons, List.map_nil]); first | done | rfl) ?_
  refine (same_z [61] (small_lim (by decide) (by omega)) (by decide) Ag BB2 1 1 cg ee2 rfl rfl hcg he2 _ (Hg.out.below hHeld) KK2.out).mono ?_
  rintro e u5 ⟨rfl, hBu5⟩
  refine ⟨_, rfl, ?_⟩
  have HU5 : Aside0 (Below w6.heap.size w6 u5) := ⟨hHeld.trans (hBu5.out.mono hHeld.size)⟩
  refine hK.out _ _ HU5.out ?_
  clear hHeld hK K
  intro hHeld
  refine norm_ (a' := ?_) ?_ ?_
  rotate_left
  · show Act.put _ (some 71) _ = _
    simp only [Act.put, List.setIfInBounds_toArray, List.set_cons_zero, List.set_cons_succ, i64_w, i32_w]
    rfl
  refine pure_ (i := 31) (N := some 72) (v := ?_) (a' := ?_) #[true, true, true, true, true, true, true, true, true, true, true, true, true, true, true, true, true, true, true, true, true, true, true, true, true, true, true, true, true, true, true, true, false, false, false, false, false, false, false, false, false, false, false, false] rfl rfl (by kernel_rfl) (fun _ _ _ h => h) (Or.inl ⟨by rfl, ?_⟩) ?_ ?_
  rotate_left
  · intro w'
    go_simp
    with_reducible rfl
  rotate_left
  · simp only [Act.put, List.setIfInBounds_toArray, List.set_cons_zero, List.set_cons_succ, i64_w, i32_w]
    rfl
  refine pure_ (i := 32) (N := some 73) (v := ?_) (a' := ?_) #[true, true, true, true, true, true, true, true, true, true, true, true, true, true, true, true, true, true, true, true, true, true, true, true, true, true, true, true, true, true, true, true, true, false, false, false, false, false, false, false, false, false, false, false] rfl rfl (by kernel_rfl) (fun _ _ _ h => h) (Or.inl ⟨by rfl, ?_⟩) ?_ ?_
  rotate_left
  · intro w'
    go_simp
    with_reducible rfl
  rotate_left
  · simp only [Act.put, List.setIfInBounds_toArray, List.set_cons_zero, List.set_cons_succ, i64_w, i32_w]
    rfl
  refine take_ (i := 33) (N := some 74) (v := ?_) (a' := ?_) #[true, true, true, true, true, true, true, true, true, true, true, true, true, true, true, true, true, true, true, true, true, true, true, true, true, true, true, true, true, true, true, true, true, true, false, false, false, false, false, false, false, false, false, false] rfl rfl (by kernel_rfl) (fun _ _ _ h => h) (Or.inl ⟨by rfl, ?_⟩) hHeld ?_ ?_
  rotate_left
  · intro w' s0
    have e0 := pw_cell_below s0 y0
    have e1 := pw_cell_below s0 y1
    go_simp
    with_reducible rfl
  rotate_left
  · simp only [Act.put, List.setIfInBounds_toArray, List.set_cons_zero, List.set_cons_succ, i64_w, i32_w]
    rfl
  refine one_ (i := 34) (N := some 75) #[true, true, true, true, true, true, true, true, true, true, true, true, true, true, true, true, true, true, true, true, true, true, true, true, true, true, true, true, true, true, true, true, true, true, true, false, false, false, false, false, false, false, false, false] rfl rfl (by kernel_rfl) (by decide) (fun K hK => ?_)
  refine goes_ Try.func23 (by kernel_rfl) rfl #[.int .i64 321] (by rfl) rfl rfl (by (try simp only [List.map_toArray, List.map_cons, List.map_nil]); first | done | rfl) ?_
  refine (of_z 321 (by decide) (by decide) _).mono ?_
  rintro e u6 ⟨BB3, ee3, rfl, KK3, hBu6⟩
  refine ⟨_, rfl, ?_⟩
  have HU6 : Aside0 (Below w6.heap.size w6 u6) := ⟨hHeld.trans (hBu6.out.mono hHeld.size)⟩
  refine hK.out _ _ HU6.out ?_
  clear hHeld hK K
  intro hHeld
  refine norm_ (a' := ?_) ?_ ?_
  rotate_left
  · show Act.put _ (some 75) _ = _
    simp only [Act.put, List.setIfInBounds_toArray, List.set_cons_zero, List.set_cons_succ, i64_w, i32_w]
    rfl
  refine one_ (i := 35) (N := some 76) #[true, true, true, true, true, true, true, true, true, true, true, true, true, true, true, true, true, true, true, true, true, true, true, true, true, true, true, true, true, true, true, true, true, true, true, true, false, false, false, false, false, false, false, false] rfl rfl (by kernel_rfl) (by decide) (fun K hK => ?_)
  refine goes_ Try.func20 (by kernel_rfl) rfl #[.agg #[.bool (sg 321), .slice Ay (lm 321).length cy], .agg #[.bool (sg 321), .slice BB3 (lm 321).length ee3]] (by rfl) rfl rfl (by (try simp only [List.map_toArray, List.map_cons, List.map_nil]); first | done | rfl) ?_
  refine (sameInt_z 321 (lim_le (lim_small (by decide)) (by omega)) Ay BB3 cy ee3 _ (Hy.out.below hHeld) KK3.out).mono ?_
  rintro e u7 ⟨rfl, hBu7⟩
  refine ⟨_, rfl, ?_⟩
  have HU7 : Aside0 (Below w6.heap.size w6 u7) := ⟨hHeld.trans (hBu7.out.mono hHeld.size)⟩
  refine hK.out _ _ HU7.out ?_
  clear hHeld hK K
  intro hHeld
  refine norm_ (a' := ?_) ?_ ?_
  rotate_left
  · show Act.put _ (some 76) _ = _
    simp only [Act.put, List.setIfInBounds_toArray, List.set_cons_zero, List.set_cons_succ, i64_w, i32_w]
    rfl
  refine pure_ (i := 36) (N := some 77) (v := ?_) (a' := ?_) #[true, true, true, true, true, true, true, true, true, true, true, true, true, true, true, true, true, true, true, true, true, true, true, true, true, true, true, true, true, true, true, true, true, true, true, true, true, false, false, false, false, false, false, false] rfl rfl (by kernel_rfl) (fun _ _ _ h => h) (Or.inl ⟨by rfl, ?_⟩) ?_ ?_
  rotate_left
  · intro w'
    go_simp
    with_reducible rfl
  rotate_left
  · simp only [Act.put, List.setIfInBounds_toArray, List.set_cons_zero, List.set_cons_succ, i64_w, i32_w]
    rfl
  refine pure_ (i := 37) (N := some 78) (v := ?_) (a' := ?_) #[true, true, true, true, true, true, true, true, true, true, true, true, true, true, true, true, true, true, true, true, true, true, true, true, true, true, true, true, true, true, true, true, true, true, true, true, true, true, false, false, false, false, false, false] rfl rfl (by kernel_rfl) (fun _ _ _ h => h) (Or.inl ⟨by rfl, ?_⟩) ?_ ?_
  rotate_left
  · intro w'
    go_simp
    with_reducible rfl
  rotate_left
  · simp only [Act.put, List.setIfInBounds_toArray, List.set_cons_zero, List.set_cons_succ, i64_w, i32_w]
    rfl
  refine pure_ (i := 38) (N := some 79) (v := ?_) (a' := ?_) #[true, true, true, true, true, true, true, true, true, true, true, true, true, true, true, true, true, true, true, true, true, true, true, true, true, true, true, true, true, true, true, true, true, true, true, true, true, true, true, false, false, false, false, false] rfl rfl (by kernel_rfl) (fun _ _ _ h => h) (Or.inl ⟨by rfl, ?_⟩) ?_ ?_
  rotate_left
  · intro w'
    go_simp
    with_reducible rfl
  rotate_left
  · simp only [Act.put, List.setIfInBounds_toArray, List.set_cons_zero, List.set_cons_succ, i64_w, i32_w]
    rfl
  refine one_ (i := 39) (N := some 80) #[true, true, true, true, true, true, true, true, true, true, true, true, true, true, true, true, true, true, true, true, true, true, true, true, true, true, true, true, true, true, true, true, true, true, true, true, true, true, true, true, false, false, false, false] rfl rfl (by kernel_rfl) (by decide) (fun K hK => ?_)
  refine value_ (w1 := ?_) (v := ?_) (by rfl) rfl ?_ ?_
  rotate_left 2
  · go_simp
    constructor
    · rfl
    · rfl
  obtain ⟨XX4, hX⟩ : ∃ X, u7.alloc (.cells #[.int .i64 9, .int .i64 6, .int .i64 1] 2) = X := ⟨_, rfl⟩
  have nX : Below u7.heap.size u7 XX4 := by rw [← hX]; exact (Below.refl _ _).alloc (Nat.le_refl _) _
  have HXX4 : Aside0 (Below w6.heap.size w6 XX4) := ⟨hHeld.trans (nX.mono hHeld.size)⟩
  have hl4 : Kd.C (Kd.int .i64) XX4 (some ⟨u7.heap.size, 0, none⟩) 3 [9, 6, 1] := by rw [← hX]; exact lit64 _ [9, 6, 1] 3 _ rfl rfl (by decide)
  rw [hX]
  clear hX nX
  refine hK.out _ _ HXX4.out ?_
  clear hHeld hK K
  intro hHeld
  refine norm_ (a' := ?_) ?_ ?_
  rotate_left
  · show Act.put _ (some 80) _ = _
    simp only [Act.put, List.setIfInBounds_toArray, List.set_cons_zero, List.set_cons_succ, i64_w, i32_w]
    rfl
  refine one_ (i := 40) (N := some 81) #[true, true, true, true, true, true, true, true, true, true, true, true, true, true, true, true, true, true, true, true, true, true, true, true, true, true, true, true, true, true, true, true, true, true, true, true, true, true, true, true, true, false, false, false] rfl rfl (by kernel_rfl) (by decide) (fun K hK => ?_)
  refine goes_ Try.func26 (by kernel_rfl) rfl #[.slice (some ⟨u7.heap.size, 0, none⟩) 3 3] (by rfl) rfl rfl (by (try simp only [List.map_toArray, List.map_cons, List.map_nil]); first | done | rfl) ?_
  refine (row_z [9, 6, 1] (by decide) (by decide) _ 3 3 rfl (Nat.le_refl _) _ hl4).mono ?_
  rintro e u8 ⟨BB4, ee4, rfl, he4, KK4, hBu8⟩
  refine ⟨_, rfl, ?_⟩
  have HU8 : Aside0 (Below w6.heap.size w6 u8) := ⟨hHeld.trans (hBu8.out.mono hHeld.size)⟩
  refine hK.out _ _ HU8.out ?_
  clear hHeld hK K
  intro hHeld
  refine norm_ (a' := ?_) ?_ ?_
  rotate_left
  · show Act.put _ (some 81) _ = _
    simp only [Act.put, List.setIfInBounds_toArray, List.set_cons_zero, List.set_cons_succ, i64_w, i32_w]
    rfl
  refine one_ (i := 41) (N := some 82) #[true, true, true, true, true, true, true, true, true, true, true, true, true, true, true, true, true, true, true, true, true, true, true, true, true, true, true, true, true, true, true, true, true, true, true, true, true, true, true, true, true, true, false, false] rfl rfl (by kernel_rfl) (by decide) (fun K hK => ?_)
  refine goes_ Try.func21 (by kernel_rfl) rfl #[.slice Au 3 cu, .slice BB4 3 ee4] (by rfl) rfl rfl (by (try simp only [List.map_toArray, List.map_cons, List.map_nil]); first | done | rfl) ?_
  refine (same_z [9, 6, 1] (small_lim (by decide) (by omega)) (by decide) Au BB4 3 3 cu ee4 rfl rfl hcu he4 _ (Hu.out.below hHeld) KK4.out).mono ?_
  rintro e u9 ⟨rfl, hBu9⟩
  refine ⟨_, rfl, ?_⟩
  have HU9 : Aside0 (Below w6.heap.size w6 u9) := ⟨hHeld.trans (hBu9.out.mono hHeld.size)⟩
  refine hK.out _ _ HU9.out ?_
  clear hHeld hK K
  intro hHeld
  refine norm_ (a' := ?_) ?_ ?_
  rotate_left
  · show Act.put _ (some 82) _ = _
    simp only [Act.put, List.setIfInBounds_toArray, List.set_cons_zero, List.set_cons_succ, i64_w, i32_w]
    rfl
  refine pure_ (i := 42) (N := some 83) (v := ?_) (a' := ?_) #[true, true, true, true, true, true, true, true, true, true, true, true, true, true, true, true, true, true, true, true, true, true, true, true, true, true, true, true, true, true, true, true, true, true, true, true, true, true, true, true, true, true, true, false] rfl rfl (by kernel_rfl) (fun _ _ _ h => h) (Or.inl ⟨by rfl, ?_⟩) ?_ ?_
  rotate_left
  · intro w'
    go_simp
    with_reducible rfl
  rotate_left
  · simp only [Act.put, List.setIfInBounds_toArray, List.set_cons_zero, List.set_cons_succ, i64_w, i32_w]
    rfl
  refine pure_ (i := 43) (N := some 0) (v := ?_) (a' := ?_) #[true, true, true, true, true, true, true, true, true, true, true, true, true, true, true, true, true, true, true, true, true, true, true, true, true, true, true, true, true, true, true, true, true, true, true, true, true, true, true, true, true, true, true, true] rfl rfl (by kernel_rfl) (fun _ _ _ h => h) (Or.inl ⟨by rfl, ?_⟩) ?_ ?_
  rotate_left
  · intro w'
    go_simp
    with_reducible rfl
  rotate_left
  · simp only [Act.put, List.setIfInBounds_toArray, List.set_cons_zero, List.set_cons_succ, i64_w, i32_w]
    rfl
  refine done_ (by kernel_rfl) ?_
  go_wp2
  go_ret
  exact ⟨rfl, ⟨HB.out.trans (hHeld.mono HB.out.size)⟩⟩
end Go.Proofs.Ytplignahjhenjaa.Lb
