/- limb: Add. -/
import Derived.Test.YtplignahjhenjaaLbF
namespace Go.Proofs.Ytplignahjhenjaa.Lb
open Go.RowKit Go.Proofs.YtplignahjhenjaaW.PrintWords Go.Proofs.YtplignahjhenjaaW.PrintLast Go.Proofs.YtplignahjhenjaaW.PrintMore
set_option linter.unusedVariables false
set_option linter.unusedSimpArgs false

theorem RoundI.start (same : Bool) (la lb : List Int) : RoundI same la lb (List.replicate (la.length + 1) 0) 0 0 := by
  unfold RoundI
  split
  · exact AddI.start la lb
  · exact SubI.start la lb
theorem RoundI.carry {same : Bool} {la lb o : List Int} {j : Nat} {c : Int} (h : RoundI same la lb o j c) : 0 ≤ c ∧ c ≤ 1 := by
  unfold RoundI at h
  split at h
  · exact h.carry
  · exact h.carry
theorem RoundI.len {same : Bool} {la lb o : List Int} {j : Nat} {c : Int} (h : RoundI same la lb o j c) : o.length = la.length + 1 := by
  unfold RoundI at h
  split at h
  · exact h.len
  · exact h.len
theorem RoundI.step {same : Bool} {la lb o : List Int} {j : Nat} {c : Int} (h : RoundI same la lb o j c) (hi : j < la.length) (ha : okL la) (hb : okL lb) :
    RoundI same la lb (o.set j ((if same then la.getD j 0 + lb.getD j 0 + c else la.getD j 0 - lb.getD j 0 - c) % 18446744073709551616)) (j + 1) (if same then (la.getD j 0 + lb.getD j 0 + c) / 18446744073709551616 else if la.getD j 0 < lb.getD j 0 + c then 1 else 0) := by
  unfold RoundI at *
  cases same
  · exact SubI.step (by simpa using h) hi ha hb
  · exact AddI.step (by simpa using h) hi ha hb
theorem RoundI.done {same : Bool} {la lb o : List Int} {c : Int} (h : RoundI same la lb o la.length c) (hlen : lb.length ≤ la.length) (ha : okL la) (hle : nv lb ≤ nv la) :
    nv (o.set la.length c) = (if same then nv la + nv lb else nv la - nv lb) ∧ okL (o.set la.length c) := by
  unfold RoundI at h
  cases same
  · exact SubI.done (by simpa using h) hlen ha hle
  · exact AddI.done (by simpa using h) hlen
theorem made_nums (n : Nat) : (madeCells #[.int .u64 0] n).toList = nums .u64 (List.replicate n 0) := by
  apply List.ext_getElem?
  intro i
  simp only [madeCells, nums, List.map_replicate, List.getElem?_replicate]
  simp only [Array.toList_map, Array.toList_range, List.getElem?_map, List.getElem?_range']
  by_cases h : i < n
  · simp [h, Nat.mod_one]
  · simp [h]
set_option maxRecDepth 100000 in
set_option maxHeartbeats 2000000 in
theorem add_c (s t : Bool) (A1 A2 : Option Addr) (c1 c2 : Nat) (l m : List Int) (h1 : l.length ≤ c1) (h2 : m.length ≤ c2) (hl : okL l) (hm : okL m) (bl : l.length ≤ 9223372036854775807) (bm : m.length ≤ 9223372036854775807) (w : World)
    (r1 : u64.C w A1 l.length l) (r2 : u64.C w A2 m.length m) :
    Calls Try.prog 35 #[.agg #[.bool s, .slice A1 l.length c1], .agg #[.bool t, .slice A2 m.length c2]] w fun e w' => ∃ v, e = .returned (.tuple #[.agg #[.bool (addS s l t m).1, v], .int .i64 (addS s l t m).2.2]) ∧ Kd.V u64 50 w' w.heap.size (fun k_ => (w.heap.size ≤ k_)) v (addS s l t m).2.1 ∧ Below w.heap.size w w' := by
  have hu := Try.underlying25
  have hus := Try.underlying23
  have HR1 := Aside0.mk r1
  have HR2 := Aside0.mk r2
  have HL := Aside0.mk hl
  have HM := Aside0.mk hm
  obtain ⟨W, hW⟩ : ∃ W, ((w.alloc (.cells #[.bool s, .slice A1 l.length c1] 25)).alloc (.cells #[.bool t, .slice A2 m.length c2] 25)).alloc (.cells #[.bool false, .slice none 0 0] 25) = W := ⟨_, rfl⟩
  have HB0 : Aside0 (Below w.heap.size w W) := ⟨by rw [← hW]; exact (((Below.refl _ _).alloc (Nat.le_refl _) _).alloc (by simp) _).alloc (by simp; omega) _⟩
  have HG0 : Aside0 (W.heap[w.heap.size]? = some (.cells #[.bool s, .slice A1 l.length c1] 25 (0, 0))) := ⟨by
    rw [← hW, Below.heap_alloc _ _ _ (by simp; omega), Below.heap_alloc _ _ _ (by simp)]
    exact heap_alloc_new w _⟩
  have HG1 : Aside0 (W.heap[w.heap.size + 1]? = some (.cells #[.bool t, .slice A2 m.length c2] 25 (0, 0))) := ⟨by
    rw [← hW, Below.heap_alloc _ _ _ (by simp)]
    have := heap_alloc_new (w.alloc (.cells #[.bool s, .slice A1 l.length c1] 25)) (.cells #[.bool t, .slice A2 m.length c2] 25)
    simpa using this⟩
  have HG2 : Aside0 (W.heap[w.heap.size + 1 + 1]? = some (.cells #[.bool false, .slice none 0 0] 25 (0, 0))) := ⟨by
    rw [← hW]
    have := heap_alloc_new ((w.alloc (.cells #[.bool s, .slice A1 l.length c1] 25)).alloc (.cells #[.bool t, .slice A2 m.length c2] 25)) (.cells #[.bool false, .slice none 0 0] 25)
    simpa using this⟩
  have HZ0 : Aside0 (W.heap.size = w.heap.size + 3) := ⟨by rw [← hW]; simp⟩
  have HW := Aside0.mk hW
  clear hW r1 r2 hl hm
  go_enter Try.func35, Try.ntmps35
  go_wp2_with fail
  rw [HW.out]
  refine (right_c s A1 c1 l h1 bl W (Kd.C_below HR1.out HB0.out)).mono ?_
  rintro e w1 ⟨rfl, hb⟩
  have HB1 : Aside0 (Below w.heap.size w w1) := ⟨HB0.out.trans (hb.mono (by rw [HZ0.out]; omega))⟩
  have HC1 : Aside0 (Below (w.heap.size + 3) W w1) := ⟨by rw [← HZ0.out]; exact hb⟩
  obtain ⟨c0, c1', f0, f1, z0⟩ := two_cells hb HG0.out
  obtain ⟨d0, d1, g0, g1, z1⟩ := two_cells hb HG1.out
  obtain ⟨e0, e1, i0, i1, z2⟩ := two_cells hb HG2.out
  clear hb
  by_cases hrt : rightB s l = true
  · go_wp2_with fail
    refine (right_c t A2 c2 m h2 bm w1 (Kd.C_below HR2.out HB1.out)).mono ?_
    rintro e w2 ⟨rfl, hb⟩
    have HB2 : Aside0 (Below w.heap.size w w2) := ⟨HB1.out.trans (hb.mono (by have := HC1.out.size; rw [HZ0.out] at this; omega))⟩
    have HC2 : Aside0 (Below (w.heap.size + 3) W w2) := ⟨HC1.out.trans (hb.mono (by have := HC1.out.size; rw [HZ0.out] at this; omega))⟩
    have G20 := HC2.out.block w.heap.size (by omega)
    rw [HG0.out] at G20
    have G21 := HC2.out.block (w.heap.size + 1) (by omega)
    rw [HG1.out] at G21
    have G22 := HC2.out.block (w.heap.size + 1 + 1) (by omega)
    rw [HG2.out] at G22
    have G20 := Aside0.mk G20
    have G21 := Aside0.mk G21
    have G22 := Aside0.mk G22
    clear c0 c1' f0 f1 z0 d0 d1 g0 g1 z1 e0 e1 i0 i1 z2 hb
    obtain ⟨c0, c1', f0, f1, z0⟩ := two_cells (Below.refl _ w2) G20.out
    obtain ⟨d0, d1, g0, g1, z1⟩ := two_cells (Below.refl _ w2) G21.out
    obtain ⟨e0, e1, i0, i1, z2⟩ := two_cells (Below.refl _ w2) G22.out
    by_cases hrt2 : rightB t m = true
    · have bl4 := right_len hrt
      have bm4 := right_len hrt2
      obtain ⟨r, hrr, hsz⟩ := sizes_c A1 A2 c1 c2 l m h1 h2 HL.out HM.out (right_canon hrt) (right_canon hrt2) bl4 bm4 w2 (Kd.C_below HR1.out HB2.out) (Kd.C_below HR2.out HB2.out)
      have HSZ := Lib.hid hsz
      have HRR := Aside0.mk hrr
      clear hsz hrr
      go_wp2_with fail
      refine HSZ.out.mono ?_
      rintro e w3 ⟨rfl, hb⟩
      have HB3 : Aside0 (Below w.heap.size w w3) := ⟨HB2.out.trans (hb.mono (by have := HC2.out.size; rw [HZ0.out] at this; omega))⟩
      have HC3 : Aside0 (Below (w.heap.size + 3) W w3) := ⟨HC2.out.trans (hb.mono (by have := HC2.out.size; rw [HZ0.out] at this; omega))⟩
      clear c0 c1' f0 f1 z0 d0 d1 g0 g1 z1 e0 e1 i0 i1 z2
      obtain ⟨c0, c1', f0, f1, z0⟩ := two_cells hb G20.out
      obtain ⟨d0, d1, g0, g1, z1⟩ := two_cells hb G21.out
      obtain ⟨e0, e1, i0, i1, z2⟩ := two_cells hb G22.out
      clear hb
      have HMK : ∀ (n : Nat), n ≤ 4096 → ∀ w' : World, (Instr.makeSlice 23 (.int .i64 ((n : Int) + 1)) (.int .i64 ((n : Int) + 1))).run Try.prog w' = .ok (.slice (some ⟨w'.heap.size, 0, none⟩) (n + 1) (n + 1)) (w'.alloc (.cells (madeCells #[.int .u64 0] (n + 1)) 50)) := fun n h w' => run_make_row' (P := Try.prog) 23 50 (.int .u64 0) 8 hus infoU rfl .i64 .i64 (n + 1) (by omega) (by omega) w'
      have hm1 := HMK l.length bl4
      have hm2 := HMK m.length bm4
      clear HMK
      by_cases hneg : r < 0
      · go_wp2_with fail
        obtain ⟨X, hX⟩ : ∃ X, ((((w3.setCell ⟨w.heap.size, 0, none⟩ (.bool t)).setCell ⟨w.heap.size, 1, none⟩ (.slice A2 m.length c2)).setCell ⟨w.heap.size + 1, 0, none⟩ (.bool s)).setCell ⟨w.heap.size + 1, 1, none⟩ (.slice A1 l.length c1)) = X := ⟨_, rfl⟩
        have HBX : Aside0 (Below w.heap.size w X) := ⟨by rw [← hX]; exact ((((HB3.out.setCell (by simp) _).setCell (by simp) _).setCell (by simp) _).setCell (by simp) _)⟩
        have HSX : Aside0 (w.heap.size + 3 ≤ X.heap.size) := ⟨by rw [← hX]; have := HC3.out.size; rw [HZ0.out] at this; simpa using this⟩
        have k0 : X.cell? ⟨w.heap.size, 0, none⟩ = some (.bool t) := by rw [← hX]; clear hX; first | (go_simp; done) | (simp [go_sem, *]; done)
        have k1 : X.cell? ⟨w.heap.size, 1, none⟩ = some (.slice A2 m.length c2) := by rw [← hX]; clear hX; first | (go_simp; done) | (simp [go_sem, *]; done)
        have k2 : X.cell? ⟨w.heap.size + 1, 0, none⟩ = some (.bool s) := by rw [← hX]; clear hX; first | (go_simp; done) | (simp [go_sem, *]; done)
        have k3 : X.cell? ⟨w.heap.size + 1, 1, none⟩ = some (.slice A1 l.length c1) := by rw [← hX]; clear hX; first | (go_simp; done) | (simp [go_sem, *]; done)
        have k4 : X.cell? ⟨w.heap.size + 1 + 1, 0, none⟩ = some (.bool false) := by rw [← hX]; clear hX; first | (go_simp; done) | (simp [go_sem, *]; done)
        have k5 : X.cell? ⟨w.heap.size + 1 + 1, 1, none⟩ = some (.slice none 0 0) := by rw [← hX]; clear hX; first | (go_simp; done) | (simp [go_sem, *]; done)
        have k6 : X.frozen? ⟨w.heap.size + 1 + 1, 0, none⟩ = false := by rw [← hX]; clear hX; first | (go_simp; done) | (simp [go_sem, *]; done)
        have k7 : X.frozen? ⟨w.heap.size + 1 + 1, 1, none⟩ = false := by rw [← hX]; clear hX; first | (go_simp; done) | (simp [go_sem, *]; done)
        have hXS : X.heap.size = w3.heap.size := by rw [← hX]; simp
        rw [hX]
        have hle : nv l ≤ nv m := by have := HRR.out.1.1 hneg; omega
        have HLE := Aside0.mk hle
        have HLN := Aside0.mk (len_le HM.out HL.out (right_canon hrt) hle)
        have HSP : Aside0 (addS s l t m = addT t (nv m) s l) := ⟨by rw [addS_comm]; exact addS_ge hrt2 hrt hle⟩
        clear hle
        obtain ⟨N, hN⟩ : ∃ N, X.heap.size = N := ⟨_, rfl⟩
        have HB5 : Aside0 (Below N X (X.alloc (.cells (madeCells #[.int .u64 0] (m.length + 1)) 50))) := ⟨(Below.refl _ _).alloc (by omega) _⟩
        have hw3 : w3.heap.size = N := hXS.symm.trans hN
        first | rw [hw3] | rw [hN]
        refine (behind_c A1 l.length c1 _).mono ?_
        rintro e w4 ⟨rfl, hw4⟩
        have hsz : (X.alloc (.cells (madeCells #[.int .u64 0] (m.length + 1)) 50)).heap.size = N + 1 := by simp [hN]
        have HBY : Aside0 (Below N X w4) := ⟨by rw [hw4]; exact HB5.out.alloc (by rw [hsz]; omega) _⟩
        have HCL : Aside0 (w4.heap[N + 1]? = some (.cells #[.slice A1 l.length c1] 23 (0, 0))) := ⟨by rw [hw4, ← hsz]; exact heap_alloc_new _ _⟩
        have HOW : Aside0 (w4.ownsRow N 50 1 (.slice (some ⟨N, 0, none⟩) (m.length + 1) (m.length + 1)) (m.length + 1) (nums .u64 (List.replicate (m.length + 1) 0))) := ⟨by
          rw [hw4]
          refine World.ownsRow.alloc ?_ _
          rw [← made_nums, ← hN]
          exact World.ownsRow_lit (base := X.heap.size) (e := 50) (size := 1) X (madeCells #[.int .u64 0] (m.length + 1)) (m.length + 1) (Nat.le_refl _) (by unfold maxLen; omega) (by simp [size_madeCells])⟩
        rw [hsz]
        have hNw : w.heap.size + 3 ≤ N := by rw [← hN]; exact HSX.out
        have hYS : w4.heap.size = N + 2 := by rw [hw4]; simp [hN]
        clear hw4 hsz hw3 hXS HB5
        clear hX
        have m0 : w4.cell? ⟨w.heap.size, 0, none⟩ = _ := (HBY.out.cell (by show w.heap.size < N; omega)).trans k0
        have m1 : w4.cell? ⟨w.heap.size, 1, none⟩ = _ := (HBY.out.cell (by show w.heap.size < N; omega)).trans k1
        have m2 : w4.cell? ⟨w.heap.size + 1, 0, none⟩ = _ := (HBY.out.cell (by show w.heap.size + 1 < N; omega)).trans k2
        have m3 : w4.cell? ⟨w.heap.size + 1, 1, none⟩ = _ := (HBY.out.cell (by show w.heap.size + 1 < N; omega)).trans k3
        have m4 : w4.cell? ⟨w.heap.size + 1 + 1, 0, none⟩ = _ := (HBY.out.cell (by show w.heap.size + 1 + 1 < N; omega)).trans k4
        have m5 : w4.cell? ⟨w.heap.size + 1 + 1, 1, none⟩ = _ := (HBY.out.cell (by show w.heap.size + 1 + 1 < N; omega)).trans k5
        have m6 : w4.frozen? ⟨w.heap.size + 1 + 1, 0, none⟩ = _ := (HBY.out.frozen (by show w.heap.size + 1 + 1 < N; omega)).trans k6
        have m7 : w4.frozen? ⟨w.heap.size + 1 + 1, 1, none⟩ = _ := (HBY.out.frozen (by show w.heap.size + 1 + 1 < N; omega)).trans k7
        clear k0 k1 k2 k3 k4 k5 k6 k7
        clear c0 c1' f0 f1 z0 d0 d1 g0 g1 z1 e0 e1 i0 i1 z2
        go_wp2
        obtain ⟨S, hS⟩ : ∃ S, decide (t = s ∨ l.length = 0) = S := ⟨_, rfl⟩
        have HS := Aside0.mk hS
        clear hS
        go_loopw [8, 39] (fun v8 v39 wr => ∃ (j : Nat) (c : Int) (o : List Int), v39 = .int .i64 j ∧ v8 = .int .u64 c ∧ j ≤ m.length ∧ Aside0 (RoundI S m l o j c) ∧ Aside0 (wr.ownsRow N 50 1 (.slice (some ⟨N, 0, none⟩) (m.length + 1) (m.length + 1)) (m.length + 1) (nums .u64 o)) ∧ Aside0 (wr.heap[N + 1]? = some (.cells #[.slice A1 l.length c1] 23 (0, 0))) ∧ Aside0 (Below N w4 wr) ∧ Aside0 (wr.heap.size = N + 2)) (fun _ v39 _ => m.length - (intOf v39).toNat)
        case atStart => exact ⟨0, 0, _, rfl, rfl, Nat.zero_le _, ⟨RoundI.start _ _ _⟩, HOW, HCL, ⟨Below.refl _ _⟩, ⟨hYS⟩⟩
        case round =>
          obtain ⟨j, c, o, rfl, rfl, hj, HI, HO2, HC2', HBR, HSR⟩ := hrel
          have n0 : wr.cell? ⟨w.heap.size, 0, none⟩ = _ := (HBR.out.cell (by show w.heap.size < N; omega)).trans m0
          have n1 : wr.cell? ⟨w.heap.size, 1, none⟩ = _ := (HBR.out.cell (by show w.heap.size < N; omega)).trans m1
          have n2 : wr.cell? ⟨w.heap.size + 1, 0, none⟩ = _ := (HBR.out.cell (by show w.heap.size + 1 < N; omega)).trans m2
          have n3 : wr.cell? ⟨w.heap.size + 1, 1, none⟩ = _ := (HBR.out.cell (by show w.heap.size + 1 < N; omega)).trans m3
          have n4 : wr.cell? ⟨w.heap.size + 1 + 1, 0, none⟩ = _ := (HBR.out.cell (by show w.heap.size + 1 + 1 < N; omega)).trans m4
          have n5 : wr.cell? ⟨w.heap.size + 1 + 1, 1, none⟩ = _ := (HBR.out.cell (by show w.heap.size + 1 + 1 < N; omega)).trans m5
          have n6 : wr.frozen? ⟨w.heap.size + 1 + 1, 0, none⟩ = _ := (HBR.out.frozen (by show w.heap.size + 1 + 1 < N; omega)).trans m6
          have n7 : wr.frozen? ⟨w.heap.size + 1 + 1, 1, none⟩ = _ := (HBR.out.frozen (by show w.heap.size + 1 + 1 < N; omega)).trans m7
          have o0 : wr.cell? ⟨N + 1, 0, none⟩ = some (.slice A1 l.length c1) := by simp [World.cell?, HC2'.out]
          have BW : Hid (Below w.heap.size w wr) := Lib.hid ((HBX.out.trans (HBY.out.mono (by omega))).trans (HBR.out.mono (by omega)))
          have hsr := HSR.out
          clear m0 m1 m2 m3 m4 m5 m6 m7
          have hcc := RoundI.carry HI.out
          have hol := RoundI.len HI.out
          have p0 : wr.cell? ⟨N, j, none⟩ = some (.int .u64 (o.getD j 0)) := by
            rw [HO2.out.cellAt j (by omega)]
            simp [nums, List.getD_eq_getElem?_getD, List.getElem?_eq_getElem (show j < o.length by omega)]
          have p1 : wr.frozen? ⟨N, j, none⟩ = false := HO2.out.frozenAt j
          generalize o.getD j 0 = oj at p0
          by_cases hlt : j < m.length
          · obtain ⟨ad, hA, hcell⟩ := read_at (Kd.C_below HR2.out BW.out) j hlt
            subst hA
            have hx1 := getD_ok HM.out j
            have hy1 := getD_ok HL.out j
            obtain ⟨x, hx⟩ : ∃ x, m.getD j 0 = x := ⟨_, rfl⟩
            obtain ⟨y, hy⟩ : ∃ y, l.getD j 0 = y := ⟨_, rfl⟩
            rw [hx] at hcell hx1
            rw [hy] at hy1
            have HX := Aside0.mk hx
            have HY := Aside0.mk hy
            have xa := xAdd x y c hx1.1 hy1.1 hcc.1 hcc.2
            have xs := xSub x y c hx1.1 hy1.1 hy1.2 hcc.1 hcc.2
            have HX1 := Aside0.mk hx1
            have HY1 := Aside0.mk hy1
            clear hx hx1 hy1
            have main : Aside0 (∀ wE : World, wE = wr.setCell ⟨N, j, none⟩ (.int .u64 ((if S then x + y + c else x - y - c) % 18446744073709551616)) → ∃ o', Aside0 (RoundI S m l o' (j + 1) (if S then (x + y + c) / 18446744073709551616 else if x < y + c then 1 else 0)) ∧ Aside0 (wE.ownsRow N 50 1 (.slice (some ⟨N, 0, none⟩) (m.length + 1) (m.length + 1)) (m.length + 1) (nums .u64 o')) ∧ Aside0 (wE.heap[N + 1]? = some (.cells #[.slice A1 l.length c1] 23 (0, 0))) ∧ Aside0 (Below N w4 wE) ∧ Aside0 (wE.heap.size = N + 2)) := ⟨by
              rintro wE rfl
              have hstep := RoundI.step HI.out hlt HM.out HL.out
              rw [HX.out, HY.out] at hstep
              have hst := HO2.out.stored j (.int .u64 ((if S then x + y + c else x - y - c) % 18446744073709551616))
              refine ⟨_, ⟨hstep⟩, ⟨?_⟩, ⟨?_⟩, ⟨HBR.out.setCell (Nat.le_refl _) _⟩, ⟨by simp [hsr]⟩⟩
              · have := hst.1
                rwa [nums, ← List.map_set] at this
              · rw [heap_setCell_other _ _ _ _ (by simp)]
                exact HC2'.out⟩
            clear HX HY HX1 HY1 hsr hcc hol
            by_cases hlt2 : j < l.length
            · obtain ⟨bd, hB, hcell2⟩ := read_at (Kd.C_below HR1.out BW.out) j hlt2
              rw [hy] at hcell2
              clear hy
              subst hB
              by_cases hs : t = s
              · obtain rfl : S = true := by rw [← HS.out]; exact decide_eq_true (.inl hs)
                subst hs
                replace main := main.out
                simp only [if_true, if_false, reduceIte, Bool.false_eq_true, Int.add_zero, Int.sub_zero, Int.zero_add] at main
                replace main := Aside0.mk main
                go_wp2
                all_goals
                  first
                  | (exfalso; omega)
                  | (obtain ⟨o', R1, R2, R3, R4, R5⟩ := main.out _ rfl
                     refine ⟨⟨j + 1, _, o', by go_num, rfl, by omega, R1, R2, R3, R4, R5⟩, by simp [intOf]; omega⟩)
              · obtain rfl : S = false := by rw [← HS.out]; exact decide_eq_false (by rintro (h | h); exact hs h; omega)
                have hsb : (t == s) = false := by simpa using hs
                have hsc : decide (t = s) = false := by simpa using hs
                replace main := main.out
                simp only [if_true, if_false, reduceIte, Bool.false_eq_true, Int.add_zero, Int.sub_zero, Int.zero_add] at main
                replace main := Aside0.mk main
                go_wp2
                all_goals
                  first
                  | (exfalso; omega)
                  | (obtain ⟨o', R1, R2, R3, R4, R5⟩ := main.out _ rfl
                     refine ⟨⟨j + 1, _, o', by go_num, rfl, by omega, R1, R2, R3, R4, R5⟩, by simp [intOf]; omega⟩)
            · have hy0 : y = 0 := by rw [← hy]; exact getD_ge (by omega)
              clear hy
              subst hy0
              by_cases hs : t = s
              · obtain rfl : S = true := by rw [← HS.out]; exact decide_eq_true (.inl hs)
                subst hs
                replace main := main.out
                simp only [if_true, if_false, reduceIte, Bool.false_eq_true, Int.add_zero, Int.sub_zero, Int.zero_add] at main
                replace main := Aside0.mk main
                go_wp2
                all_goals
                  first
                  | (exfalso; omega)
                  | (obtain ⟨o', R1, R2, R3, R4, R5⟩ := main.out _ rfl
                     refine ⟨⟨j + 1, _, o', by go_num, rfl, by omega, R1, R2, R3, R4, R5⟩, by simp [intOf]; omega⟩)
              · have hsb : (t == s) = false := by simpa using hs
                have hsc : decide (t = s) = false := by simpa using hs
                by_cases hl0 : l.length = 0
                · obtain rfl : S = true := by rw [← HS.out]; exact decide_eq_true (.inr hl0)
                  replace main := main.out
                  simp only [if_true, if_false, reduceIte, Bool.false_eq_true, Int.add_zero, Int.sub_zero, Int.zero_add] at main
                  replace main := Aside0.mk main
                  go_wp2
                  all_goals
                    first
                    | (exfalso; omega)
                    | (obtain ⟨o', R1, R2, R3, R4, R5⟩ := main.out _ rfl
                       refine ⟨⟨j + 1, _, o', by go_num, rfl, by omega, R1, R2, R3, R4, R5⟩, by simp [intOf]; omega⟩)
                · obtain rfl : S = false := by rw [← HS.out]; exact decide_eq_false (by rintro (h | h); exact hs h; exact hl0 h)
                  replace main := main.out
                  simp only [if_true, if_false, reduceIte, Bool.false_eq_true, Int.add_zero, Int.sub_zero, Int.zero_add] at main
                  replace main := Aside0.mk main
                  go_wp2
                  all_goals
                    first
                    | (exfalso; omega)
                    | (obtain ⟨o', R1, R2, R3, R4, R5⟩ := main.out _ rfl
                       refine ⟨⟨j + 1, _, o', by go_num, rfl, by omega, R1, R2, R3, R4, R5⟩, by simp [intOf]; omega⟩)
          · obtain rfl : j = m.length := by omega
            have hd := RoundI.done HI.out HLN.out HM.out HLE.out
            have hst := (HO2.out.stored m.length (.int .u64 c)).1
            obtain ⟨q, hq⟩ : ∃ q, o.set m.length c = q := ⟨_, rfl⟩
            rw [nums, ← List.map_set, hq] at hst
            rw [hq] at hd
            have hql : q.length = m.length + 1 := by rw [← hq]; simpa using hol
            have HR5 : Aside0 (Kd.R Lb.u64 50 (wr.setCell ⟨N, m.length, none⟩ (.int .u64 c)) N (fun k => N ≤ k) (.slice (some ⟨N, 0, none⟩) q.length q.length) q) := ⟨row_R (by rw [hql]; exact hst)⟩
            have HQ : Aside0 (addS s l t m = toldS t (nv q) ∧ okL q) := ⟨by rw [HSP.out, addT, hd.1, ← HS.out]; simp only [decide_eq_true_eq], hd.2⟩
            clear hd hst hq
            go_wp2_with fail
            refine (told_n t _ (m.length + 1) (m.length + 1) q hql (Nat.le_refl _) HQ.out.2 (by omega) _ (R_C HR5.out).1).mono ?_
            rintro e w5 ⟨ht, hb⟩
            obtain ⟨A', c', rfl, HV⟩ := told_out ht HR5.out hb
            have BE : Hid (Below w.heap.size w w5) := Lib.hid ((BW.out.setCell (by show w.heap.size ≤ N; omega) _).trans (hb.mono (by simp [hsr]; omega)))
            have t4 : w5.cell? ⟨w.heap.size + 1 + 1, 0, none⟩ = some (.bool false) := (hb.cell (by show w.heap.size + 1 + 1 < _; simp [hsr]; omega)).trans (by simpa [go_sem, show ¬ N = w.heap.size + 1 + 1 by omega, show ¬ w.heap.size + 1 + 1 = N by omega] using n4)
            have t5 : w5.cell? ⟨w.heap.size + 1 + 1, 1, none⟩ = some (.slice none 0 0) := (hb.cell (by show w.heap.size + 1 + 1 < _; simp [hsr]; omega)).trans (by simpa [go_sem, show ¬ N = w.heap.size + 1 + 1 by omega, show ¬ w.heap.size + 1 + 1 = N by omega] using n5)
            have t6 : w5.frozen? ⟨w.heap.size + 1 + 1, 0, none⟩ = false := (hb.frozen (by show w.heap.size + 1 + 1 < _; simp [hsr]; omega)).trans (by simpa [go_sem, show ¬ N = w.heap.size + 1 + 1 by omega, show ¬ w.heap.size + 1 + 1 = N by omega] using n6)
            have t7 : w5.frozen? ⟨w.heap.size + 1 + 1, 1, none⟩ = false := (hb.frozen (by show w.heap.size + 1 + 1 < _; simp [hsr]; omega)).trans (by simpa [go_sem, show ¬ N = w.heap.size + 1 + 1 by omega, show ¬ w.heap.size + 1 + 1 = N by omega] using n7)
            have t8 : w.heap.size + 1 + 1 < w5.heap.size := by have := hb.size; simp [hsr] at this; omega
            clear ht hb n0 n1 n2 n3 n4 n5 n6 n7 o0 p0 p1
            go_wp2
            refine bodyPost_ret (v := .tuple #[.agg #[.bool (toldS t (nv q)).1, .slice A' (toldS t (nv q)).2.1.length c'], .int .i64 (toldS t (nv q)).2.2]) (by simp [results, Try.results35, go_sem, t4, t5, t6, t7, t8]) rfl ⟨.slice A' (toldS t (nv q)).2.1.length c', ?_, ?_, ?_⟩
            · rw [HQ.out.1]
            · rw [HQ.out.1]; exact Kd.V_mono (Kd.V_far (Kd.V_far (HV.out w.heap.size) (fun k hk => by show k ≠ w.heap.size + 1 + 1; omega) _) (fun k hk => by show k ≠ w.heap.size + 1 + 1; omega) _) (fun k hk => by omega)
            · exact ((BE.out.setCell (by simp; omega) _).setCell (by simp; omega) _)
      · go_wp2_with fail
        obtain ⟨X, hX⟩ : ∃ X, w3 = X := ⟨_, rfl⟩
        have HBX : Aside0 (Below w.heap.size w X) := ⟨by rw [← hX]; exact HB3.out⟩
        have HSX : Aside0 (w.heap.size + 3 ≤ X.heap.size) := ⟨by rw [← hX]; have := HC3.out.size; rw [HZ0.out] at this; exact this⟩
        have k0 : X.cell? ⟨w.heap.size, 0, none⟩ = some (.bool s) := by rw [← hX]; exact c0
        have k1 : X.cell? ⟨w.heap.size, 1, none⟩ = some (.slice A1 l.length c1) := by rw [← hX]; exact c1'
        have k2 : X.cell? ⟨w.heap.size + 1, 0, none⟩ = some (.bool t) := by rw [← hX]; exact d0
        have k3 : X.cell? ⟨w.heap.size + 1, 1, none⟩ = some (.slice A2 m.length c2) := by rw [← hX]; exact d1
        have k4 : X.cell? ⟨w.heap.size + 1 + 1, 0, none⟩ = some (.bool false) := by rw [← hX]; exact e0
        have k5 : X.cell? ⟨w.heap.size + 1 + 1, 1, none⟩ = some (.slice none 0 0) := by rw [← hX]; exact e1
        have k6 : X.frozen? ⟨w.heap.size + 1 + 1, 0, none⟩ = false := by rw [← hX]; exact i0
        have k7 : X.frozen? ⟨w.heap.size + 1 + 1, 1, none⟩ = false := by rw [← hX]; exact i1
        have hXS : X.heap.size = w3.heap.size := by rw [hX]
        rw [hX]
        have hle : nv m ≤ nv l := by
          rcases Nat.lt_or_ge (nv l) (nv m) with h | h
          · have := HRR.out.1.2 h; omega
          · exact h
        have HLE := Aside0.mk hle
        have HLN := Aside0.mk (len_le HL.out HM.out (right_canon hrt2) hle)
        have HSP : Aside0 (addS s l t m = addT s (nv l) t m) := ⟨addS_ge hrt hrt2 hle⟩
        clear hle
        obtain ⟨N, hN⟩ : ∃ N, X.heap.size = N := ⟨_, rfl⟩
        have HB5 : Aside0 (Below N X (X.alloc (.cells (madeCells #[.int .u64 0] (l.length + 1)) 50))) := ⟨(Below.refl _ _).alloc (by omega) _⟩
        have hw3 : w3.heap.size = N := hXS.symm.trans hN
        first | rw [hw3] | rw [hN]
        refine (behind_c A2 m.length c2 _).mono ?_
        rintro e w4 ⟨rfl, hw4⟩
        have hsz : (X.alloc (.cells (madeCells #[.int .u64 0] (l.length + 1)) 50)).heap.size = N + 1 := by simp [hN]
        have HBY : Aside0 (Below N X w4) := ⟨by rw [hw4]; exact HB5.out.alloc (by rw [hsz]; omega) _⟩
        have HCL : Aside0 (w4.heap[N + 1]? = some (.cells #[.slice A2 m.length c2] 23 (0, 0))) := ⟨by rw [hw4, ← hsz]; exact heap_alloc_new _ _⟩
        have HOW : Aside0 (w4.ownsRow N 50 1 (.slice (some ⟨N, 0, none⟩) (l.length + 1) (l.length + 1)) (l.length + 1) (nums .u64 (List.replicate (l.length + 1) 0))) := ⟨by
          rw [hw4]
          refine World.ownsRow.alloc ?_ _
          rw [← made_nums, ← hN]
          exact World.ownsRow_lit (base := X.heap.size) (e := 50) (size := 1) X (madeCells #[.int .u64 0] (l.length + 1)) (l.length + 1) (Nat.le_refl _) (by unfold maxLen; omega) (by simp [size_madeCells])⟩
        rw [hsz]
        have hNw : w.heap.size + 3 ≤ N := by rw [← hN]; exact HSX.out
        have hYS : w4.heap.size = N + 2 := by rw [hw4]; simp [hN]
        clear hw4 hsz hw3 hXS HB5
        clear hX
        have m0 : w4.cell? ⟨w.heap.size, 0, none⟩ = _ := (HBY.out.cell (by show w.heap.size < N; omega)).trans k0
        have m1 : w4.cell? ⟨w.heap.size, 1, none⟩ = _ := (HBY.out.cell (by show w.heap.size < N; omega)).trans k1
        have m2 : w4.cell? ⟨w.heap.size + 1, 0, none⟩ = _ := (HBY.out.cell (by show w.heap.size + 1 < N; omega)).trans k2
        have m3 : w4.cell? ⟨w.heap.size + 1, 1, none⟩ = _ := (HBY.out.cell (by show w.heap.size + 1 < N; omega)).trans k3
        have m4 : w4.cell? ⟨w.heap.size + 1 + 1, 0, none⟩ = _ := (HBY.out.cell (by show w.heap.size + 1 + 1 < N; omega)).trans k4
        have m5 : w4.cell? ⟨w.heap.size + 1 + 1, 1, none⟩ = _ := (HBY.out.cell (by show w.heap.size + 1 + 1 < N; omega)).trans k5
        have m6 : w4.frozen? ⟨w.heap.size + 1 + 1, 0, none⟩ = _ := (HBY.out.frozen (by show w.heap.size + 1 + 1 < N; omega)).trans k6
        have m7 : w4.frozen? ⟨w.heap.size + 1 + 1, 1, none⟩ = _ := (HBY.out.frozen (by show w.heap.size + 1 + 1 < N; omega)).trans k7
        clear k0 k1 k2 k3 k4 k5 k6 k7
        clear c0 c1' f0 f1 z0 d0 d1 g0 g1 z1 e0 e1 i0 i1 z2
        go_wp2
        obtain ⟨S, hS⟩ : ∃ S, decide (s = t ∨ m.length = 0) = S := ⟨_, rfl⟩
        have HS := Aside0.mk hS
        clear hS
        go_loopw [8, 39] (fun v8 v39 wr => ∃ (j : Nat) (c : Int) (o : List Int), v39 = .int .i64 j ∧ v8 = .int .u64 c ∧ j ≤ l.length ∧ Aside0 (RoundI S l m o j c) ∧ Aside0 (wr.ownsRow N 50 1 (.slice (some ⟨N, 0, none⟩) (l.length + 1) (l.length + 1)) (l.length + 1) (nums .u64 o)) ∧ Aside0 (wr.heap[N + 1]? = some (.cells #[.slice A2 m.length c2] 23 (0, 0))) ∧ Aside0 (Below N w4 wr) ∧ Aside0 (wr.heap.size = N + 2)) (fun _ v39 _ => l.length - (intOf v39).toNat)
        case atStart => exact ⟨0, 0, _, rfl, rfl, Nat.zero_le _, ⟨RoundI.start _ _ _⟩, HOW, HCL, ⟨Below.refl _ _⟩, ⟨hYS⟩⟩
        case round =>
          obtain ⟨j, c, o, rfl, rfl, hj, HI, HO2, HC2', HBR, HSR⟩ := hrel
          have n0 : wr.cell? ⟨w.heap.size, 0, none⟩ = _ := (HBR.out.cell (by show w.heap.size < N; omega)).trans m0
          have n1 : wr.cell? ⟨w.heap.size, 1, none⟩ = _ := (HBR.out.cell (by show w.heap.size < N; omega)).trans m1
          have n2 : wr.cell? ⟨w.heap.size + 1, 0, none⟩ = _ := (HBR.out.cell (by show w.heap.size + 1 < N; omega)).trans m2
          have n3 : wr.cell? ⟨w.heap.size + 1, 1, none⟩ = _ := (HBR.out.cell (by show w.heap.size + 1 < N; omega)).trans m3
          have n4 : wr.cell? ⟨w.heap.size + 1 + 1, 0, none⟩ = _ := (HBR.out.cell (by show w.heap.size + 1 + 1 < N; omega)).trans m4
          have n5 : wr.cell? ⟨w.heap.size + 1 + 1, 1, none⟩ = _ := (HBR.out.cell (by show w.heap.size + 1 + 1 < N; omega)).trans m5
          have n6 : wr.frozen? ⟨w.heap.size + 1 + 1, 0, none⟩ = _ := (HBR.out.frozen (by show w.heap.size + 1 + 1 < N; omega)).trans m6
          have n7 : wr.frozen? ⟨w.heap.size + 1 + 1, 1, none⟩ = _ := (HBR.out.frozen (by show w.heap.size + 1 + 1 < N; omega)).trans m7
          have o0 : wr.cell? ⟨N + 1, 0, none⟩ = some (.slice A2 m.length c2) := by simp [World.cell?, HC2'.out]
          have BW : Hid (Below w.heap.size w wr) := Lib.hid ((HBX.out.trans (HBY.out.mono (by omega))).trans (HBR.out.mono (by omega)))
          have hsr := HSR.out
          clear m0 m1 m2 m3 m4 m5 m6 m7
          have hcc := RoundI.carry HI.out
          have hol := RoundI.len HI.out
          have p0 : wr.cell? ⟨N, j, none⟩ = some (.int .u64 (o.getD j 0)) := by
            rw [HO2.out.cellAt j (by omega)]
            simp [nums, List.getD_eq_getElem?_getD, List.getElem?_eq_getElem (show j < o.length by omega)]
          have p1 : wr.frozen? ⟨N, j, none⟩ = false := HO2.out.frozenAt j
          generalize o.getD j 0 = oj at p0
          by_cases hlt : j < l.length
          · obtain ⟨ad, hA, hcell⟩ := read_at (Kd.C_below HR1.out BW.out) j hlt
            subst hA
            have hx1 := getD_ok HL.out j
            have hy1 := getD_ok HM.out j
            obtain ⟨x, hx⟩ : ∃ x, l.getD j 0 = x := ⟨_, rfl⟩
            obtain ⟨y, hy⟩ : ∃ y, m.getD j 0 = y := ⟨_, rfl⟩
            rw [hx] at hcell hx1
            rw [hy] at hy1
            have HX := Aside0.mk hx
            have HY := Aside0.mk hy
            have xa := xAdd x y c hx1.1 hy1.1 hcc.1 hcc.2
            have xs := xSub x y c hx1.1 hy1.1 hy1.2 hcc.1 hcc.2
            have HX1 := Aside0.mk hx1
            have HY1 := Aside0.mk hy1
            clear hx hx1 hy1
            have main : Aside0 (∀ wE : World, wE = wr.setCell ⟨N, j, none⟩ (.int .u64 ((if S then x + y + c else x - y - c) % 18446744073709551616)) → ∃ o', Aside0 (RoundI S l m o' (j + 1) (if S then (x + y + c) / 18446744073709551616 else if x < y + c then 1 else 0)) ∧ Aside0 (wE.ownsRow N 50 1 (.slice (some ⟨N, 0, none⟩) (l.length + 1) (l.length + 1)) (l.length + 1) (nums .u64 o')) ∧ Aside0 (wE.heap[N + 1]? = some (.cells #[.slice A2 m.length c2] 23 (0, 0))) ∧ Aside0 (Below N w4 wE) ∧ Aside0 (wE.heap.size = N + 2)) := ⟨by
              rintro wE rfl
              have hstep := RoundI.step HI.out hlt HL.out HM.out
              rw [HX.out, HY.out] at hstep
              have hst := HO2.out.stored j (.int .u64 ((if S then x + y + c else x - y - c) % 18446744073709551616))
              refine ⟨_, ⟨hstep⟩, ⟨?_⟩, ⟨?_⟩, ⟨HBR.out.setCell (Nat.le_refl _) _⟩, ⟨by simp [hsr]⟩⟩
              · have := hst.1
                rwa [nums, ← List.map_set] at this
              · rw [heap_setCell_other _ _ _ _ (by simp)]
                exact HC2'.out⟩
            clear HX HY HX1 HY1 hsr hcc hol
            by_cases hlt2 : j < m.length
            · obtain ⟨bd, hB, hcell2⟩ := read_at (Kd.C_below HR2.out BW.out) j hlt2
              rw [hy] at hcell2
              clear hy
              subst hB
              by_cases hs : s = t
              · obtain rfl : S = true := by rw [← HS.out]; exact decide_eq_true (.inl hs)
                subst hs
                replace main := main.out
                simp only [if_true, if_false, reduceIte, Bool.false_eq_true, Int.add_zero, Int.sub_zero, Int.zero_add] at main
                replace main := Aside0.mk main
                go_wp2
                all_goals
                  first
                  | (exfalso; omega)
                  | (obtain ⟨o', R1, R2, R3, R4, R5⟩ := main.out _ rfl
                     refine ⟨⟨j + 1, _, o', by go_num, rfl, by omega, R1, R2, R3, R4, R5⟩, by simp [intOf]; omega⟩)
              · obtain rfl : S = false := by rw [← HS.out]; exact decide_eq_false (by rintro (h | h); exact hs h; omega)
                have hsb : (s == t) = false := by simpa using hs
                have hsc : decide (s = t) = false := by simpa using hs
                replace main := main.out
                simp only [if_true, if_false, reduceIte, Bool.false_eq_true, Int.add_zero, Int.sub_zero, Int.zero_add] at main
                replace main := Aside0.mk main
                go_wp2
                all_goals
                  first
                  | (exfalso; omega)
                  | (obtain ⟨o', R1, R2, R3, R4, R5⟩ := main.out _ rfl
                     refine ⟨⟨j + 1, _, o', by go_num, rfl, by omega, R1, R2, R3, R4, R5⟩, by simp [intOf]; omega⟩)
            · have hy0 : y = 0 := by rw [← hy]; exact getD_ge (by omega)
              clear hy
              subst hy0
              by_cases hs : s = t
              · obtain rfl : S = true := by rw [← HS.out]; exact decide_eq_true (.inl hs)
                subst hs
                replace main := main.out
                simp only [if_true, if_false, reduceIte, Bool.false_eq_true, Int.add_zero, Int.sub_zero, Int.zero_add] at main
                replace main := Aside0.mk main
                go_wp2
                all_goals
                  first
                  | (exfalso; omega)
                  | (obtain ⟨o', R1, R2, R3, R4, R5⟩ := main.out _ rfl
                     refine ⟨⟨j + 1, _, o', by go_num, rfl, by omega, R1, R2, R3, R4, R5⟩, by simp [intOf]; omega⟩)
              · have hsb : (s == t) = false := by simpa using hs
                have hsc : decide (s = t) = false := by simpa using hs
                by_cases hl0 : m.length = 0
                · obtain rfl : S = true := by rw [← HS.out]; exact decide_eq_true (.inr hl0)
                  replace main := main.out
                  simp only [if_true, if_false, reduceIte, Bool.false_eq_true, Int.add_zero, Int.sub_zero, Int.zero_add] at main
                  replace main := Aside0.mk main
                  go_wp2
                  all_goals
                    first
                    | (exfalso; omega)
                    | (obtain ⟨o', R1, R2, R3, R4, R5⟩ := main.out _ rfl
                       refine ⟨⟨j + 1, _, o', by go_num, rfl, by omega, R1, R2, R3, R4, R5⟩, by simp [intOf]; omega⟩)
                · obtain rfl : S = false := by rw [← HS.out]; exact decide_eq_false (by rintro (h | h); exact hs h; exact hl0 h)
                  replace main := main.out
                  simp only [if_true, if_false, reduceIte, Bool.false_eq_true, Int.add_zero, Int.sub_zero, Int.zero_add] at main
                  replace main := Aside0.mk main
                  go_wp2
                  all_goals
                    first
                    | (exfalso; omega)
                    | (obtain ⟨o', R1, R2, R3, R4, R5⟩ := main.out _ rfl
                       refine ⟨⟨j + 1, _, o', by go_num, rfl, by omega, R1, R2, R3, R4, R5⟩, by simp [intOf]; omega⟩)
          · obtain rfl : j = l.length := by omega
            have hd := RoundI.done HI.out HLN.out HL.out HLE.out
            have hst := (HO2.out.stored l.length (.int .u64 c)).1
            obtain ⟨q, hq⟩ : ∃ q, o.set l.length c = q := ⟨_, rfl⟩
            rw [nums, ← List.map_set, hq] at hst
            rw [hq] at hd
            have hql : q.length = l.length + 1 := by rw [← hq]; simpa using hol
            have HR5 : Aside0 (Kd.R Lb.u64 50 (wr.setCell ⟨N, l.length, none⟩ (.int .u64 c)) N (fun k => N ≤ k) (.slice (some ⟨N, 0, none⟩) q.length q.length) q) := ⟨row_R (by rw [hql]; exact hst)⟩
            have HQ : Aside0 (addS s l t m = toldS s (nv q) ∧ okL q) := ⟨by rw [HSP.out, addT, hd.1, ← HS.out]; simp only [decide_eq_true_eq], hd.2⟩
            clear hd hst hq
            go_wp2_with fail
            refine (told_n s _ (l.length + 1) (l.length + 1) q hql (Nat.le_refl _) HQ.out.2 (by omega) _ (R_C HR5.out).1).mono ?_
            rintro e w5 ⟨ht, hb⟩
            obtain ⟨A', c', rfl, HV⟩ := told_out ht HR5.out hb
            have BE : Hid (Below w.heap.size w w5) := Lib.hid ((BW.out.setCell (by show w.heap.size ≤ N; omega) _).trans (hb.mono (by simp [hsr]; omega)))
            have t4 : w5.cell? ⟨w.heap.size + 1 + 1, 0, none⟩ = some (.bool false) := (hb.cell (by show w.heap.size + 1 + 1 < _; simp [hsr]; omega)).trans (by simpa [go_sem, show ¬ N = w.heap.size + 1 + 1 by omega, show ¬ w.heap.size + 1 + 1 = N by omega] using n4)
            have t5 : w5.cell? ⟨w.heap.size + 1 + 1, 1, none⟩ = some (.slice none 0 0) := (hb.cell (by show w.heap.size + 1 + 1 < _; simp [hsr]; omega)).trans (by simpa [go_sem, show ¬ N = w.heap.size + 1 + 1 by omega, show ¬ w.heap.size + 1 + 1 = N by omega] using n5)
            have t6 : w5.frozen? ⟨w.heap.size + 1 + 1, 0, none⟩ = false := (hb.frozen (by show w.heap.size + 1 + 1 < _; simp [hsr]; omega)).trans (by simpa [go_sem, show ¬ N = w.heap.size + 1 + 1 by omega, show ¬ w.heap.size + 1 + 1 = N by omega] using n6)
            have t7 : w5.frozen? ⟨w.heap.size + 1 + 1, 1, none⟩ = false := (hb.frozen (by show w.heap.size + 1 + 1 < _; simp [hsr]; omega)).trans (by simpa [go_sem, show ¬ N = w.heap.size + 1 + 1 by omega, show ¬ w.heap.size + 1 + 1 = N by omega] using n7)
            have t8 : w.heap.size + 1 + 1 < w5.heap.size := by have := hb.size; simp [hsr] at this; omega
            clear ht hb n0 n1 n2 n3 n4 n5 n6 n7 o0 p0 p1
            go_wp2
            refine bodyPost_ret (v := .tuple #[.agg #[.bool (toldS s (nv q)).1, .slice A' (toldS s (nv q)).2.1.length c'], .int .i64 (toldS s (nv q)).2.2]) (by simp [results, Try.results35, go_sem, t4, t5, t6, t7, t8]) rfl ⟨.slice A' (toldS s (nv q)).2.1.length c', ?_, ?_, ?_⟩
            · rw [HQ.out.1]
            · rw [HQ.out.1]; exact Kd.V_mono (Kd.V_far (Kd.V_far (HV.out w.heap.size) (fun k hk => by show k ≠ w.heap.size + 1 + 1; omega) _) (fun k hk => by show k ≠ w.heap.size + 1 + 1; omega) _) (fun k hk => by omega)
            · exact ((BE.out.setCell (by simp; omega) _).setCell (by simp; omega) _)
    · have hrt2 : rightB t m = false := by simpa using hrt2
      have hS : Aside0 (addS s l t m = (false, [], 2)) := ⟨by unfold addS; rw [hrt2]; simp⟩
      go_wp2
      refine bodyPost_ret (v := .tuple #[.agg #[.bool false, .slice none 0 0], .int .i64 2]) (by simp [results, Try.results35, go_sem, e0, e1, i0, i1, z2]) rfl ⟨.slice none 0 0, ?_, ?_, ?_⟩
      · rw [hS.out]
      · rw [hS.out]; exact Kd.V_nil _ _ _ _ _
      · exact ((HB2.out.setCell (by simp; omega) _).setCell (by simp; omega) _)
  · have hrt : rightB s l = false := by simpa using hrt
    have hS : Aside0 (addS s l t m = (false, [], 2)) := ⟨by unfold addS; rw [hrt]; rfl⟩
    go_wp2
    refine bodyPost_ret (v := .tuple #[.agg #[.bool false, .slice none 0 0], .int .i64 2]) (by simp [results, Try.results35, go_sem, e0, e1, i0, i1, z2]) rfl ⟨.slice none 0 0, ?_, ?_, ?_⟩
    · rw [hS.out]
    · rw [hS.out]; exact Kd.V_nil _ _ _ _ _
    · exact ((HB1.out.setCell (by simp; omega) _).setCell (by simp; omega) _)
end Go.Proofs.Ytplignahjhenjaa.Lb
