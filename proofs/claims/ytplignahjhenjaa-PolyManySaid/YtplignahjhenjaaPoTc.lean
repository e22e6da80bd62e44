/- poly: Times: the closure that makes a coefficient; product. -/
import Derived.Test.YtplignahjhenjaaPoMv
import Derived.Test.YtplignahjhenjaaPoAt
namespace Go.Proofs.Ytplignahjhenjaa.Lb
open Go.RowKit Go.Proofs.YtplignahjhenjaaW.PrintWords Go.Proofs.YtplignahjhenjaaW.PrintLast Go.Proofs.YtplignahjhenjaaW.PrintMore
open Go.Proofs.Ytplignahjhenjaa.Po (trm trm_of_tight tight_trm trm_len tight_iff ev csum csum_skip csum_more)
set_option linter.unusedVariables false
set_option linter.unusedSimpArgs false

theorem csum_lim {p q : List Int} {a b : Nat} (hp : ∀ x ∈ p, lim a x) (hq : ∀ x ∈ q, lim b x) (k : Nat) : ∀ j, (csum p q k j).natAbs ≤ j * B64 ^ (a + b)
  | 0 => by simp [csum]
  | j + 1 => by
    have ih := csum_lim hp hq k j
    have h1 := lim_mul (lim_getD hp j) (lim_getD hq (k - j))
    unfold lim at h1
    have h2 := Int.natAbs_add_le (csum p q k j) (p.getD j 0 * q.getD (k - j) 0)
    rw [csum, Nat.succ_mul]
    omega
theorem csum_lim1 {p q : List Int} {a b : Nat} (hp : ∀ x ∈ p, lim a x) (hq : ∀ x ∈ q, lim b x) (k j : Nat) (hj : j < 18446744073709551616) : lim (a + b + 1) (csum p q k j) := by
  have h1 := csum_lim hp hq k j
  unfold lim
  rw [Nat.pow_succ, Nat.mul_comm]
  have hP : 0 < B64 ^ (a + b) := Nat.pow_pos (by decide)
  have : j * B64 ^ (a + b) < B64 * B64 ^ (a + b) := Nat.mul_lt_mul_of_pos_right (by unfold B64; exact hj) hP
  omega
theorem csum_last {p q : List Int} {k i : Nat} (hi : i ≤ k + 1) (h : i = k + 1 ∨ p.length ≤ i) : csum p q k i = csum p q k (k + 1) := by
  rcases h with h | h
  · rw [h]
  · obtain ⟨m, hm⟩ : ∃ m, k + 1 = i + m := ⟨k + 1 - i, by omega⟩
    rw [hm]
    exact (csum_more p q k m i (fun j hj => by omega)).symm
set_option maxRecDepth 100000 in
set_option maxHeartbeats 8000000 in
theorem tc_z (p q : List Int) (k : Nat) (hp : ∀ x ∈ p, lim 1000 x) (hq : ∀ x ∈ q, lim 1000 x) (hmin : ∀ x ∈ p, ∀ y ∈ q, min (lm x).length (lm y).length < 24) (hsp : p.length ≤ 4096) (hsq : q.length ≤ 4096) (hk : k ≤ 8192) (A1 A2 : Option Addr) (c1 c2 gp gq gv gs : Nat) (w : World) (r1 : PL w A1 p) (r2 : PL w A2 q)
    (k1 : w.cell? ⟨gp, 0, none⟩ = some (.slice A1 p.length c1)) (k2 : w.cell? ⟨gq, 0, none⟩ = some (.slice A2 q.length c2)) (k3 : w.cell? ⟨gv, 0, none⟩ = some (.pointer (some ⟨gs, 0, none⟩))) (hg : SB w gs) :
    Calls Try.prog 55 #[.int .i64 (k : Int), .pointer (some ⟨gq, 0, none⟩), .pointer (some ⟨gp, 0, none⟩), .pointer (some ⟨gv, 0, none⟩)] w (OutI w (csum p q k (k + 1))) := by
  have hu := Try.underlying25
  have R1 := Aside0.mk r1
  have R2 := Aside0.mk r2
  have HP := Aside0.mk hp
  have HQ := Aside0.mk hq
  have HMIN := Aside0.mk hmin
  have HG := Aside0.mk hg
  have K1 := Aside0.mk k1
  have K2 := Aside0.mk k2
  have K3 := Aside0.mk k3
  obtain ⟨g3, hg3⟩ : ∃ g3, w.heap.size = g3 := ⟨_, rfl⟩
  obtain ⟨X, hX⟩ : ∃ X, (w.alloc (.cells #[.bool false, .slice none 0 0] 25)).alloc (.cells #[.bool false, .slice none 0 0] 25) = X := ⟨_, rfl⟩
  have HBX : Aside0 (Below g3 w X) := ⟨by rw [← hX, ← hg3]; exact ((Below.refl _ _).alloc (Nat.le_refl _) _).alloc (by simp) _⟩
  have HRX : Aside0 (BV X g3 none 0 0) := ⟨by rw [← hX, ← hg3]; exact (BV.zero w).alloc _⟩
  have HVX : Aside0 (BV X (g3 + 1) none 0 0) := ⟨by
    rw [← hX, ← hg3]
    have := BV.zero (w.alloc (.cells #[.bool false, .slice none 0 0] 25))
    simpa using this⟩
  have HG3 := Aside0.mk hg3
  have HXX := Aside0.mk hX
  clear r1 r2 hp hq hmin hg k1 k2 k3 hX hg3
  obtain ⟨I0, hI0⟩ : ∃ I0 : Nat, k + 1 - q.length = I0 := ⟨_, rfl⟩
  have hmax : max (0 : Int) ((k : Int) - (q.length : Int) + 1) = (I0 : Int) := by omega
  have HI0 := Aside0.mk hI0
  clear hI0
  go_enter Try.func55, Try.ntmps55
  go_upto_region 2 with fail
  rw [HXX.out, HG3.out]
  have hBw : Below w.heap.size w X := by rw [HG3.out]; exact HBX.out
  have k2 := pw_cell_below hBw K2.out
  clear hBw
  go_wp2_with fail
  all_goals
    clear k2
    go_loopw [7] (fun v7 wr => ∃ (i : Nat) (A : Option Addr) (c : Nat), v7 = .int .i64 i ∧ i ≤ k + 1 ∧ k + 1 ≤ i + q.length ∧ Aside0 (BV wr (g3 + 1) A c (csum p q k i)) ∧ Aside0 (BV wr g3 none 0 0) ∧ Aside0 (Below g3 w wr)) (fun v7 _ => (k + 1 - (intOf v7).toNat))
    case atStart =>
      refine ⟨k + 1 - q.length, none, 0, by first | rfl | (congr 1; omega), by omega, by omega, ?_, HRX, HBX⟩
      rw [csum_skip p q k _ (fun i hi => .inl (by omega))]
      exact HVX
    case round =>
      obtain ⟨i, A, c, rfl, hik, hiq, HV, HR, HB⟩ := hrel
      rename World => wr
      have hBw : Below w.heap.size w wr := by rw [HG3.out]; exact HB.out
      have k1 := pw_cell_below hBw K1.out
      have k2 := pw_cell_below hBw K2.out
      have k3 := pw_cell_below hBw K3.out
      have HS : Aside0 (SB wr gs) := ⟨HG.out.below hBw⟩
      have HBw := Aside0.mk hBw
      clear hBw
      by_cases hc : i ≤ k ∧ i < p.length
      · obtain ⟨hc1, hc2⟩ := hc
        obtain ⟨K, hK⟩ : ∃ K, k - i = K := ⟨_, rfl⟩
        have hKi : (k : Int) - (i : Int) = (K : Int) := by omega
        have hKw : IntKind.i64.wrap ((k : Int) - (i : Int)) = (K : Int) := by rw [IntKind.wrap_i64]; omega
        have hKw2 : IntKind.i64.wrap (K : Int) = (K : Int) := by rw [IntKind.wrap_i64]; omega
        have hK0 : (0 : Int) ≤ (K : Int) := by omega
        have hKl : (K : Int) < (q.length : Int) := by omega
        have hil : (i : Int) < (p.length : Int) := by omega
        obtain ⟨ad1, B1, d1, hA1, p0, p1, HR1⟩ := R1.out.get HBw.out i hc2
        obtain ⟨ad2, B2, d2, hA2, q0, q1, HR2⟩ := R2.out.get HBw.out K (by omega)
        rw [hA1] at k1
        rw [hA2] at k2
        obtain ⟨y0, y1, _⟩ := HV.out.cells
        have l1 := lim_getD HP.out i
        have l2 := lim_getD HQ.out K
        have lmn : min (lm (p.getD i 0)).length (lm (q.getD K 0)).length < 24 := by
          refine HMIN.out _ ?_ _ ?_
          · rw [List.getD_eq_getElem?_getD, List.getElem?_eq_getElem hc2]; exact List.getElem_mem hc2
          · have hK2 : K < q.length := by omega
            rw [List.getD_eq_getElem?_getD, List.getElem?_eq_getElem hK2]; exact List.getElem_mem hK2
        have ls := csum_lim1 HP.out HQ.out k i (by omega)
        have ls1 := csum_lim1 HP.out HQ.out k (i + 1) (by omega)
        have hst : csum p q k (i + 1) = csum p q k i + p.getD i 0 * q.getD K 0 := by rw [csum, hK]
        rw [hst] at ls1
        have HST := Aside0.mk hst
        clear hst
        obtain ⟨S, hS⟩ : ∃ S, csum p q k i = S := ⟨_, rfl⟩
        obtain ⟨a, ha⟩ : ∃ a, p.getD i 0 = a := ⟨_, rfl⟩
        obtain ⟨b, hb⟩ : ∃ b, q.getD K 0 = b := ⟨_, rfl⟩
        rw [hS] at HV y0 y1 ls ls1 HST
        rw [ha] at p0 p1 HR1 l1 lmn ls1 HST
        rw [hb] at q0 q1 HR2 l2 lmn ls1 HST
        have CL1 := Lib.hid (fun W' (hW' : Below wr.heap.size wr W') => times_z a b (lim_le l1 (by omega)) (lim_le l2 (by omega)) (lim_le (lim_mul l1 l2) (by omega)) lmn B1 B2 d1 d2 gs W' (HS.out.below hW') (HR1.out.below hW') (HR2.out.below hW'))
        have CL2 := Lib.hid (fun W' B' c' (hW' : Below wr.heap.size wr W') (hr' : RV W' B' c' (a * b)) => plus_z S (a * b) (lim_le ls (by omega)) (lim_le (lim_mul l1 l2) (by omega)) (lim_le ls1 (by omega)) A B' c c' gs W' (HS.out.below hW') (HV.out.rv.below hW') hr')
        obtain ⟨M, hM⟩ : ∃ M, a * b = M := ⟨_, rfl⟩
        rw [hM] at CL1 CL2 HST
        obtain ⟨Z, hZ⟩ : ∃ Z, S + M = Z := ⟨_, rfl⟩
        rw [hZ] at CL2 HST
        have HK := Aside0.mk hK
        clear hM hZ ha hb hS ls ls1 l1 l2 lmn hK hA1 hA2
        go_upto_region 5 with fail
        -- REGION (mktc.py)
        refine start_ (n := 16) (S := fun w' => Below wr.heap.size wr w') (ds := [15]) #[false, false, false, false, false, false, false, false, false, false, false, false, false, false, false, false] (by kernel_rfl) rfl rfl (Below.refl _ _).drew (fun hHeld => ?_)
        generalize wr.drew = WD at hHeld ⊢
        refine take_ (i := 0) (N := some 25) (v := ?_) (a' := ?_) #[true, false, false, false, false, false, false, false, false, false, false, false, false, false, false, false] rfl rfl (by kernel_rfl) (fun _ _ _ h => h) (Or.inl ⟨by rfl, ?_⟩) hHeld ?_ ?_
        rotate_left
        · intro w' s0
          have e0 := pw_cell_below s0 k1
          have e1 := pw_cell_below s0 k2
          have e2 := pw_cell_below s0 k3
          have e3 := pw_cell_below s0 p0
          have e4 := pw_cell_below s0 p1
          have e5 := pw_cell_below s0 q0
          have e6 := pw_cell_below s0 q1
          have e7 := pw_cell_below s0 y0
          have e8 := pw_cell_below s0 y1
          go_simp
          with_reducible rfl
        rotate_left
        · simp only [Act.put, List.setIfInBounds_toArray, List.set_cons_zero, List.set_cons_succ, i64_w, i32_w]
          rfl
        refine take_ (i := 1) (N := some 26) (v := ?_) (a' := ?_) #[true, true, false, false, false, false, false, false, false, false, false, false, false, false, false, false] rfl rfl (by kernel_rfl) (fun _ _ _ h => h) (Or.inl ⟨by rfl, ?_⟩) hHeld ?_ ?_
        rotate_left
        · intro w' s0
          have e0 := pw_cell_below s0 k1
          have e1 := pw_cell_below s0 k2
          have e2 := pw_cell_below s0 k3
          have e3 := pw_cell_below s0 p0
          have e4 := pw_cell_below s0 p1
          have e5 := pw_cell_below s0 q0
          have e6 := pw_cell_below s0 q1
          have e7 := pw_cell_below s0 y0
          have e8 := pw_cell_below s0 y1
          go_simp
          with_reducible rfl
        rotate_left
        · simp only [Act.put, List.setIfInBounds_toArray, List.set_cons_zero, List.set_cons_succ, i64_w, i32_w]
          rfl
        refine take_ (i := 2) (N := some 27) (v := ?_) (a' := ?_) #[true, true, true, false, false, false, false, false, false, false, false, false, false, false, false, false] rfl rfl (by kernel_rfl) (fun _ _ _ h => h) (Or.inl ⟨by rfl, ?_⟩) hHeld ?_ ?_
        rotate_left
        · intro w' s0
          have e0 := pw_cell_below s0 k1
          have e1 := pw_cell_below s0 k2
          have e2 := pw_cell_below s0 k3
          have e3 := pw_cell_below s0 p0
          have e4 := pw_cell_below s0 p1
          have e5 := pw_cell_below s0 q0
          have e6 := pw_cell_below s0 q1
          have e7 := pw_cell_below s0 y0
          have e8 := pw_cell_below s0 y1
          go_simp
          with_reducible rfl
        rotate_left
        · simp only [Act.put, List.setIfInBounds_toArray, List.set_cons_zero, List.set_cons_succ, i64_w, i32_w]
          rfl
        refine take_ (i := 3) (N := some 28) (v := ?_) (a' := ?_) #[true, true, true, true, false, false, false, false, false, false, false, false, false, false, false, false] rfl rfl (by kernel_rfl) (fun _ _ _ h => h) (Or.inl ⟨by rfl, ?_⟩) hHeld ?_ ?_
        rotate_left
        · intro w' s0
          have e0 := pw_cell_below s0 k1
          have e1 := pw_cell_below s0 k2
          have e2 := pw_cell_below s0 k3
          have e3 := pw_cell_below s0 p0
          have e4 := pw_cell_below s0 p1
          have e5 := pw_cell_below s0 q0
          have e6 := pw_cell_below s0 q1
          have e7 := pw_cell_below s0 y0
          have e8 := pw_cell_below s0 y1
          go_simp
          with_reducible rfl
        rotate_left
        · simp only [Act.put, List.setIfInBounds_toArray, List.set_cons_zero, List.set_cons_succ, i64_w, i32_w]
          rfl
        refine pure_ (i := 4) (N := some 29) (v := ?_) (a' := ?_) #[true, true, true, true, true, false, false, false, false, false, false, false, false, false, false, false] rfl rfl (by kernel_rfl) (fun _ _ _ h => h) (Or.inl ⟨by rfl, ?_⟩) ?_ ?_
        rotate_left
        · intro w'
          go_simp
          with_reducible rfl
        rotate_left
        · simp only [Act.put, List.setIfInBounds_toArray, List.set_cons_zero, List.set_cons_succ, i64_w, i32_w]
          rfl
        refine pure_ (i := 5) (N := some 30) (v := ?_) (a' := ?_) #[true, true, true, true, true, true, false, false, false, false, false, false, false, false, false, false] rfl rfl (by kernel_rfl) (fun _ _ _ h => h) (Or.inl ⟨by rfl, ?_⟩) ?_ ?_
        rotate_left
        · intro w'
          go_simp
          with_reducible rfl
        rotate_left
        · simp only [Act.put, List.setIfInBounds_toArray, List.set_cons_zero, List.set_cons_succ, i64_w, i32_w]
          rfl
        refine take_ (i := 6) (N := some 31) (v := ?_) (a' := ?_) #[true, true, true, true, true, true, true, false, false, false, false, false, false, false, false, false] rfl rfl (by kernel_rfl) (fun _ _ _ h => h) (Or.inl ⟨by rfl, ?_⟩) hHeld ?_ ?_
        rotate_left
        · intro w' s0
          have e0 := pw_cell_below s0 k1
          have e1 := pw_cell_below s0 k2
          have e2 := pw_cell_below s0 k3
          have e3 := pw_cell_below s0 p0
          have e4 := pw_cell_below s0 p1
          have e5 := pw_cell_below s0 q0
          have e6 := pw_cell_below s0 q1
          have e7 := pw_cell_below s0 y0
          have e8 := pw_cell_below s0 y1
          go_simp
          with_reducible rfl
        rotate_left
        · simp only [Act.put, List.setIfInBounds_toArray, List.set_cons_zero, List.set_cons_succ, i64_w, i32_w]
          rfl
        refine take_ (i := 7) (N := some 32) (v := ?_) (a' := ?_) #[true, true, true, true, true, true, true, true, false, false, false, false, false, false, false, false] rfl rfl (by kernel_rfl) (fun _ _ _ h => h) (Or.inl ⟨by rfl, ?_⟩) hHeld ?_ ?_
        rotate_left
        · intro w' s0
          have e0 := pw_cell_below s0 k1
          have e1 := pw_cell_below s0 k2
          have e2 := pw_cell_below s0 k3
          have e3 := pw_cell_below s0 p0
          have e4 := pw_cell_below s0 p1
          have e5 := pw_cell_below s0 q0
          have e6 := pw_cell_below s0 q1
          have e7 := pw_cell_below s0 y0
          have e8 := pw_cell_below s0 y1
          go_simp
          with_reducible rfl
        rotate_left
        · simp only [Act.put, List.setIfInBounds_toArray, List.set_cons_zero, List.set_cons_succ, i64_w, i32_w]
          rfl
        refine pure_ (i := 8) (N := some 33) (v := ?_) (a' := ?_) #[true, true, true, true, true, true, true, true, true, false, false, false, false, false, false, false] rfl rfl (by kernel_rfl) (fun _ _ _ h => h) (Or.inl ⟨by rfl, ?_⟩) ?_ ?_
        rotate_left
        · intro w'
          go_simp
          with_reducible rfl
        rotate_left
        · simp only [Act.put, List.setIfInBounds_toArray, List.set_cons_zero, List.set_cons_succ, i64_w, i32_w]
          rfl
        refine pure_ (i := 9) (N := some 34) (v := ?_) (a' := ?_) #[true, true, true, true, true, true, true, true, true, true, false, false, false, false, false, false] rfl rfl (by kernel_rfl) (fun _ _ _ h => h) (Or.inl ⟨by rfl, ?_⟩) ?_ ?_
        rotate_left
        · intro w'
          go_simp
          with_reducible rfl
        rotate_left
        · simp only [Act.put, List.setIfInBounds_toArray, List.set_cons_zero, List.set_cons_succ, i64_w, i32_w]
          rfl
        refine pure_ (i := 10) (N := some 35) (v := ?_) (a' := ?_) #[true, true, true, true, true, true, true, true, true, true, true, false, false, false, false, false] rfl rfl (by kernel_rfl) (fun _ _ _ h => h) (Or.inl ⟨by rfl, ?_⟩) ?_ ?_
        rotate_left
        · intro w'
          go_simp
          with_reducible rfl
        rotate_left
        · simp only [Act.put, List.setIfInBounds_toArray, List.set_cons_zero, List.set_cons_succ, i64_w, i32_w]
          rfl
        refine pure_ (i := 11) (N := some 36) (v := ?_) (a' := ?_) #[true, true, true, true, true, true, true, true, true, true, true, true, false, false, false, false] rfl rfl (by kernel_rfl) (fun _ _ _ h => h) (Or.inl ⟨by rfl, ?_⟩) ?_ ?_
        rotate_left
        · intro w'
          go_simp
          with_reducible rfl
        rotate_left
        · simp only [Act.put, List.setIfInBounds_toArray, List.set_cons_zero, List.set_cons_succ, i64_w, i32_w]
          rfl
        refine take_ (i := 12) (N := some 37) (v := ?_) (a' := ?_) #[true, true, true, true, true, true, true, true, true, true, true, true, true, false, false, false] rfl rfl (by kernel_rfl) (fun _ _ _ h => h) (Or.inl ⟨by rfl, ?_⟩) hHeld ?_ ?_
        rotate_left
        · intro w' s0
          have e0 := pw_cell_below s0 k1
          have e1 := pw_cell_below s0 k2
          have e2 := pw_cell_below s0 k3
          have e3 := pw_cell_below s0 p0
          have e4 := pw_cell_below s0 p1
          have e5 := pw_cell_below s0 q0
          have e6 := pw_cell_below s0 q1
          have e7 := pw_cell_below s0 y0
          have e8 := pw_cell_below s0 y1
          go_simp
          with_reducible rfl
        rotate_left
        · simp only [Act.put, List.setIfInBounds_toArray, List.set_cons_zero, List.set_cons_succ, i64_w, i32_w]
          rfl
        refine one_ (i := 13) (N := some 38) #[true, true, true, true, true, true, true, true, true, true, true, true, true, true, false, false] rfl rfl (by kernel_rfl) (by decide) (fun K hK => ?_)
        refine goes_ Try.func43 (by kernel_rfl) rfl #[.pointer (some ⟨gs, 0, none⟩), .agg #[.bool (sg a), .slice B1 (lm a).length d1], .agg #[.bool (sg b), .slice B2 (lm b).length d2]] (by rfl) rfl rfl (by (try simp only [List.map_toArray, List.map_cons, List.map_nil]); first | done | rfl) ?_
        refine (CL1.out _ hHeld).mono ?_
        rintro e w4 ⟨B4, c4, rfl, HR4, hBw4⟩
        refine ⟨_, rfl, ?_⟩
        have HB4 : Aside0 (Below wr.heap.size wr w4) := ⟨hHeld.trans (hBw4.out.mono hHeld.size)⟩
        refine hK.out _ _ HB4.out ?_
        clear hHeld hK K
        intro hHeld
        refine norm_ (a' := ?_) ?_ ?_
        rotate_left
        · show Act.put _ (some 38) _ = _
          simp only [Act.put, List.setIfInBounds_toArray, List.set_cons_zero, List.set_cons_succ, i64_w, i32_w]
          rfl
        refine one_ (i := 14) (N := some 39) #[true, true, true, true, true, true, true, true, true, true, true, true, true, true, true, false] rfl rfl (by kernel_rfl) (by decide) (fun K hK => ?_)
        refine goes_ Try.func42 (by kernel_rfl) rfl #[.pointer (some ⟨gs, 0, none⟩), .agg #[.bool (sg S), .slice A (lm S).length c], .agg #[.bool (sg M), .slice B4 (lm M).length c4]] (by rfl) rfl rfl (by (try simp only [List.map_toArray, List.map_cons, List.map_nil]); first | done | rfl) ?_
        refine (CL2.out _ _ _ hHeld HR4.out).mono ?_
        rintro e w5 ⟨B5, c5, rfl, HR5, hBw5⟩
        refine ⟨_, rfl, ?_⟩
        have HB5 : Aside0 (Below wr.heap.size wr w5) := ⟨hHeld.trans (hBw5.out.mono hHeld.size)⟩
        refine hK.out _ _ HB5.out ?_
        clear hHeld hK K
        intro hHeld
        refine norm_ (a' := ?_) ?_ ?_
        rotate_left
        · show Act.put _ (some 39) _ = _
          simp only [Act.put, List.setIfInBounds_toArray, List.set_cons_zero, List.set_cons_succ, i64_w, i32_w]
          rfl
        refine last_ (i := 15) (N := none) #[true, true, true, true, true, true, true, true, true, true, true, true, true, true, true, true] rfl rfl (by kernel_rfl) (by decide) (fun K hK => ?_)
        have z0 := pw_cell_below hHeld y0
        have z1 := pw_cell_below hHeld y1
        have zf0 := (HV.out.below hHeld).frz 0
        have zf1 := (HV.out.below hHeld).frz 1
        refine skip_ (w1 := ?_) (by rfl) rfl ?_ ?_
        rotate_left
        · go_simp
          rfl
        refine hK.out _ _ ?_
        clear hK K
        refine done_ (by kernel_rfl) ?_
        -- END
        have HVZ := Aside0.mk (HV.out.below HB5.out)
        have HRZ := Aside0.mk (HR.out.below HB5.out)
        have hg3w : Aside0 (g3 ≤ wr.heap.size) := ⟨by have := HR.out.cells.2.2; omega⟩
        have HBZ : Aside0 (Below g3 w w5) := ⟨HB.out.trans (HB5.out.mono hg3w.out)⟩
        clear y0 y1 p0 p1 q0 q1 z0 z1 zf0 zf1 k1 k2 k3 hKi hKw hKw2 hK0
        go_wp2
        go_roundw
        case rel =>
          refine ⟨i + 1, B5, c5, by go_num, by omega, by omega, ⟨?_⟩, ⟨HRZ.out.far HVZ.out (by omega) _ _⟩, ⟨(HBZ.out.setCell (p := ⟨g3 + 1, 0, none⟩) (Nat.le_succ _) _).setCell (p := ⟨g3 + 1, 1, none⟩) (Nat.le_succ _) _⟩⟩
          rw [HST.out]
          exact HVZ.out.set HR5.out
        case measure => simp [intOf]; omega
      · have hcs : Aside0 (csum p q k i = csum p q k (k + 1)) := ⟨csum_last hik (by omega)⟩
        rw [hcs.out] at HV
        obtain ⟨y0, y1, _⟩ := HV.out.cells
        obtain ⟨t0, t1, _⟩ := HR.out.cells
        have tf0 := HR.out.frz 0
        have tf1 := HR.out.frz 1
        obtain ⟨Z, hZ⟩ : ∃ Z, csum p q k (k + 1) = Z := ⟨_, rfl⟩
        rw [hZ] at HV y0 y1
        have HZ := Aside0.mk hZ
        clear hZ hcs
        obtain ⟨ii, hii⟩ : ∃ ii : Int, (i : Int) = ii := ⟨_, rfl⟩
        have hR0 := HR
        by_cases hc1 : i ≤ k
        · have hc2 : ¬ i < p.length := fun h => hc ⟨hc1, h⟩
          clear hc hii
          go_wp2_with fail
          refine bodyPost_ret (v := .agg #[.bool (sg Z), .slice A (lm Z).length c]) (by simp [results, Try.results55, go_sem, *]) rfl ⟨A, c, by rw [HZ.out], ⟨by rw [HZ.out]; exact BV.rfar HV.out.rv HR.out _ _⟩, ⟨?_⟩⟩
          rw [HG3.out]
          exact (HB.out.setCell (p := ⟨g3, 0, none⟩) (Nat.le_refl _) _).setCell (p := ⟨g3, 1, none⟩) (Nat.le_refl _) _
        · clear hc hii
          go_wp2_with fail
          refine bodyPost_ret (v := .agg #[.bool (sg Z), .slice A (lm Z).length c]) (by simp [results, Try.results55, go_sem, *]) rfl ⟨A, c, by rw [HZ.out], ⟨by rw [HZ.out]; exact BV.rfar HV.out.rv HR.out _ _⟩, ⟨?_⟩⟩
          rw [HG3.out]
          exact (HB.out.setCell (p := ⟨g3, 0, none⟩) (Nat.le_refl _) _).setCell (p := ⟨g3, 1, none⟩) (Nat.le_refl _) _
set_option maxRecDepth 100000 in
set_option maxHeartbeats 4000000 in
theorem product_z (n : Nat) (hn : n ≤ 8192) (f : Nat → Int) (gp gq gv : Nat) (w : World)
    (CL : ∀ k, k < n → ∀ W, Below w.heap.size w W → Calls Try.prog 55 #[.int .i64 (k : Int), .pointer (some ⟨gq, 0, none⟩), .pointer (some ⟨gp, 0, none⟩), .pointer (some ⟨gv, 0, none⟩)] W (OutI W (f k))) :
    Calls Try.prog 54 #[.int .i64 (n : Int), .func (.func 55) #[] #[.pointer (some ⟨gq, 0, none⟩), .pointer (some ⟨gp, 0, none⟩), .pointer (some ⟨gv, 0, none⟩)]] w fun e w' => ∃ g, e = .returned (.slice (some ⟨g, 0, none⟩) n n) ∧ w.heap.size ≤ g ∧ Aside0 (OB w' g ((List.range n).map f)) ∧ Aside0 (Below w.heap.size w w') := by
  have hu := Try.underlying25
  have hmk := make_nums n (by omega)
  have CL := Lib.hid CL
  obtain ⟨zs, hzs⟩ : ∃ zs, (List.range n).map f = zs := ⟨_, rfl⟩
  have hln : zs.length = n := by rw [← hzs]; simp
  have hgt : ∀ k, k < n → zs.getD k 0 = f k := fun k hk => by rw [← hzs, List.getD_eq_getElem?_getD, List.getElem?_map, List.getElem?_range hk]; rfl
  have HZS := Aside0.mk hzs
  have HLN := Aside0.mk hln
  have HGT := Aside0.mk hgt
  obtain ⟨X, hX⟩ : ∃ X, w.alloc (.cells (madeCells #[.bool false, .slice none 0 0] (n * 2)) 25) = X := ⟨_, rfl⟩
  have HBX : Aside0 (Below w.heap.size w X) := ⟨by rw [← hX]; exact (Below.refl _ _).alloc (Nat.le_refl _) _⟩
  have HOX : Aside0 (OB X w.heap.size (cpS zs 0)) := ⟨by rw [← hX, cpS_zero, hln]; exact OB.made w n⟩
  have HX := Aside0.mk hX
  clear hX hzs hln hgt
  go_enter Try.func54, Try.ntmps54
  go_wp2
  rw [HX.out]
  go_loopw [11] (fun v11 wr => ∃ i : Nat, v11 = .int .i64 i ∧ i ≤ n ∧ Aside0 (OB wr w.heap.size (cpS zs i)) ∧ Aside0 (Below w.heap.size w wr)) (fun v11 _ => n - (intOf v11).toNat)
  case atStart => exact ⟨0, rfl, Nat.zero_le _, HOX, HBX⟩
  case round =>
    obtain ⟨i, rfl, hi, HO, HB⟩ := hrel
    rename World => wr
    by_cases hlt : i < n
    · go_wp2_with fail
      refine (CL.out i hlt wr HB.out).mono ?_
      rintro e w1 ⟨B1, c1, rfl, hR1, hB1⟩
      have HO1 : Aside0 (OB w1 w.heap.size (cpS zs i)) := ⟨HO.out.below hB1.out⟩
      have HBB : Aside0 (Below w.heap.size w w1) := ⟨HB.out.trans (hB1.out.mono HB.out.size)⟩
      have hcl : (cpS zs i).length = n := by rw [cpS_len (by rw [HLN.out]; exact hi), HLN.out]
      have HCL := Aside0.mk hcl
      obtain ⟨B2, c2, p0, p1, HR2, f0, f1⟩ := HO1.out.get (Below.refl _ _) i (by omega)
      obtain ⟨y, hy⟩ : ∃ y, (cpS zs i).getD i 0 = y := ⟨_, rfl⟩
      rw [hy] at p0 p1
      have hfz := HGT.out i hlt
      obtain ⟨Z, hZ⟩ : ∃ Z, f i = Z := ⟨_, rfl⟩
      rw [hZ] at hR1 hfz
      rw [hZ]
      have HFZ := Aside0.mk hfz
      clear hy HR2 hcl hfz hZ
      go_wp2_with fail
      go_roundw
      case rel =>
        refine ⟨i + 1, by go_num, by omega, ⟨?_⟩, ⟨(HBB.out.setCell (p := ⟨w.heap.size, i * 2, none⟩) (Nat.le_refl _) _).setCell (p := ⟨w.heap.size, i * 2 + 1, none⟩) (Nat.le_refl _) _⟩⟩
        have := HO1.out.set i (by rw [HCL.out]; exact hlt) hR1.out
        rw [← HFZ.out, cpS_set (by rw [HLN.out]; exact hlt)] at this
        rw [← HFZ.out]
        exact this
      case measure => simp [intOf]; omega
    · obtain rfl : i = n := by omega
      have hall : cpS zs i = zs := by
        have := cpS_all zs
        rwa [HLN.out] at this
      rw [hall] at HO
      clear hall
      go_wp2_with fail
      go_ret
      exact ⟨w.heap.size, rfl, Nat.le_refl _, ⟨by rw [HZS.out]; exact HO.out⟩, HB⟩
end Go.Proofs.Ytplignahjhenjaa.Lb
