/- limb: LimbNumbers: the greatest number. -/
import Derived.Test.YtlcjnahfahobjaaLbOn
import Derived.Test.YtlcjnahfahobjaaLbTw
import Derived.Test.YtlcjnahfahobjaaLbNu
import Derived.Test.YtlcjnahfahobjaaLbGr
namespace Go.Proofs.Ytlcjnahfahobjaa.Lb
open Go.RowKit Go.Proofs.YtlcjnahfahobjaaW.PrintWords Go.Proofs.YtlcjnahfahobjaaW.PrintLast Go.Proofs.YtlcjnahfahobjaaW.PrintMore
set_option linter.unusedVariables false
set_option linter.unusedSimpArgs false

/-- So many limbs laid of N. -/
def gr (N j : Nat) : List Int := ones j ++ List.replicate (N - j) 0
theorem gr_len (N j : Nat) (h : j ≤ N) : (gr N j).length = N := by unfold gr; rw [List.length_append, ones_len, List.length_replicate]; omega
theorem gr_zero (N : Nat) : gr N 0 = List.replicate N 0 := by simp [gr, ones]
theorem gr_all (N : Nat) : gr N N = ones N := by simp [gr]
theorem gr_set (N j : Nat) (h : j < N) : (gr N j).set j 18446744073709551615 = gr N (j + 1) := by
  unfold gr
  obtain ⟨m, hm⟩ : ∃ m, N - j = m + 1 := ⟨N - j - 1, by omega⟩
  have e2 : N - (j + 1) = m := by omega
  rw [List.set_append_right _ _ (by rw [ones_len]; omega), ones_len, hm, e2, Nat.sub_self]
  have e1 : ones (j + 1) = ones j ++ [18446744073709551615] := by unfold ones; rw [List.replicate_succ']
  rw [e1, List.replicate_succ, List.set_cons_zero, List.append_assoc]
  rfl
set_option maxRecDepth 100000 in
set_option maxHeartbeats 2000000 in
theorem great_n (s : Bool) (N : Nat) (hN : N = 4096) (w : World) :
    Calls Try.prog 31 #[.bool s] w fun e w' => ∃ A, e = .returned (.agg #[.bool s, .slice A N N]) ∧ Aside0 (u64.C w' A N (ones N)) ∧ Aside0 (Below w.heap.size w w') := by
  have hu := Try.underlying24
  have hus := Try.underlying22
  have hmk : ∀ w' : World, (Instr.makeSlice 22 (.int .i64 4096) (.int .i64 4096)).run Try.prog w' = .ok (.slice (some ⟨w'.heap.size, 0, none⟩) N N) (w'.alloc (.cells (madeCells #[.int .u64 0] N) 50)) := fun w' => by
    have := run_make_row' (P := Try.prog) 22 50 (.int .u64 0) 8 hus infoU rfl .i64 .i64 N (by omega) (by omega) w'
    rwa [show ((N : Nat) : Int) = 4096 by omega] at this
  have h4 : (4096 : Int) = (N : Int) := by omega
  have H4 := Aside0.mk h4
  have HN := Aside0.mk hN
  obtain ⟨W0, hW0⟩ : ∃ W0, w.alloc (.cells #[.bool false, .slice none 0 0] 24) = W0 := ⟨_, rfl⟩
  have HZ : Aside0 (W0.heap.size = w.heap.size + 1) := ⟨by rw [← hW0]; simp⟩
  have HB0 : Aside0 (Below w.heap.size w W0) := ⟨by rw [← hW0]; exact (Below.refl _ _).alloc (Nat.le_refl _) _⟩
  have HR0 : Aside0 (W0.heap[w.heap.size]? = some (.cells #[.bool false, .slice none 0 0] 24 (0, 0))) := ⟨by rw [← hW0]; exact heap_alloc_new _ _⟩
  have HW0 := Aside0.mk hW0
  clear hN h4 hW0
  go_enter Try.func31, Try.ntmps31
  go_upto_region 1 with fail
  rw [HW0.out]
  go_wp2
  have HOW : Aside0 (World.ownsRow ((W0.alloc (.cells (madeCells #[.int .u64 0] N) 50)).alloc (.cells #[.bool s, .slice (some ⟨W0.heap.size, 0, none⟩) N N] 24)) W0.heap.size 50 1 (.slice (some ⟨W0.heap.size, 0, none⟩) N N) N (nums .u64 (gr N 0))) := ⟨by
    rw [gr_zero]
    exact World.ownsRow.alloc (own_made W0 N N (Nat.le_refl _) (by have := HN.out; omega)) _⟩
  have HX : Aside0 (((W0.alloc (.cells (madeCells #[.int .u64 0] N) 50)).alloc (.cells #[.bool s, .slice (some ⟨W0.heap.size, 0, none⟩) N N] 24)).heap[W0.heap.size + 1]? = some (.cells #[.bool s, .slice (some ⟨W0.heap.size, 0, none⟩) N N] 24 (0, 0))) := ⟨by
    have := heap_alloc_new (W0.alloc (.cells (madeCells #[.int .u64 0] N) 50)) (.cells #[.bool s, .slice (some ⟨W0.heap.size, 0, none⟩) N N] 24)
    simpa using this⟩
  have HB1 : Aside0 (Below W0.heap.size W0 ((W0.alloc (.cells (madeCells #[.int .u64 0] N) 50)).alloc (.cells #[.bool s, .slice (some ⟨W0.heap.size, 0, none⟩) N N] 24))) := ⟨((Below.refl _ _).alloc (Nat.le_refl _) _).alloc (by simp) _⟩
  have HS1 : Aside0 (((W0.alloc (.cells (madeCells #[.int .u64 0] N) 50)).alloc (.cells #[.bool s, .slice (some ⟨W0.heap.size, 0, none⟩) N N] 24)).heap.size = W0.heap.size + 2) := ⟨by simp⟩
  clear hmk
  go_loopw [4] (fun v4 wr => ∃ j : Nat, v4 = .int .i64 j ∧ j ≤ N ∧ Aside0 (wr.ownsRow W0.heap.size 50 1 (.slice (some ⟨W0.heap.size, 0, none⟩) N N) N (nums .u64 (gr N j))) ∧ Aside0 (wr.heap[W0.heap.size + 1]? = some (.cells #[.bool s, .slice (some ⟨W0.heap.size, 0, none⟩) N N] 24 (0, 0))) ∧ Aside0 (Below W0.heap.size W0 wr) ∧ Aside0 (wr.heap.size = W0.heap.size + 2)) (fun v4 _ => N - (intOf v4).toNat)
  case atStart => exact ⟨0, rfl, Nat.zero_le _, HOW, HX, HB1, HS1⟩
  case round =>
    obtain ⟨j, rfl, hj, HO2, HXR, HBR, HSR⟩ := hrel
    obtain ⟨x0, x1, f0, f1, xl⟩ := two_cells (Below.refl wr.heap.size wr) HXR.out
    have hsr := HSR.out
    by_cases hlt : j < N
    · have hj4 : (j : Int) < 4096 := by have := HN.out; omega
      have hj5 : (j : Int) ≤ 9223372036854775806 := by omega
      have p0 : wr.cell? ⟨W0.heap.size, j, none⟩ = some (.int .u64 ((gr N j).getD j 0)) := by
        rw [HO2.out.cellAt j (by omega)]
        simp [nums, List.getD_eq_getElem?_getD, List.getElem?_eq_getElem (show j < (gr N j).length by rw [gr_len N j hj]; omega)]
      have p1 : wr.frozen? ⟨W0.heap.size, j, none⟩ = false := HO2.out.frozenAt j
      generalize (gr N j).getD j 0 = oj at p0
      go_wp2
      go_roundw
      case rel =>
        refine ⟨j + 1, by go_num, by omega, ⟨?_⟩, ⟨?_⟩, ⟨?_⟩, ⟨?_⟩⟩
        · have := (HO2.out.stored j (.int .u64 18446744073709551615)).1
          rwa [nums, ← gr_set N j hlt, List.map_set]
        · rw [heap_setCell_other _ _ _ _ (by simp)]
          exact HXR.out
        · exact HBR.out.setCell (Nat.le_refl _) _
        · simp [hsr]
      case measure => simp [intOf]; omega
    · obtain rfl : j = N := by omega
      have hj4 : ¬ (j : Int) < 4096 := by have := HN.out; omega
      obtain ⟨r0, r1, g0, g1, rl⟩ := two_cells (W := W0) HBR.out HR0.out
      have hne : ¬ w.heap.size = W0.heap.size := by have := HZ.out; omega
      go_wp2
      have HC : Aside0 (u64.C ((wr.setCell ⟨w.heap.size, 0, none⟩ (.bool s)).setCell ⟨w.heap.size, 1, none⟩ (.slice (some ⟨W0.heap.size, 0, none⟩) j j)) (some ⟨W0.heap.size, 0, none⟩) j (ones j)) := ⟨by
        have h1 := HO2.out
        rw [gr_all] at h1
        have hR := row_R (l := ones j) (by rw [ones_len]; exact h1)
        have hV := Kd.R_far (Kd.R_far hR (p := ⟨w.heap.size, 0, none⟩) (fun k hk => by show k ≠ w.heap.size; have := HZ.out; omega) (.bool s)) (p := ⟨w.heap.size, 1, none⟩) (fun k hk => by show k ≠ w.heap.size; have := HZ.out; omega) (.slice (some ⟨W0.heap.size, 0, none⟩) j j)
        have h3 := (Kd.R_reads' hV).2.2
        rwa [ones_len] at h3⟩
      refine bodyPost_ret (v := .agg #[.bool s, .slice (some ⟨W0.heap.size, 0, none⟩) j j]) (by simp [results, Try.results31, go_sem, r0, r1, g0, g1, rl]) rfl ⟨_, rfl, HC, ⟨?_⟩⟩
      exact ((HB0.out.trans (HBR.out.mono (by have := HZ.out; omega))).setCell (Nat.le_refl _) _).setCell (Nat.le_refl _) _
/-- The greatest number, or its opposite. -/
theorem great_c (s : Bool) (w : World) (bg : List Int) (hb : Aside0 (bg = ones 4096)) : Calls Try.prog 31 #[.bool s] w (OutU w s bg) := by
  obtain ⟨N, hN⟩ : ∃ N : Nat, N = 4096 := ⟨_, rfl⟩
  have e : bg = ones N := by rw [hN]; exact hb.out
  subst e
  refine (great_n s N hN w).mono ?_
  rintro e w' ⟨A, rfl, hC, hB⟩
  exact ⟨A, N, by rw [ones_len], ⟨by rw [ones_len]; exact Nat.le_refl _, by rw [ones_len]; exact hC.out⟩, hB⟩
end Go.Proofs.Ytlcjnahfahobjaa.Lb
