/- limb: LentLimbs, LentInt: a number's limbs, lent with marks behind them. -/
import Derived.Test.YtlcjnahfahobjaaLbLe
import Derived.Test.YtlcjnahfahobjaaLbR
namespace Go.Proofs.Ytlcjnahfahobjaa.Lb
open Go.RowKit Go.Proofs.YtlcjnahfahobjaaW.PrintWords Go.Proofs.YtlcjnahfahobjaaW.PrintLast Go.Proofs.YtlcjnahfahobjaaW.PrintMore
set_option linter.unusedVariables false
set_option linter.unusedSimpArgs false

set_option maxRecDepth 100000 in
theorem mark_c (j : Nat) (hj : j ≤ 1000000) (w : World) : Calls Try.prog 67 #[.int .i64 1, .int .i64 (j : Int)] w fun e w' => e = .returned (.int .i64 (8000024 + (j : Int))) ∧ Aside0 (Below w.heap.size w w') := by
  have e0 : wrap64 (8000024 + (j : Int)) = 8000024 + (j : Int) := by unfold wrap64; omega
  go_enter Try.func67, Try.ntmps67
  go_wp2
  go_ret
  exact ⟨by go_num, ⟨Below.refl _ _⟩⟩
theorem marks_get (j : Nat) (h : j < 12) : marks.take j ++ [8000024 + (j : Int)] = marks.take (j + 1) := by
  unfold marks
  rcases (by omega : j = 0 ∨ j = 1 ∨ j = 2 ∨ j = 3 ∨ j = 4 ∨ j = 5 ∨ j = 6 ∨ j = 7 ∨ j = 8 ∨ j = 9 ∨ j = 10 ∨ j = 11) with rfl | rfl | rfl | rfl | rfl | rfl | rfl | rfl | rfl | rfl | rfl | rfl <;> rfl
theorem marks_push (l : List Int) (j : Nat) (h : j < 12) : (l ++ marks.take j) ++ [8000024 + (j : Int)] = l ++ marks.take (j + 1) := by
  rw [List.append_assoc, marks_get j h]
theorem marks_len (j : Nat) (h : j ≤ 12) : (marks.take j).length = j := by
  rw [List.length_take]; show min j 12 = j; omega
set_option maxRecDepth 100000 in
set_option maxHeartbeats 2000000 in
theorem lentL_c (A : Option Addr) (c : Nat) (l : List Int) (hc : l.length ≤ c) (hm : l.length ≤ 17592186043904) (w : World) (hr : u64.C w A l.length l) :
    Calls Try.prog 39 #[.slice A l.length c] w fun e w' => ∃ B d, e = .returned (.slice B l.length d) ∧ Aside0 (Kd.V u64 50 w' w.heap.size (fun k => w.heap.size ≤ k) (.slice B (lk l).length d) (lk l)) ∧ Aside0 (Below w.heap.size w w') := by
  have HR := Aside0.mk hr
  clear hr
  have hus := Try.underlying22
  obtain ⟨i, hi, hz⟩ := Option.map_eq_some_iff.1 infoU
  simp only [Prod.mk.injEq] at hz
  obtain ⟨hz0, hz1, hz2⟩ := hz
  have g1 : wrap64 ((l.length : Int) + 12) = (l.length : Int) + 12 := by unfold wrap64; omega
  have hmk : ∀ w' : World, (Instr.makeSlice 22 (.int .i64 0) (.int .i64 ((l.length : Int) + 12))).run Try.prog w' = .ok (.slice (some ⟨w'.heap.size, 0, none⟩) 0 (l.length + 12)) (w'.alloc (.cells (madeCells #[.int .u64 0] (l.length + 12)) 50)) := by
    intro w'
    have := run_make (P := Try.prog) w' 22 50 i (.int .u64 0) hus hi hz0 .i64 .i64 0 ((l.length : Int) + 12) (by omega) (by omega) (by rw [hz2]; omega) (by omega)
    rw [this, hz1]
    have e1 : ((l.length : Int) + 12).toNat = l.length + 12 := by omega
    rw [e1]
    simp [Value.cells]
  have HO : Aside0 (u64.R 50 (w.alloc (.cells (madeCells #[.int .u64 0] (l.length + 12)) 50)) w.heap.size (fun _ => True) (.slice (some ⟨w.heap.size, 0, none⟩) 0 (l.length + 12)) []) := ⟨Kd.R_of_own (own_made w 0 (l.length + 12) (by omega) (by omega)) (fun _ _ => trivial)⟩
  clear hz0 hi hz1 hz2
  go_enter Try.func39, Try.ntmps39
  go_wp2_with ((with_reducible refine gate_builtin (b := .append) (xs := #[.tmp 9, .tmp 10]) rfl ?_); at_builtin; refine Kd.R_append_rows u64 (w0 := w) w.heap.size rfl (.tmp 9) (.tmp 10) 22 50 (.int .u64 0) 8 rfl Try.underlying22 infoU rfl (by decide) (by omega) (.slice (some ⟨w.heap.size, 0, none⟩) 0 (l.length + 12)) ([] : List Int) l _ _ _ (fun _ => True) (fun _ => False) rfl rfl ?aO ?aR (fun _ _ h => h) (fun _ h => h.elim) ?aF ?aB ?aS ?aL ?_; (case aO => exact HO.out); (case aR => exact Kd.C_alloc HR.out _); (case aF => exact fun _ _ => trivial); (case aB => exact (Below.refl _ _).alloc (Nat.le_refl _) _); (case aS => simp); (case aL => simp; omega); intro v1 w1 hR hB _ _; have HR1 := Aside0.mk hR; have HB1 := Aside0.mk hB; clear hR hB)
  go_loopw [3, 4] (fun v3 v4 wr => ∃ j : Nat, v4 = .int .i64 j ∧ j ≤ 12 ∧ Aside0 (u64.R 50 wr w.heap.size (fun _ => True) v3 (l ++ marks.take j)) ∧ Aside0 (Below w.heap.size w wr)) (fun _ v4 _ => 12 - (intOf v4).toNat)
  case atStart => exact ⟨0, rfl, by omega, ⟨by simpa using HR1.out⟩, HB1⟩
  case round =>
    obtain ⟨j, rfl, hj, HRj, HBj⟩ := hrel
    by_cases hlt : j < 12
    · have hL : Aside0 ((l ++ marks.take j).length = l.length + j) := ⟨by rw [List.length_append, marks_len j hj]⟩
      go_wp2_with fail
      refine (mark_c j (by omega) _).mono ?_
      rintro e w2 ⟨rfl, hb2⟩
      have hv : IntKind.u64.wrap (8000024 + (j : Int)) = 8000024 + (j : Int) := by rw [IntKind.wrap_u64]; omega
      go_wp2_with ((with_reducible refine gate_builtin (b := .append) (xs := #[.tmp 16, .tmp 20]) rfl ?_); at_builtin; refine Kd.R_append u64 (w0 := w) w.heap.size rfl (.tmp 16) (.tmp 20) 22 50 (.int .u64 0) 8 rfl Try.underlying22 infoU rfl (by decide) (by omega) u3 (l ++ marks.take j) (8000024 + (j : Int)) [.int .u64 (8000024 + (j : Int))] (fun _ => True) (fun _ => False) rfl rfl ?aP (fun _ hk => hk.elim) ?aF ?aO ?aB ?aS ?aL ?_; (case aP => exact rfl); (case aF => exact fun _ _ => trivial); (case aO => exact Kd.R_below HRj.out hb2.out); (case aB => exact below_then HBj.out HBj.out.size hb2.out); (case aS => exact Nat.le_trans HBj.out.size hb2.out.size); (case aL => rw [hL.out]; omega); intro v5 w5 hR hB _ _; have HR5 := Aside0.mk hR; have HB5 := Aside0.mk hB; clear hR hB)
      go_roundw
      case rel => exact ⟨j + 1, by go_num, by omega, ⟨by rw [← marks_push l j hlt]; exact HR5.out⟩, HB5⟩
      case measure => simp [intOf]; omega
    · obtain rfl : j = 12 := by omega
      have e12 : l ++ marks.take 12 = lk l := rfl
      rw [e12] at HRj
      obtain ⟨B, d, rfl⟩ := Kd.R_slice HRj.out
      have hC := Kd.R_reads' HRj.out
      have hl := lk_len l
      have hd := hC.2.1
      have HV : Aside0 (Kd.V u64 50 wr w.heap.size (fun k => w.heap.size ≤ k) (.slice B (lk l).length d) (lk l)) := ⟨Kd.V_mk hC.2.1 (Kd.F_mono (Kd.R_F (Kd.R_bound HRj.out)) (fun k hk => hk.2.1))⟩
      clear hC
      go_wp2
      go_ret
      exact ⟨B, d, rfl, HV, HBj⟩
set_option maxRecDepth 100000 in
set_option maxHeartbeats 2000000 in
theorem lentI_c (s : Bool) (A : Option Addr) (c : Nat) (l : List Int) (hc : l.length ≤ c) (hm : l.length ≤ 17592186043904) (w : World) (hr : u64.C w A l.length l) :
    Calls Try.prog 10 #[.agg #[.bool s, .slice A l.length c]] w (OutL w s l) := by
  have hu := Try.underlying24
  have hus := Try.underlying22
  obtain ⟨W, hW⟩ : ∃ W, (w.alloc (.cells #[.bool s, .slice A l.length c] 24)).alloc (.cells #[.bool false, .slice none 0 0] 24) = W := ⟨_, rfl⟩
  have HB0 : Aside0 (Below w.heap.size w W) := ⟨by rw [← hW]; exact ((Below.refl _ _).alloc (Nat.le_refl _) _).alloc (by simp) _⟩
  have HG0 : Aside0 (W.heap[w.heap.size]? = some (.cells #[.bool s, .slice A l.length c] 24 (0, 0))) := ⟨by
    rw [← hW, Below.heap_alloc _ _ _ (by simp)]
    exact heap_alloc_new w _⟩
  have HG1 : Aside0 (W.heap[w.heap.size + 1]? = some (.cells #[.bool false, .slice none 0 0] 24 (0, 0))) := ⟨by
    rw [← hW]
    have := heap_alloc_new (w.alloc (.cells #[.bool s, .slice A l.length c] 24)) (.cells #[.bool false, .slice none 0 0] 24)
    simpa using this⟩
  have HZ0 : Aside0 (W.heap.size = w.heap.size + 2) := ⟨by rw [← hW]; simp⟩
  have HW := Aside0.mk hW
  have MAIN := Lib.hid (lentL_c A c l hc hm W (Kd.C_below hr HB0.out))
  clear hr hW
  obtain ⟨c0, c1, f0, f1, z0⟩ := two_cells (Below.refl W.heap.size W) HG0.out
  go_enter Try.func10, Try.ntmps10
  go_upto_region 1 with fail
  rw [HW.out]
  go_wp2_with fail
  refine MAIN.out.mono ?_
  rintro e w1 ⟨B, d, rfl, hV, hB⟩
  clear c0 c1 f0 f1 z0
  obtain ⟨c0, c1, f0, f1, z0⟩ := two_cells hB.out HG0.out
  obtain ⟨d0, d1, g0, g1, z1⟩ := two_cells hB.out HG1.out
  go_wp2
  refine bodyPost_ret (v := .agg #[.bool s, .slice B l.length d]) (by simp [results, Try.results10, go_sem, d0, d1, g0, g1, z1]) rfl ⟨B, d, rfl, ?_, ?_⟩
  · exact Kd.V_mono (Kd.V_far (Kd.V_far (Kd.V_far hV.out (fun k hk => by show k ≠ w.heap.size; have := HZ0.out; omega) _) (fun k hk => by show k ≠ w.heap.size + 1; have := HZ0.out; omega) _) (fun k hk => by show k ≠ w.heap.size + 1; have := HZ0.out; omega) _) (fun k hk => by have := HZ0.out; omega)
  · exact ((((HB0.out.trans (hB.out.mono (by have := HZ0.out; omega))).setCell (by simp) _).setCell (by simp) _).setCell (by simp) _)
end Go.Proofs.Ytlcjnahfahobjaa.Lb
