/- limb: Neg. -/
import Derived.Test.YtplignahjhenjaaLbC
import Derived.Test.YtplignahjhenjaaLbN
import Derived.Deep.RegionWith
namespace Go.Proofs.Ytplignahjhenjaa.Lb
open Go.RowKit Go.Proofs.YtplignahjhenjaaW.PrintWords Go.Proofs.YtplignahjhenjaaW.PrintLast Go.Proofs.YtplignahjhenjaaW.PrintMore
set_option linter.unusedVariables false
set_option linter.unusedSimpArgs false

theorem right_c (s : Bool) (A : Option Addr) (c : Nat) (l : List Int) (hc : l.length ≤ c) (hm : l.length ≤ 9223372036854775807) (w : World) (hr : u64.C w A l.length l) :
    Calls Try.prog 41 #[.agg #[.bool s, .slice A l.length c]] w fun e w' => e = .returned (.bool (rightB s l)) ∧ Below w.heap.size w w' :=
  PA.limb_Right.calls s A c l _ w hr hc (right_f s l hm)
/-- `Neg`'s answer. -/
def negS (s : Bool) (l : List Int) : Bool × List Int × Int := if rightB s l then toldS (!s) (nv l) else (false, [], 2)
set_option maxRecDepth 100000 in
set_option maxHeartbeats 2000000 in
theorem neg_c (s : Bool) (A : Option Addr) (c : Nat) (l : List Int) (hc : l.length ≤ c) (ho : okL l) (hm : l.length ≤ 9223372036854775807) (w : World) (hr : u64.C w A l.length l) :
    Calls Try.prog 37 #[.agg #[.bool s, .slice A l.length c]] w fun e w' => ∃ v, e = .returned (.tuple #[.agg #[.bool (negS s l).1, v], .int .i64 (negS s l).2.2]) ∧ Kd.V u64 50 w' w.heap.size (fun k_ => (w.heap.size ≤ k_)) v (negS s l).2.1 ∧ Below w.heap.size w w' := by
  have hu := Try.underlying25
  have hus := Try.underlying23
  have HR := Aside0.mk hr
  have HO := Aside0.mk ho
  obtain ⟨W, hW⟩ : ∃ W, (w.alloc (.cells #[.bool s, .slice A l.length c] 25)).alloc (.cells #[.bool false, .slice none 0 0] 25) = W := ⟨_, rfl⟩
  have hb0 : Below w.heap.size w W := by rw [← hW]; exact ((Below.refl _ _).alloc (Nat.le_refl _) _).alloc (by simp) _
  have hg0 : W.heap[w.heap.size]? = some (.cells #[.bool s, .slice A l.length c] 25 (0, 0)) := by
    rw [← hW, Below.heap_alloc _ _ _ (by simp)]
    exact heap_alloc_new w _
  have hg1 : W.heap[w.heap.size + 1]? = some (.cells #[.bool false, .slice none 0 0] 25 (0, 0)) := by
    rw [← hW]
    have := heap_alloc_new (w.alloc (.cells #[.bool s, .slice A l.length c] 25)) (.cells #[.bool false, .slice none 0 0] 25)
    simpa using this
  have hz0 : W.heap.size = w.heap.size + 2 := by rw [← hW]; simp
  have HW := Aside0.mk hW
  have HB0 := Aside0.mk hb0
  have HG0 := Aside0.mk hg0
  have HG1 := Aside0.mk hg1
  have HZ0 := Aside0.mk hz0
  clear hr ho hW hb0 hg0 hg1 hz0
  go_enter Try.func37, Try.ntmps37
  go_wp2_with fail
  rw [HW.out]
  refine (right_c s A c l hc hm W (Kd.C_below HR.out HB0.out)).mono ?_
  rintro e w1 ⟨rfl, hb1⟩
  have HB1 := Aside0.mk hb1
  obtain ⟨c0, c1, f0, f1, z0⟩ := two_cells hb1 HG0.out
  obtain ⟨d0, d1, g0, g1, z1⟩ := two_cells hb1 HG1.out
  have hs1 := hb1.size
  rw [HZ0.out] at hs1
  clear hb1
  by_cases hrt : rightB s l = true
  · have hl4 := right_len hrt
    have hS : Aside0 (negS s l = toldS (!s) (nv l)) := ⟨by unfold negS; rw [if_pos hrt]⟩
    have CL := Lib.hid (fun W' (h : Below w1.heap.size w1 W') => clone_c A c l hc hl4 W' (Kd.C_below HR.out ((HB0.out.trans (HB1.out.mono (by rw [HZ0.out]; omega))).trans (h.mono (by omega)))))
    go_wp2
    have BB : Hid (Below w.heap.size w w1.drew) := Lib.hid (HB0.out.trans (HB1.out.mono (by rw [HZ0.out]; omega))).drew
    have HD0 : Aside0 (w1.drew.heap[w.heap.size + 1]? = some (.cells #[.bool false, .slice none 0 0] 25 (0, 0))) := ⟨(HB1.out.block _ (by rw [HZ0.out]; omega)).trans HG1.out⟩
    have HE0 : Aside0 (w1.drew.heap[w.heap.size]? = some (.cells #[.bool s, .slice A l.length c] 25 (0, 0))) := ⟨(HB1.out.block _ (by rw [HZ0.out]; omega)).trans HG0.out⟩
    have hzz : w1.drew.heap.size = w1.heap.size := rfl
    have HZZ := Aside0.mk hzz
    have HS1 := Aside0.mk hs1
    clear hzz
    go_region_with (first | (go_at_call 70; refine (CL.out _ ?_).mono ?_; (first | exact Below.refl _ _ | exact (Below.refl _ _).drew); rintro e w2 ⟨v2, rfl, hR2, hb2⟩; obtain ⟨A2, c2, rfl⟩ := Kd.R_slice hR2; have HR2 := Aside0.mk hR2; have HB2 := Aside0.mk hb2; obtain ⟨e0, e1, i0, i1, y1⟩ := two_cells hb2 HD0.out; obtain ⟨o0, o1, p0, p1, q1⟩ := two_cells hb2 HE0.out; clear hR2 hb2) | (go_at_call 67; refine (told_n (!s) _ _ _ l rfl (R_C HR2.out).2.1 HO.out (by omega) _ (R_C HR2.out).1).mono ?_; rintro e w3 ⟨ht, hb3⟩; obtain ⟨A3, c3, rfl, HV⟩ := told_out ht HR2.out hb3; have HB3 := Aside0.mk hb3; obtain ⟨e0', e1', i0', i1', y1'⟩ := two_cells hb3 ((HB2.out.block _ (by rw [HZZ.out]; have := HS1.out; omega)).trans HD0.out); obtain ⟨o0', o1', p0', p1', q1'⟩ := two_cells hb3 ((HB2.out.block _ (by rw [HZZ.out]; have := HS1.out; omega)).trans HE0.out); clear ht hb3))
    all_goals (go_wp2; refine bodyPost_ret (v := .tuple #[.agg #[.bool (toldS (!s) (nv l)).1, .slice A3 (toldS (!s) (nv l)).2.1.length c3], .int .i64 (toldS (!s) (nv l)).2.2]) (by simp [results, Try.results37, go_sem, Act.put, e0', e1', i0', i1', y1']) (by first | rfl | simp [Act.put]) ⟨.slice A3 (toldS (!s) (nv l)).2.1.length c3, ?_, ?_, ?_⟩; (rw [hS.out]); (rw [hS.out]; exact Kd.V_mono (Kd.V_far (Kd.V_far (HV.out w.heap.size) (fun k hk => by show k ≠ w.heap.size + 1; have := HS1.out; have := HZZ.out; omega) _) (fun k hk => by show k ≠ w.heap.size + 1; have := HS1.out; have := HZZ.out; omega) _) (fun k hk => by have := HS1.out; have := HZZ.out; omega)); exact ((((BB.out.trans (HB2.out.mono (by have := HS1.out; have := HZZ.out; omega))).trans (HB3.out.mono (by have := HB2.out.size; have := HS1.out; have := HZZ.out; omega))).setCell (by simp) _).setCell (by simp) _))
  · have hrt : rightB s l = false := by simpa using hrt
    have hS : Aside0 (negS s l = (false, [], 2)) := ⟨by unfold negS; rw [hrt]; rfl⟩
    go_wp2
    refine bodyPost_ret (v := .tuple #[.agg #[.bool false, .slice none 0 0], .int .i64 2]) (by simp [results, Try.results37, go_sem, d0, d1, g0, g1, z1]) rfl ⟨.slice none 0 0, ?_, ?_, ?_⟩
    · rw [hS.out]
    · rw [hS.out]; exact Kd.V_nil _ _ _ _ _
    · exact (((HB0.out.trans (HB1.out.mono (by rw [HZ0.out]; omega))).setCell (by simp) _).setCell (by simp) _)
end Go.Proofs.Ytplignahjhenjaa.Lb
