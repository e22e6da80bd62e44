/- limb: Sub. -/
import Derived.Test.YtplignahjhenjaaLbG
namespace Go.Proofs.Ytplignahjhenjaa.Lb
open Go.RowKit Go.Proofs.YtplignahjhenjaaW.PrintWords Go.Proofs.YtplignahjhenjaaW.PrintLast Go.Proofs.YtplignahjhenjaaW.PrintMore
set_option linter.unusedVariables false
set_option linter.unusedSimpArgs false

theorem toldS_right (sg : Bool) (n : Nat) : rightB (toldS sg n).1 (toldS sg n).2.1 = true := by
  unfold toldS
  split
  · rfl
  · split
    · rfl
    · exact right_toL sg n ((length_toL_le (k := 4096)).1 (by omega)) (fun h => absurd h ‹_›)
theorem toldS_ok (sg : Bool) (n : Nat) : okL (toldS sg n).2.1 := by
  unfold toldS
  split
  · exact okL_nil
  · split
    · exact okL_nil
    · exact okL_toL n
theorem toldS_len (sg : Bool) (n : Nat) : (toldS sg n).2.1.length ≤ 4096 := by
  unfold toldS
  split
  · exact Nat.zero_le _
  · split
    · exact Nat.zero_le _
    · show (toL n).length ≤ 4096; omega
theorem toldS_iv (sg : Bool) (n : Nat) (h : n < B64 ^ 4096) : (toldS sg n).2.2 = 0 ∧ iv (toldS sg n).1 (toldS sg n).2.1 = if sg then -(n : Int) else n := by
  have hl := length_toL_le.2 h
  unfold toldS
  rw [if_neg (by omega)]
  split
  · rename_i h0
    subst h0
    exact ⟨rfl, by cases sg <;> rfl⟩
  · refine ⟨rfl, ?_⟩
    show iv sg (toL n) = _
    unfold iv
    rw [nv_toL]
/-- `Sub`'s answer. -/
def subS (s : Bool) (l : List Int) (t : Bool) (m : List Int) : Bool × List Int × Int := if rightB s l && rightB t m then mkS (iv s l - iv t m) else (false, [], 2)
theorem nv_small {s : Bool} {l : List Int} (h : rightB s l = true) (ho : okL l) : nv l < B64 ^ 4096 :=
  Nat.lt_of_lt_of_le (nv_lt ho) (Nat.pow_le_pow_right (n := B64) (i := l.length) (j := 4096) (by decide) (right_len h))
theorem subS_neg {s t : Bool} {l m : List Int} (h : rightB t m = true) (ho : okL m) :
    (negS t m).2.2 = 0 ∧ addS s l (negS t m).1 (negS t m).2.1 = subS s l t m ∧ okL (negS t m).2.1 ∧ (negS t m).2.1.length ≤ 4096 := by
  unfold negS
  rw [if_pos h]
  have hi := toldS_iv (!t) (nv m) (nv_small h ho)
  refine ⟨hi.1, ?_, toldS_ok _ _, toldS_len _ _⟩
  unfold addS subS
  rw [toldS_right, h, hi.2]
  have e : iv s l + (if (!t) = true then -(nv m : Int) else nv m) = iv s l - iv t m := by
    unfold iv
    cases t <;> simp <;> omega
  rw [e]
set_option maxRecDepth 100000 in
set_option maxHeartbeats 2000000 in
theorem sub_c (s t : Bool) (A1 A2 : Option Addr) (c1 c2 : Nat) (l m : List Int) (h1 : l.length ≤ c1) (h2 : m.length ≤ c2) (hl : okL l) (hm : okL m) (bl : l.length ≤ 9223372036854775807) (bm : m.length ≤ 9223372036854775807) (w : World)
    (r1 : u64.C w A1 l.length l) (r2 : u64.C w A2 m.length m) :
    Calls Try.prog 79 #[.agg #[.bool s, .slice A1 l.length c1], .agg #[.bool t, .slice A2 m.length c2]] w fun e w' => ∃ v, e = .returned (.tuple #[.agg #[.bool (subS s l t m).1, v], .int .i64 (subS s l t m).2.2]) ∧ Kd.V u64 50 w' w.heap.size (fun k_ => (w.heap.size ≤ k_)) v (subS s l t m).2.1 ∧ Below w.heap.size w w' := by
  have hu := Try.underlying25
  have hus := Try.underlying23
  have HR1 := Aside0.mk r1
  have HR2 := Aside0.mk r2
  have HL := Aside0.mk hl
  have HM := Aside0.mk hm
  obtain ⟨W, hW⟩ : ∃ W, ((w.alloc (.cells #[.bool s, .slice A1 l.length c1] 25)).alloc (.cells #[.bool t, .slice A2 m.length c2] 25)).alloc (.cells #[.bool false, .slice none 0 0] 25) = W := ⟨_, rfl⟩
  have HB0 : Aside0 (Below w.heap.size w W) := ⟨by rw [← hW]; exact (((Below.refl _ _).alloc (Nat.le_refl _) _).alloc (by simp) _).alloc (by simp; omega) _⟩
  have HG0 : Aside0 (W.heap[w.heap.size]? = some (.cells #[.bool s, .slice A1 l.length c1] 25 (0, 0))) := ⟨by
    rw [← hW, Below.heap_alloc _ _ _ (by simp; omega), Below.heap_alloc _ _ _ (by simp)]
    exact heap_alloc_new w _⟩
  have HG2 : Aside0 (W.heap[w.heap.size + 1 + 1]? = some (.cells #[.bool false, .slice none 0 0] 25 (0, 0))) := ⟨by
    rw [← hW]
    have := heap_alloc_new ((w.alloc (.cells #[.bool s, .slice A1 l.length c1] 25)).alloc (.cells #[.bool t, .slice A2 m.length c2] 25)) (.cells #[.bool false, .slice none 0 0] 25)
    simpa using this⟩
  have HZ0 : Aside0 (W.heap.size = w.heap.size + 3) := ⟨by rw [← hW]; simp⟩
  have HW := Aside0.mk hW
  clear hW r1 r2 hl hm
  go_enter Try.func79, Try.ntmps79
  go_wp2_with fail
  rw [HW.out]
  refine (neg_c t A2 c2 m h2 HM.out bm W (Kd.C_below HR2.out HB0.out)).mono ?_
  rintro e w1 ⟨v1, rfl, hV, hb⟩
  have HB1 : Aside0 (Below w.heap.size w w1) := ⟨HB0.out.trans (hb.mono (by rw [HZ0.out]; omega))⟩
  have hs1 := hb.size
  rw [HZ0.out] at hs1
  obtain ⟨c0, c1', f0, f1, z0⟩ := two_cells hb HG0.out
  obtain ⟨e0, e1, i0, i1, z2⟩ := two_cells hb HG2.out
  obtain ⟨A3, c3, rfl⟩ := Kd.V_slice hV
  obtain ⟨q, hq⟩ : ∃ q, negS t m = q := ⟨_, rfl⟩
  rw [hq] at hV
  have hVR := Kd.V_reads' hV
  clear hV
  rw [hq]
  clear hb
  by_cases hrt : rightB t m = true
  · have hsp := subS_neg (s := s) (l := l) hrt HM.out
    rw [hq] at hsp
    obtain ⟨q1, q2, q3⟩ := q
    obtain ⟨hs0, hs2, hs3, hs4⟩ := hsp
    simp only at hs0 hs2 hs3 hs4 hVR
    have hqc := hVR.2.1
    have HVR := Aside0.mk hVR.2.2
    clear hVR
    subst hs0
    have HS2 := Aside0.mk hs2
    have HS3 := Aside0.mk hs3
    clear hq hs2 hs3
    go_wp2_with fail
    refine (add_c s q1 A1 A3 c1 c3 l q2 h1 (by omega) HL.out HS3.out bl (by omega) _ (Kd.C_alloc (Kd.C_below HR1.out HB1.out) _) (Kd.C_alloc HVR.out _)).mono ?_
    rintro e w2 ⟨v2, rfl, hV2, hb⟩
    rw [HS2.out] at hV2 ⊢
    obtain ⟨A4, c4, rfl⟩ := Kd.V_slice hV2
    have HB5 : Aside0 (Below w1.heap.size w1 w2) := ⟨((Below.refl _ w1).alloc (Nat.le_refl _) _).trans (hb.mono (by simp))⟩
    have t4 : w2.cell? ⟨w.heap.size + 1 + 1, 0, none⟩ = some (.bool false) := (HB5.out.cell (by show w.heap.size + 1 + 1 < w1.heap.size; omega)).trans e0
    have t5 : w2.cell? ⟨w.heap.size + 1 + 1, 1, none⟩ = some (.slice none 0 0) := (HB5.out.cell (by show w.heap.size + 1 + 1 < w1.heap.size; omega)).trans e1
    have t6 : w2.frozen? ⟨w.heap.size + 1 + 1, 0, none⟩ = false := (HB5.out.frozen (by show w.heap.size + 1 + 1 < w1.heap.size; omega)).trans i0
    have t7 : w2.frozen? ⟨w.heap.size + 1 + 1, 1, none⟩ = false := (HB5.out.frozen (by show w.heap.size + 1 + 1 < w1.heap.size; omega)).trans i1
    have t8 : w.heap.size + 1 + 1 < w2.heap.size := by have := HB5.out.size; omega
    have hsz : (w1.alloc (.cells #[.bool q1, .slice A3 q2.length c3] 25)).heap.size = w1.heap.size + 1 := by simp
    rw [hsz] at hV2
    have HV2 := Aside0.mk hV2
    clear hb hV2 e0 e1 i0 i1 z2 c0 c1' f0 f1 z0
    go_wp2
    refine bodyPost_ret (v := .tuple #[.agg #[.bool (subS s l t m).1, .slice A4 (subS s l t m).2.1.length c4], .int .i64 (subS s l t m).2.2]) (by simp [results, Try.results79, go_sem, t4, t5, t6, t7, t8]) rfl ⟨.slice A4 (subS s l t m).2.1.length c4, rfl, ?_, ?_⟩
    · exact Kd.V_lower (Kd.V_mono (Kd.V_far (Kd.V_far HV2.out (fun k hk => by show k ≠ w.heap.size + 1 + 1; omega) _) (fun k hk => by show k ≠ w.heap.size + 1 + 1; omega) _) (fun k hk => by omega)) (by omega)
    · exact ((HB1.out.trans (HB5.out.mono (by omega))).setCell (by simp; omega) _).setCell (by simp; omega) _
  · have hrt : rightB t m = false := by simpa using hrt
    have hS : Aside0 (subS s l t m = (false, [], 2)) := ⟨by unfold subS; rw [hrt]; simp⟩
    have hq2 : q = (false, [], 2) := by rw [← hq]; unfold negS; rw [hrt]; rfl
    subst hq2
    clear hVR
    clear hq
    go_wp2
    refine bodyPost_ret (v := .tuple #[.agg #[.bool false, .slice none 0 0], .int .i64 2]) (by simp [results, Try.results79, go_sem, e0, e1, i0, i1, z2]) rfl ⟨.slice none 0 0, ?_, ?_, ?_⟩
    · rw [hS.out]
    · rw [hS.out]; exact Kd.V_nil _ _ _ _ _
    · exact (((HB1.out.setCell (by simp; omega) _).setCell (by simp; omega) _).alloc (by simp; omega) _)
end Go.Proofs.Ytplignahjhenjaa.Lb
