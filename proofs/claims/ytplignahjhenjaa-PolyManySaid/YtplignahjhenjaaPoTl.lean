/- times: deep, told, Mul (of numbers of which one has fewer than 24 limbs). -/
import Derived.Test.YtplignahjhenjaaPoBa
import Derived.Laws.EntriesVeiled
namespace Go.Proofs.Ytplignahjhenjaa.Lb
open Go.RowKit Go.Proofs.YtplignahjhenjaaW.PrintWords Go.Proofs.YtplignahjhenjaaW.PrintLast Go.Proofs.YtplignahjhenjaaW.PrintMore
set_option linter.unusedVariables false
set_option linter.unusedSimpArgs false

/-- What a way of multiplying answers: the limbs of the product. -/
def WayOut (w : World) (a b : Int) (e : Ending) (w' : World) : Prop := ∃ G k c, e = .returned (.slice G k c) ∧ k ≤ c ∧ Aside0 (u64.C w' G k (lm (a * b))) ∧ Aside0 (Below w.heap.size w w')
set_option maxHeartbeats 1000000 in
theorem way_short (a b : Int) (A B : Option Addr) (cx cy g1 g2 : Nat) (hs : min (lm a).length (lm b).length < 24) (ha : (lm a).length ≤ 4096) (hb : (lm b).length ≤ 4096) (w : World) (r1 : RV w A cx a) (r2 : RV w B cy b) (h24 : w.cell? ⟨g1, 0, none⟩ = some (.int .i64 24)) :
    Calls Try.prog 86 #[.slice A (lm a).length cx, .slice B (lm b).length cy, .pointer (some ⟨g1, 0, none⟩), .pointer (some ⟨g2, 0, none⟩)] w (WayOut w a b) := by
  have SC := Lib.hid (school_c A B (lm a).length (lm b).length cx cy ((lm a).length + (lm b).length) (lm a) (lm b) rfl rfl rfl r1.cap r2.cap (lm_ok _) (lm_ok _) (by omega) w r1.reads r2.reads)
  have hnv : Aside0 (toL (nv (lm a) * nv (lm b)) = lm (a * b)) := ⟨by rw [nv_lm, nv_lm]; unfold lm; rw [Int.natAbs_mul]⟩
  clear r1 r2
  generalize lm a = la at *
  generalize lm b = lb at *
  have hmin : (min (la.length : Int) (lb.length : Int) < 24) := by omega
  go_enter Try.func86, Try.ntmps86
  go_wp2_with fail
  all_goals
    refine SC.out.mono ?_
    rintro e w1 ⟨G, k, c, o, rfl, hk, hC, rfl, hB⟩
    go_wp2_with fail
    go_ret
    exact ⟨G, k, c, rfl, hk, ⟨by rw [← hnv.out]; exact hC.out⟩, hB⟩
set_option maxHeartbeats 400000 in
theorem deep_c (w : World) :
    Calls Try.prog 69 #[.int .i64 24] w fun e w' => ∃ g1 g2, e = .returned (.func (.func 86) #[] #[.pointer (some ⟨g1, 0, none⟩), .pointer (some ⟨g2, 0, none⟩)]) ∧ g1 < g2 ∧ w'.cell? ⟨g1, 0, none⟩ = some (.int .i64 24) ∧ w'.cell? ⟨g2, 0, none⟩ = some (.func (.func 86) #[] #[.pointer (some ⟨g1, 0, none⟩), .pointer (some ⟨g2, 0, none⟩)]) ∧ Below w.heap.size w w' := by
  have hmf : ∀ (fn : Fn) (first cap : Array Value) (w : World), (Instr.makeFunc fn first cap).run Try.prog w = .ok (.func fn first cap) w := fun _ _ _ _ => rfl
  go_enter Try.func69, Try.ntmps69
  go_wp2
  go_ret
  refine ⟨w.heap.size, w.heap.size + 1, rfl, by omega, ?_, ?_, ?_⟩
  · go_simp
  · go_simp
  · exact (((Below.refl _ _).alloc (Nat.le_refl _) _).alloc (by simp) _)
set_option maxRecDepth 100000 in
set_option maxHeartbeats 2000000 in
theorem told_z (a b : Int) (ha : lim 4096 a) (hb : lim 4096 b) (hab : lim 4096 (a * b)) (A1 A2 : Option Addr) (c1 c2 : Nat) (g1 g2 : Nat) (w : World) (r1 : RV w A1 c1 a) (r2 : RV w A2 c2 b)
    (CL : ∀ W, Below w.heap.size w W → Calls Try.prog 86 #[.slice A1 (lm a).length c1, .slice A2 (lm b).length c2, .pointer (some ⟨g1, 0, none⟩), .pointer (some ⟨g2, 0, none⟩)] W (WayOut W a b)) :
    Calls Try.prog 68 #[.agg #[.bool (sg a), .slice A1 (lm a).length c1], .agg #[.bool (sg b), .slice A2 (lm b).length c2], .func (.func 86) #[] #[.pointer (some ⟨g1, 0, none⟩), .pointer (some ⟨g2, 0, none⟩)]] w (OutZ w (a * b)) := by
  have hu := Try.underlying25
  have hus := Try.underlying23
  have CL := Lib.hid CL
  have R1 := Aside0.mk r1
  have R2 := Aside0.mk r2
  have HA := Aside0.mk ha
  have HB := Aside0.mk hb
  have HT := Aside0.mk (mul_told 4096 rfl a b)
  rw [mkS_lim hab] at HT
  have hla := lm_len ha
  have hlb := lm_len hb
  have hlab := lm_len hab
  have hov : (lm a).length + (lm b).length ≤ 4097 ∨ (lm a).length = 0 ∨ (lm b).length = 0 := by
    rcases Nat.lt_or_ge 4097 ((lm a).length + (lm b).length) with h | h
    · rcases Nat.eq_zero_or_pos (lm a).length with h1 | h1
      · exact .inr (.inl h1)
      · rcases Nat.eq_zero_or_pos (lm b).length with h2 | h2
        · exact .inr (.inr h2)
        · exact absurd hab (mul_over 4096 h1 h2 (by omega))
    · exact .inl h
  obtain ⟨W, hW⟩ : ∃ W, ((w.alloc (.cells #[.bool (sg a), .slice A1 (lm a).length c1] 25)).alloc (.cells #[.bool (sg b), .slice A2 (lm b).length c2] 25)).alloc (.cells #[.bool false, .slice none 0 0] 25) = W := ⟨_, rfl⟩
  have HB0 : Aside0 (Below w.heap.size w W) := ⟨by rw [← hW]; exact (((Below.refl _ _).alloc (Nat.le_refl _) _).alloc (by simp) _).alloc (by simp; omega) _⟩
  have HG0 : Aside0 (W.heap[w.heap.size]? = some (.cells #[.bool (sg a), .slice A1 (lm a).length c1] 25 (0, 0))) := ⟨by
    rw [← hW, Below.heap_alloc _ _ _ (by simp; omega), Below.heap_alloc _ _ _ (by simp)]
    exact heap_alloc_new w _⟩
  have HG1 : Aside0 (W.heap[w.heap.size + 1]? = some (.cells #[.bool (sg b), .slice A2 (lm b).length c2] 25 (0, 0))) := ⟨by
    rw [← hW, Below.heap_alloc _ _ _ (by simp)]
    have := heap_alloc_new (w.alloc (.cells #[.bool (sg a), .slice A1 (lm a).length c1] 25)) (.cells #[.bool (sg b), .slice A2 (lm b).length c2] 25)
    simpa using this⟩
  have HG2 : Aside0 (W.heap[w.heap.size + 1 + 1]? = some (.cells #[.bool false, .slice none 0 0] 25 (0, 0))) := ⟨by
    rw [← hW]
    have := heap_alloc_new ((w.alloc (.cells #[.bool (sg a), .slice A1 (lm a).length c1] 25)).alloc (.cells #[.bool (sg b), .slice A2 (lm b).length c2] 25)) (.cells #[.bool false, .slice none 0 0] 25)
    simpa using this⟩
  have HZ0 : Aside0 (W.heap.size = w.heap.size + 3) := ⟨by rw [← hW]; simp⟩
  have HW := Aside0.mk hW
  have HLA := Aside0.mk hla
  have HLB := Aside0.mk hlb
  have HLAB := Aside0.mk hlab
  clear hW r1 r2 ha hb hab
  go_enter Try.func68, Try.ntmps68
  go_wp2_with fail
  rw [HW.out]
  refine (right_z a HA.out A1 c1 W (R1.out.below HB0.out)).mono ?_
  rintro e w1 ⟨rfl, hb⟩
  replace hb := hb.out
  have HB1 : Aside0 (Below w.heap.size w w1) := ⟨HB0.out.trans (hb.mono (by rw [HZ0.out]; omega))⟩
  have HC1 : Aside0 (Below (w.heap.size + 3) W w1) := ⟨by rw [← HZ0.out]; exact hb⟩
  obtain ⟨c0, c1', f0, f1, z0⟩ := two_cells hb HG0.out
  obtain ⟨d0, d1, g0, g1', z1⟩ := two_cells hb HG1.out
  obtain ⟨e0, e1, i0, i1, z2⟩ := two_cells hb HG2.out
  clear hb
  go_wp2_with fail
  refine (right_z b HB.out A2 c2 w1 (R2.out.below HB1.out)).mono ?_
  rintro e w2 ⟨rfl, hb⟩
  replace hb := hb.out
  have HB2 : Aside0 (Below w.heap.size w w2) := ⟨HB1.out.trans (hb.mono (by have := HC1.out.size; rw [HZ0.out] at this; omega))⟩
  have HC2 : Aside0 (Below (w.heap.size + 3) W w2) := ⟨HC1.out.trans (hb.mono (by have := HC1.out.size; rw [HZ0.out] at this; omega))⟩
  have G20 := HC2.out.block w.heap.size (by omega)
  rw [HG0.out] at G20
  have G21 := HC2.out.block (w.heap.size + 1) (by omega)
  rw [HG1.out] at G21
  have G22 := HC2.out.block (w.heap.size + 1 + 1) (by omega)
  rw [HG2.out] at G22
  have G20 := Aside0.mk G20
  have G21 := Aside0.mk G21
  have G22 := Aside0.mk G22
  clear c0 c1' f0 f1 z0 d0 d1 g0 g1' z1 e0 e1 i0 i1 z2 hb
  obtain ⟨c0, c1', f0, f1, z0⟩ := two_cells (Below.refl _ w2) G20.out
  obtain ⟨d0, d1, g0, g1', z1⟩ := two_cells (Below.refl _ w2) G21.out
  obtain ⟨e0, e1, i0, i1, z2⟩ := two_cells (Below.refl _ w2) G22.out
  go_wp2_with fail
  all_goals
    refine (CL.out w2 HB2.out).mono ?_
    rintro e w3 ⟨G, k, c, rfl, hk, hC, hB3⟩
    obtain ⟨rfl⟩ : k = (lm (a * b)).length := hC.out.1.symm
    have hs3 := HC2.out.size
    rw [HZ0.out] at hs3
    have HS3 := Aside0.mk hs3
    have HB3 : Aside0 (Below w.heap.size w w3) := ⟨HB2.out.trans (hB3.out.mono (by omega))⟩
    clear c0 c1' f0 f1 z0 d0 d1 g0 g1' z1 e0 e1 i0 i1 z2 hs3
    obtain ⟨c0, c1', f0, f1, z0⟩ := two_cells hB3.out G20.out
    obtain ⟨d0, d1, g0, g1', z1⟩ := two_cells hB3.out G21.out
    obtain ⟨e0, e1, i0, i1, z2⟩ := two_cells hB3.out G22.out
    have h96 := HLAB.out
    go_wp2_with fail
  all_goals
    have hsg : Aside0 (sg (a * b) = (decide (0 < (lm (a * b)).length) && (sg a != sg b))) := ⟨sg_mul a b⟩
    have HF := Aside0.mk e0
    have HF1 := Aside0.mk e1
    have HRV : Aside0 (RV w3 G c (a * b)) := ⟨⟨hk, hC.out⟩⟩
    refine bodyPost_ret (v := .tuple #[.agg #[.bool (sg (a * b)), .slice G (lm (a * b)).length c], .int .i64 0]) ?_ rfl ⟨G, c, rfl, ⟨?_⟩, ⟨((HB3.out.setCell (by show w.heap.size ≤ w.heap.size + 1 + 1; omega) _).setCell (by show w.heap.size ≤ w.heap.size + 1 + 1; omega) _)⟩⟩
    · rw [hsg.out]
      simp [results, Try.results68, go_sem, *]
      try (cases sg a <;> cases sg b <;> rfl)
    · refine (HRV.out.setb HF.out (noLimb_bool _) _).setb (v := .slice none 0 0) ?_ (noLimb_slice _ _ _) _
      rw [World.cell?_setCell_other _ _ _ _ (by simp)]
      exact HF1.out
set_option maxHeartbeats 1000000 in
theorem mul_z (a b : Int) (ha : lim 4096 a) (hb : lim 4096 b) (hab : lim 4096 (a * b)) (hs : min (lm a).length (lm b).length < 24) (A1 A2 : Option Addr) (c1 c2 : Nat) (w : World) (r1 : RV w A1 c1 a) (r2 : RV w A2 c2 b) :
    Calls Try.prog 36 #[.agg #[.bool (sg a), .slice A1 (lm a).length c1], .agg #[.bool (sg b), .slice A2 (lm b).length c2]] w (OutZ w (a * b)) := by
  have hu := Try.underlying25
  have HA := Aside0.mk ha
  have HB := Aside0.mk hb
  have HAB := Aside0.mk hab
  have HS := Aside0.mk hs
  have R1 := Aside0.mk r1
  have R2 := Aside0.mk r2
  have hla := Aside0.mk (lm_len ha)
  have hlb := Aside0.mk (lm_len hb)
  obtain ⟨W, hW⟩ : ∃ W, ((w.alloc (.cells #[.bool (sg a), .slice A1 (lm a).length c1] 25)).alloc (.cells #[.bool (sg b), .slice A2 (lm b).length c2] 25)).alloc (.cells #[.bool false, .slice none 0 0] 25) = W := ⟨_, rfl⟩
  have HB0 : Aside0 (Below w.heap.size w W) := ⟨by rw [← hW]; exact (((Below.refl _ _).alloc (Nat.le_refl _) _).alloc (by simp) _).alloc (by simp; omega) _⟩
  have HG0 : Aside0 (W.heap[w.heap.size]? = some (.cells #[.bool (sg a), .slice A1 (lm a).length c1] 25 (0, 0))) := ⟨by
    rw [← hW, Below.heap_alloc _ _ _ (by simp; omega), Below.heap_alloc _ _ _ (by simp)]
    exact heap_alloc_new w _⟩
  have HG1 : Aside0 (W.heap[w.heap.size + 1]? = some (.cells #[.bool (sg b), .slice A2 (lm b).length c2] 25 (0, 0))) := ⟨by
    rw [← hW, Below.heap_alloc _ _ _ (by simp)]
    have := heap_alloc_new (w.alloc (.cells #[.bool (sg a), .slice A1 (lm a).length c1] 25)) (.cells #[.bool (sg b), .slice A2 (lm b).length c2] 25)
    simpa using this⟩
  have HG2 : Aside0 (W.heap[w.heap.size + 1 + 1]? = some (.cells #[.bool false, .slice none 0 0] 25 (0, 0))) := ⟨by
    rw [← hW]
    have := heap_alloc_new ((w.alloc (.cells #[.bool (sg a), .slice A1 (lm a).length c1] 25)).alloc (.cells #[.bool (sg b), .slice A2 (lm b).length c2] 25)) (.cells #[.bool false, .slice none 0 0] 25)
    simpa using this⟩
  have HZ0 : Aside0 (W.heap.size = w.heap.size + 3) := ⟨by rw [← hW]; simp⟩
  have HW := Aside0.mk hW
  clear hW r1 r2 ha hb hab hs
  have TL : Hid (∀ g1 g2 W1, Below W.heap.size W W1 → W1.cell? ⟨g1, 0, none⟩ = some (.int .i64 24) → Calls Try.prog 68 #[.agg #[.bool (sg a), .slice A1 (lm a).length c1], .agg #[.bool (sg b), .slice A2 (lm b).length c2], .func (.func 86) #[] #[.pointer (some ⟨g1, 0, none⟩), .pointer (some ⟨g2, 0, none⟩)]] W1 (OutZ W1 (a * b))) := Lib.hid (fun g1 g2 W1 hW1 h24 => told_z a b HA.out HB.out HAB.out A1 A2 c1 c2 g1 g2 W1 ((R1.out.below HB0.out).below hW1) ((R2.out.below HB0.out).below hW1) (fun W2 hW2 => way_short a b A1 A2 c1 c2 g1 g2 HS.out hla.out hlb.out W2 (((R1.out.below HB0.out).below hW1).below hW2) (((R2.out.below HB0.out).below hW1).below hW2) (pw_cell_below hW2 h24)))
  go_enter Try.func36, Try.ntmps36
  go_upto_region 1 with fail
  rw [HW.out]
  obtain ⟨c0, c1', f0, f1, z0⟩ := two_cells (Below.refl _ W) HG0.out
  obtain ⟨d0, d1, g0, g1', z1⟩ := two_cells (Below.refl _ W) HG1.out
  obtain ⟨e0, e1, i0, i1, z2⟩ := two_cells (Below.refl _ W) HG2.out
  go_region_with (first | (go_at_call 69; refine (deep_c _).mono ?_; rintro e w1 ⟨g1, g2, rfl, hg12, h24, hself, hb1⟩; have H24 := Aside0.mk h24; have HB1 : Aside0 (Below W.heap.size W w1) := ⟨by first | exact hb1 | exact (Below.refl _ _).drew.trans hb1⟩; obtain ⟨e0', e1', i0', i1', z2'⟩ := two_cells HB1.out HG2.out; obtain ⟨c0', c1'', _, _, _⟩ := two_cells HB1.out HG0.out; obtain ⟨d0', d1', _, _, _⟩ := two_cells HB1.out HG1.out; clear hself h24 hb1 hg12) | (go_at_call 68; refine (TL.out _ _ _ HB1.out H24.out).mono ?_; rintro e w3 ⟨G, c, rfl, hR, hB3⟩; obtain ⟨e0'', e1'', i0'', i1'', z2''⟩ := two_cells (HB1.out.trans (hB3.out.mono HB1.out.size)) HG2.out))
  all_goals
    have HF := Aside0.mk e0''
    have HF1 := Aside0.mk e1''
    have HBE : Aside0 (Below w.heap.size w w3) := ⟨HB0.out.trans ((HB1.out.trans (hB3.out.mono HB1.out.size)).mono HB0.out.size)⟩
    go_wp2
    refine bodyPost_ret (v := .tuple #[.agg #[.bool (sg (a * b)), .slice G (lm (a * b)).length c], .int .i64 0]) (by simp [results, Try.results36, go_sem, Act.put, *]) (by first | rfl | simp [Act.put]) ⟨G, c, rfl, ⟨?_⟩, ⟨((HBE.out.setCell (by show w.heap.size ≤ w.heap.size + 1 + 1; omega) _).setCell (by show w.heap.size ≤ w.heap.size + 1 + 1; omega) _)⟩⟩
    refine (hR.out.setb HF.out (noLimb_bool _) _).setb (v := .slice none 0 0) ?_ (noLimb_slice _ _ _) _
    rw [World.cell?_setCell_other _ _ _ _ (by simp)]
    exact HF1.out
end Go.Proofs.Ytplignahjhenjaa.Lb
