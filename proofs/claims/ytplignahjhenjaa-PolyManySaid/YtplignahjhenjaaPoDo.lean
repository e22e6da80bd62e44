/- poly: a step with two numbers. -/
import Derived.Test.YtplignahjhenjaaPoTl
namespace Go.Proofs.Ytplignahjhenjaa.Lb
open Go.RowKit Go.Proofs.YtplignahjhenjaaW.PrintWords Go.Proofs.YtplignahjhenjaaW.PrintLast Go.Proofs.YtplignahjhenjaaW.PrintMore
set_option linter.unusedVariables false
set_option linter.unusedSimpArgs false

theorem setCell_same {w : World} {p : Addr} {v : Value} (h : w.cell? p = some v) : w.setCell p v = w := by
  have hw : (w.setCell p v).heap = w.heap := by
    apply Array.ext_getElem?
    intro i
    by_cases hi : p.block = i
    · subst hi
      unfold World.cell? at h
      split at h
      · rename_i c e f hb
        have hs : p.spot.isSome = false := by
          cases hs : p.spot.isSome with
          | false => rfl
          | true => simp [hs] at h
        rw [hs] at h
        have hc : c[p.off]? = some v := by simpa using h
        have hcs : c.setIfInBounds p.off v = c := by
          apply Array.ext_getElem?
          intro k
          rw [Array.getElem?_setIfInBounds]
          by_cases hk : p.off = k
          · subst hk
            rw [if_pos rfl, hc, if_pos (Array.getElem?_eq_some_iff.1 hc).1]
          · rw [if_neg hk]
        simp only [World.setCell, Array.getElem?_modify, if_true, hb, Option.map_some, hs, Bool.false_eq_true, if_false, hcs]
      · cases h
    · simp only [World.setCell, Array.getElem?_modify, if_neg hi]
  have : w.setCell p v = { w with heap := (w.setCell p v).heap } := rfl
  rw [this, hw]
/-- The steps' block: no fault so far. -/
def SB (w : World) (g : Nat) : Prop := w.heap[g]? = some (.cells #[.int .i64 0] 60 (0, 0))
theorem SB.lt {w : World} {g : Nat} (h : SB w g) : g < w.heap.size := (Array.getElem?_eq_some_iff.1 h).1
theorem SB.below {w w' : World} {g : Nat} (h : SB w g) (hb : Below w.heap.size w w') : SB w' g := (hb.block g h.lt).trans h
theorem SB.far {w : World} {g : Nat} (h : SB w g) {p : Addr} (hp : g ≠ p.block) (u : Value) : SB (w.setCell p u) g := (Below.heap_setCell w p u g hp).trans h
theorem SB.cell {w : World} {g : Nat} (h : SB w g) : w.cell? ⟨g, 0, none⟩ = some (.int .i64 0) := by
  unfold SB at h
  simp [World.cell?, h]
theorem SB.frozen {w : World} {g : Nat} (h : SB w g) (i : Nat) : w.frozen? ⟨g, i, none⟩ = false := by
  unfold SB at h
  simp [World.frozen?, h]
set_option maxRecDepth 100000 in
set_option maxHeartbeats 2000000 in
theorem do_add (a b z : Int) (A1 A2 : Option Addr) (c1 c2 g : Nat) (w : World) (hg : SB w g) (r1 : RV w A1 c1 a) (r2 : RV w A2 c2 b)
    (CL : ∀ W, Below w.heap.size w W → Calls Try.prog 35 #[.agg #[.bool (sg a), .slice A1 (lm a).length c1], .agg #[.bool (sg b), .slice A2 (lm b).length c2]] W (OutZ W z)) :
    Calls Try.prog 74 #[.pointer (some ⟨g, 0, none⟩), .func (.func 35) #[] #[], .agg #[.bool (sg a), .slice A1 (lm a).length c1], .agg #[.bool (sg b), .slice A2 (lm b).length c2]] w (OutI w z) := by
  have hu := Try.underlying25
  have CL := Lib.hid CL
  have R1 := Aside0.mk r1
  have R2 := Aside0.mk r2
  have HG := Aside0.mk hg
  obtain ⟨W, hW⟩ : ∃ W, ((w.alloc (.cells #[.bool (sg a), .slice A1 (lm a).length c1] 25)).alloc (.cells #[.bool (sg b), .slice A2 (lm b).length c2] 25)).alloc (.cells #[.bool false, .slice none 0 0] 25) = W := ⟨_, rfl⟩
  have HB0 : Aside0 (Below w.heap.size w W) := ⟨by rw [← hW]; exact (((Below.refl _ _).alloc (Nat.le_refl _) _).alloc (by simp) _).alloc (by simp; omega) _⟩
  have HG0 : Aside0 (W.heap[w.heap.size]? = some (.cells #[.bool (sg a), .slice A1 (lm a).length c1] 25 (0, 0))) := ⟨by
    rw [← hW, Below.heap_alloc _ _ _ (by simp; omega), Below.heap_alloc _ _ _ (by simp)]
    exact heap_alloc_new w _⟩
  have HG1 : Aside0 (W.heap[w.heap.size + 1]? = some (.cells #[.bool (sg b), .slice A2 (lm b).length c2] 25 (0, 0))) := ⟨by
    rw [← hW, Below.heap_alloc _ _ _ (by simp)]
    have := heap_alloc_new (w.alloc (.cells #[.bool (sg a), .slice A1 (lm a).length c1] 25)) (.cells #[.bool (sg b), .slice A2 (lm b).length c2] 25)
    simpa using this⟩
  have HG2 : Aside0 (W.heap[w.heap.size + 1 + 1]? = some (.cells #[.bool false, .slice none 0 0] 25 (0, 0))) := ⟨by
    rw [← hW]
    have := heap_alloc_new ((w.alloc (.cells #[.bool (sg a), .slice A1 (lm a).length c1] 25)).alloc (.cells #[.bool (sg b), .slice A2 (lm b).length c2] 25)) (.cells #[.bool false, .slice none 0 0] 25)
    simpa using this⟩
  have HW := Aside0.mk hW
  clear hW r1 r2 hg
  go_enter Try.func74, Try.ntmps74
  go_upto_region 1 with fail
  rw [HW.out]
  obtain ⟨c0, c1', f0, f1, z0⟩ := two_cells (Below.refl _ W) HG0.out
  obtain ⟨d0, d1, g0, g1', z1⟩ := two_cells (Below.refl _ W) HG1.out
  have s0 := (HG.out.below HB0.out).cell
  go_wp2_with fail
  refine (CL.out W HB0.out).mono ?_
  rintro e w1 ⟨G, c, rfl, hR, hB1⟩
  obtain ⟨X, hX⟩ : ∃ X, w1.alloc (.cells #[.bool (sg z), .slice G (lm z).length c] 25) = X := ⟨_, rfl⟩
  have HS1 := Aside0.mk hB1.out.size
  have HB1 : Aside0 (Below W.heap.size W X) := ⟨by rw [← hX]; exact hB1.out.alloc HS1.out _⟩
  have HNX : Aside0 (X.heap[w1.heap.size]? = some (.cells #[.bool (sg z), .slice G (lm z).length c] 25 (0, 0))) := ⟨by rw [← hX]; exact heap_alloc_new w1 _⟩
  have HRX : Aside0 (RV X G c z) := ⟨by rw [← hX]; exact hR.out.alloc _⟩
  have HX := Aside0.mk hX
  clear hX c0 c1' f0 f1 z0 d0 d1 g0 g1' z1 s0
  have HBX : Aside0 (Below w.heap.size w X) := ⟨HB0.out.trans (HB1.out.mono HB0.out.size)⟩
  have s1 := (HG.out.below HBX.out).cell
  have s2 := (HG.out.below HBX.out).frozen 0
  have hid : X.setCell ⟨g, 0, none⟩ (.int .i64 0) = X := setCell_same s1
  obtain ⟨c0, c1', f0, f1, z0⟩ := two_cells (Below.refl _ X) HNX.out
  obtain ⟨e0, e1, i0, i1, z2⟩ := two_cells HB1.out HG2.out
  go_upto_region 4 with fail
  rw [HX.out]
  go_wp2_with fail
  have HF := Aside0.mk e0
  have HF1 := Aside0.mk e1
  refine bodyPost_ret (v := .agg #[.bool (sg z), .slice G (lm z).length c]) (by simp [results, Try.results74, go_sem, *]) rfl ⟨G, c, rfl, ⟨?_⟩, ⟨((HBX.out.setCell (by show w.heap.size ≤ w.heap.size + 1 + 1; omega) _).setCell (by show w.heap.size ≤ w.heap.size + 1 + 1; omega) _)⟩⟩
  refine (HRX.out.setb HF.out (noLimb_bool _) _).setb (v := .slice none 0 0) ?_ (noLimb_slice _ _ _) _
  rw [World.cell?_setCell_other _ _ _ _ (by simp)]
  exact HF1.out
set_option maxRecDepth 100000 in
set_option maxHeartbeats 2000000 in
theorem plus_z (a b : Int) (ha : lim 4096 a) (hb : lim 4096 b) (hab : lim 4096 (a + b)) (A1 A2 : Option Addr) (c1 c2 g : Nat) (w : World) (hg : SB w g) (r1 : RV w A1 c1 a) (r2 : RV w A2 c2 b) :
    Calls Try.prog 42 #[.pointer (some ⟨g, 0, none⟩), .agg #[.bool (sg a), .slice A1 (lm a).length c1], .agg #[.bool (sg b), .slice A2 (lm b).length c2]] w (OutI w (a + b)) := by
  have hu := Try.underlying25
  have R1 := Aside0.mk r1
  have R2 := Aside0.mk r2
  have HG := Aside0.mk hg
  obtain ⟨W, hW⟩ : ∃ W, ((w.alloc (.cells #[.bool (sg a), .slice A1 (lm a).length c1] 25)).alloc (.cells #[.bool (sg b), .slice A2 (lm b).length c2] 25)).alloc (.cells #[.bool false, .slice none 0 0] 25) = W := ⟨_, rfl⟩
  have HB0 : Aside0 (Below w.heap.size w W) := ⟨by rw [← hW]; exact (((Below.refl _ _).alloc (Nat.le_refl _) _).alloc (by simp) _).alloc (by simp; omega) _⟩
  have HG0 : Aside0 (W.heap[w.heap.size]? = some (.cells #[.bool (sg a), .slice A1 (lm a).length c1] 25 (0, 0))) := ⟨by
    rw [← hW, Below.heap_alloc _ _ _ (by simp; omega), Below.heap_alloc _ _ _ (by simp)]
    exact heap_alloc_new w _⟩
  have HG1 : Aside0 (W.heap[w.heap.size + 1]? = some (.cells #[.bool (sg b), .slice A2 (lm b).length c2] 25 (0, 0))) := ⟨by
    rw [← hW, Below.heap_alloc _ _ _ (by simp)]
    have := heap_alloc_new (w.alloc (.cells #[.bool (sg a), .slice A1 (lm a).length c1] 25)) (.cells #[.bool (sg b), .slice A2 (lm b).length c2] 25)
    simpa using this⟩
  have HG2 : Aside0 (W.heap[w.heap.size + 1 + 1]? = some (.cells #[.bool false, .slice none 0 0] 25 (0, 0))) := ⟨by
    rw [← hW]
    have := heap_alloc_new ((w.alloc (.cells #[.bool (sg a), .slice A1 (lm a).length c1] 25)).alloc (.cells #[.bool (sg b), .slice A2 (lm b).length c2] 25)) (.cells #[.bool false, .slice none 0 0] 25)
    simpa using this⟩
  have HW := Aside0.mk hW
  have CL := Lib.hid (do_add a b (a + b) A1 A2 c1 c2 g W (HG.out.below HB0.out) (R1.out.below HB0.out) (R2.out.below HB0.out) (fun W2 h2 => add_z a b ha hb hab  A1 A2 c1 c2 W2 ((R1.out.below HB0.out).below h2) ((R2.out.below HB0.out).below h2)))
  obtain ⟨z, hz⟩ : ∃ z, a + b = z := ⟨_, rfl⟩
  rw [hz] at CL ⊢
  clear hW r1 r2 hg ha hb hab hz 
  go_enter Try.func42, Try.ntmps42
  go_upto_region 1 with fail
  rw [HW.out]
  obtain ⟨c0, c1', f0, f1, z0⟩ := two_cells (Below.refl _ W) HG0.out
  obtain ⟨d0, d1, g0, g1', z1⟩ := two_cells (Below.refl _ W) HG1.out
  go_wp2_with fail
  refine CL.out.mono ?_
  rintro e w1 ⟨G, c, rfl, hR, hB1⟩
  obtain ⟨e0, e1, i0, i1, z2⟩ := two_cells hB1.out HG2.out
  go_wp2_with fail
  have HF := Aside0.mk e0
  have HF1 := Aside0.mk e1
  have HBX : Aside0 (Below w.heap.size w w1) := ⟨HB0.out.trans (hB1.out.mono HB0.out.size)⟩
  refine bodyPost_ret (v := .agg #[.bool (sg z), .slice G (lm z).length c]) (by simp [results, Try.results42, go_sem, *]) rfl ⟨G, c, rfl, ⟨?_⟩, ⟨((HBX.out.setCell (by show w.heap.size ≤ w.heap.size + 1 + 1; omega) _).setCell (by show w.heap.size ≤ w.heap.size + 1 + 1; omega) _)⟩⟩
  refine (hR.out.setb HF.out (noLimb_bool _) _).setb (v := .slice none 0 0) ?_ (noLimb_slice _ _ _) _
  rw [World.cell?_setCell_other _ _ _ _ (by simp)]
  exact HF1.out
set_option maxRecDepth 100000 in
set_option maxHeartbeats 2000000 in
theorem do_sub (a b z : Int) (A1 A2 : Option Addr) (c1 c2 g : Nat) (w : World) (hg : SB w g) (r1 : RV w A1 c1 a) (r2 : RV w A2 c2 b)
    (CL : ∀ W, Below w.heap.size w W → Calls Try.prog 79 #[.agg #[.bool (sg a), .slice A1 (lm a).length c1], .agg #[.bool (sg b), .slice A2 (lm b).length c2]] W (OutZ W z)) :
    Calls Try.prog 74 #[.pointer (some ⟨g, 0, none⟩), .func (.func 79) #[] #[], .agg #[.bool (sg a), .slice A1 (lm a).length c1], .agg #[.bool (sg b), .slice A2 (lm b).length c2]] w (OutI w z) := by
  have hu := Try.underlying25
  have CL := Lib.hid CL
  have R1 := Aside0.mk r1
  have R2 := Aside0.mk r2
  have HG := Aside0.mk hg
  obtain ⟨W, hW⟩ : ∃ W, ((w.alloc (.cells #[.bool (sg a), .slice A1 (lm a).length c1] 25)).alloc (.cells #[.bool (sg b), .slice A2 (lm b).length c2] 25)).alloc (.cells #[.bool false, .slice none 0 0] 25) = W := ⟨_, rfl⟩
  have HB0 : Aside0 (Below w.heap.size w W) := ⟨by rw [← hW]; exact (((Below.refl _ _).alloc (Nat.le_refl _) _).alloc (by simp) _).alloc (by simp; omega) _⟩
  have HG0 : Aside0 (W.heap[w.heap.size]? = some (.cells #[.bool (sg a), .slice A1 (lm a).length c1] 25 (0, 0))) := ⟨by
    rw [← hW, Below.heap_alloc _ _ _ (by simp; omega), Below.heap_alloc _ _ _ (by simp)]
    exact heap_alloc_new w _⟩
  have HG1 : Aside0 (W.heap[w.heap.size + 1]? = some (.cells #[.bool (sg b), .slice A2 (lm b).length c2] 25 (0, 0))) := ⟨by
    rw [← hW, Below.heap_alloc _ _ _ (by simp)]
    have := heap_alloc_new (w.alloc (.cells #[.bool (sg a), .slice A1 (lm a).length c1] 25)) (.cells #[.bool (sg b), .slice A2 (lm b).length c2] 25)
    simpa using this⟩
  have HG2 : Aside0 (W.heap[w.heap.size + 1 + 1]? = some (.cells #[.bool false, .slice none 0 0] 25 (0, 0))) := ⟨by
    rw [← hW]
    have := heap_alloc_new ((w.alloc (.cells #[.bool (sg a), .slice A1 (lm a).length c1] 25)).alloc (.cells #[.bool (sg b), .slice A2 (lm b).length c2] 25)) (.cells #[.bool false, .slice none 0 0] 25)
    simpa using this⟩
  have HW := Aside0.mk hW
  clear hW r1 r2 hg
  go_enter Try.func74, Try.ntmps74
  go_upto_region 1 with fail
  rw [HW.out]
  obtain ⟨c0, c1', f0, f1, z0⟩ := two_cells (Below.refl _ W) HG0.out
  obtain ⟨d0, d1, g0, g1', z1⟩ := two_cells (Below.refl _ W) HG1.out
  have s0 := (HG.out.below HB0.out).cell
  go_wp2_with fail
  refine (CL.out W HB0.out).mono ?_
  rintro e w1 ⟨G, c, rfl, hR, hB1⟩
  obtain ⟨X, hX⟩ : ∃ X, w1.alloc (.cells #[.bool (sg z), .slice G (lm z).length c] 25) = X := ⟨_, rfl⟩
  have HS1 := Aside0.mk hB1.out.size
  have HB1 : Aside0 (Below W.heap.size W X) := ⟨by rw [← hX]; exact hB1.out.alloc HS1.out _⟩
  have HNX : Aside0 (X.heap[w1.heap.size]? = some (.cells #[.bool (sg z), .slice G (lm z).length c] 25 (0, 0))) := ⟨by rw [← hX]; exact heap_alloc_new w1 _⟩
  have HRX : Aside0 (RV X G c z) := ⟨by rw [← hX]; exact hR.out.alloc _⟩
  have HX := Aside0.mk hX
  clear hX c0 c1' f0 f1 z0 d0 d1 g0 g1' z1 s0
  have HBX : Aside0 (Below w.heap.size w X) := ⟨HB0.out.trans (HB1.out.mono HB0.out.size)⟩
  have s1 := (HG.out.below HBX.out).cell
  have s2 := (HG.out.below HBX.out).frozen 0
  have hid : X.setCell ⟨g, 0, none⟩ (.int .i64 0) = X := setCell_same s1
  obtain ⟨c0, c1', f0, f1, z0⟩ := two_cells (Below.refl _ X) HNX.out
  obtain ⟨e0, e1, i0, i1, z2⟩ := two_cells HB1.out HG2.out
  go_upto_region 4 with fail
  rw [HX.out]
  go_wp2_with fail
  have HF := Aside0.mk e0
  have HF1 := Aside0.mk e1
  refine bodyPost_ret (v := .agg #[.bool (sg z), .slice G (lm z).length c]) (by simp [results, Try.results74, go_sem, *]) rfl ⟨G, c, rfl, ⟨?_⟩, ⟨((HBX.out.setCell (by show w.heap.size ≤ w.heap.size + 1 + 1; omega) _).setCell (by show w.heap.size ≤ w.heap.size + 1 + 1; omega) _)⟩⟩
  refine (HRX.out.setb HF.out (noLimb_bool _) _).setb (v := .slice none 0 0) ?_ (noLimb_slice _ _ _) _
  rw [World.cell?_setCell_other _ _ _ _ (by simp)]
  exact HF1.out
set_option maxRecDepth 100000 in
set_option maxHeartbeats 2000000 in
theorem less_z (a b : Int) (ha : lim 4096 a) (hb : lim 4096 b) (hab : lim 4096 (a - b)) (A1 A2 : Option Addr) (c1 c2 g : Nat) (w : World) (hg : SB w g) (r1 : RV w A1 c1 a) (r2 : RV w A2 c2 b) :
    Calls Try.prog 56 #[.pointer (some ⟨g, 0, none⟩), .agg #[.bool (sg a), .slice A1 (lm a).length c1], .agg #[.bool (sg b), .slice A2 (lm b).length c2]] w (OutI w (a - b)) := by
  have hu := Try.underlying25
  have R1 := Aside0.mk r1
  have R2 := Aside0.mk r2
  have HG := Aside0.mk hg
  obtain ⟨W, hW⟩ : ∃ W, ((w.alloc (.cells #[.bool (sg a), .slice A1 (lm a).length c1] 25)).alloc (.cells #[.bool (sg b), .slice A2 (lm b).length c2] 25)).alloc (.cells #[.bool false, .slice none 0 0] 25) = W := ⟨_, rfl⟩
  have HB0 : Aside0 (Below w.heap.size w W) := ⟨by rw [← hW]; exact (((Below.refl _ _).alloc (Nat.le_refl _) _).alloc (by simp) _).alloc (by simp; omega) _⟩
  have HG0 : Aside0 (W.heap[w.heap.size]? = some (.cells #[.bool (sg a), .slice A1 (lm a).length c1] 25 (0, 0))) := ⟨by
    rw [← hW, Below.heap_alloc _ _ _ (by simp; omega), Below.heap_alloc _ _ _ (by simp)]
    exact heap_alloc_new w _⟩
  have HG1 : Aside0 (W.heap[w.heap.size + 1]? = some (.cells #[.bool (sg b), .slice A2 (lm b).length c2] 25 (0, 0))) := ⟨by
    rw [← hW, Below.heap_alloc _ _ _ (by simp)]
    have := heap_alloc_new (w.alloc (.cells #[.bool (sg a), .slice A1 (lm a).length c1] 25)) (.cells #[.bool (sg b), .slice A2 (lm b).length c2] 25)
    simpa using this⟩
  have HG2 : Aside0 (W.heap[w.heap.size + 1 + 1]? = some (.cells #[.bool false, .slice none 0 0] 25 (0, 0))) := ⟨by
    rw [← hW]
    have := heap_alloc_new ((w.alloc (.cells #[.bool (sg a), .slice A1 (lm a).length c1] 25)).alloc (.cells #[.bool (sg b), .slice A2 (lm b).length c2] 25)) (.cells #[.bool false, .slice none 0 0] 25)
    simpa using this⟩
  have HW := Aside0.mk hW
  have CL := Lib.hid (do_sub a b (a - b) A1 A2 c1 c2 g W (HG.out.below HB0.out) (R1.out.below HB0.out) (R2.out.below HB0.out) (fun W2 h2 => sub_z a b ha hb hab  A1 A2 c1 c2 W2 ((R1.out.below HB0.out).below h2) ((R2.out.below HB0.out).below h2)))
  obtain ⟨z, hz⟩ : ∃ z, a - b = z := ⟨_, rfl⟩
  rw [hz] at CL ⊢
  clear hW r1 r2 hg ha hb hab hz 
  go_enter Try.func56, Try.ntmps56
  go_upto_region 1 with fail
  rw [HW.out]
  obtain ⟨c0, c1', f0, f1, z0⟩ := two_cells (Below.refl _ W) HG0.out
  obtain ⟨d0, d1, g0, g1', z1⟩ := two_cells (Below.refl _ W) HG1.out
  go_wp2_with fail
  refine CL.out.mono ?_
  rintro e w1 ⟨G, c, rfl, hR, hB1⟩
  obtain ⟨e0, e1, i0, i1, z2⟩ := two_cells hB1.out HG2.out
  go_wp2_with fail
  have HF := Aside0.mk e0
  have HF1 := Aside0.mk e1
  have HBX : Aside0 (Below w.heap.size w w1) := ⟨HB0.out.trans (hB1.out.mono HB0.out.size)⟩
  refine bodyPost_ret (v := .agg #[.bool (sg z), .slice G (lm z).length c]) (by simp [results, Try.results56, go_sem, *]) rfl ⟨G, c, rfl, ⟨?_⟩, ⟨((HBX.out.setCell (by show w.heap.size ≤ w.heap.size + 1 + 1; omega) _).setCell (by show w.heap.size ≤ w.heap.size + 1 + 1; omega) _)⟩⟩
  refine (hR.out.setb HF.out (noLimb_bool _) _).setb (v := .slice none 0 0) ?_ (noLimb_slice _ _ _) _
  rw [World.cell?_setCell_other _ _ _ _ (by simp)]
  exact HF1.out
set_option maxRecDepth 100000 in
set_option maxHeartbeats 2000000 in
theorem do_mul (a b z : Int) (A1 A2 : Option Addr) (c1 c2 g : Nat) (w : World) (hg : SB w g) (r1 : RV w A1 c1 a) (r2 : RV w A2 c2 b)
    (CL : ∀ W, Below w.heap.size w W → Calls Try.prog 36 #[.agg #[.bool (sg a), .slice A1 (lm a).length c1], .agg #[.bool (sg b), .slice A2 (lm b).length c2]] W (OutZ W z)) :
    Calls Try.prog 74 #[.pointer (some ⟨g, 0, none⟩), .func (.func 36) #[] #[], .agg #[.bool (sg a), .slice A1 (lm a).length c1], .agg #[.bool (sg b), .slice A2 (lm b).length c2]] w (OutI w z) := by
  have hu := Try.underlying25
  have CL := Lib.hid CL
  have R1 := Aside0.mk r1
  have R2 := Aside0.mk r2
  have HG := Aside0.mk hg
  obtain ⟨W, hW⟩ : ∃ W, ((w.alloc (.cells #[.bool (sg a), .slice A1 (lm a).length c1] 25)).alloc (.cells #[.bool (sg b), .slice A2 (lm b).length c2] 25)).alloc (.cells #[.bool false, .slice none 0 0] 25) = W := ⟨_, rfl⟩
  have HB0 : Aside0 (Below w.heap.size w W) := ⟨by rw [← hW]; exact (((Below.refl _ _).alloc (Nat.le_refl _) _).alloc (by simp) _).alloc (by simp; omega) _⟩
  have HG0 : Aside0 (W.heap[w.heap.size]? = some (.cells #[.bool (sg a), .slice A1 (lm a).length c1] 25 (0, 0))) := ⟨by
    rw [← hW, Below.heap_alloc _ _ _ (by simp; omega), Below.heap_alloc _ _ _ (by simp)]
    exact heap_alloc_new w _⟩
  have HG1 : Aside0 (W.heap[w.heap.size + 1]? = some (.cells #[.bool (sg b), .slice A2 (lm b).length c2] 25 (0, 0))) := ⟨by
    rw [← hW, Below.heap_alloc _ _ _ (by simp)]
    have := heap_alloc_new (w.alloc (.cells #[.bool (sg a), .slice A1 (lm a).length c1] 25)) (.cells #[.bool (sg b), .slice A2 (lm b).length c2] 25)
    simpa using this⟩
  have HG2 : Aside0 (W.heap[w.heap.size + 1 + 1]? = some (.cells #[.bool false, .slice none 0 0] 25 (0, 0))) := ⟨by
    rw [← hW]
    have := heap_alloc_new ((w.alloc (.cells #[.bool (sg a), .slice A1 (lm a).length c1] 25)).alloc (.cells #[.bool (sg b), .slice A2 (lm b).length c2] 25)) (.cells #[.bool false, .slice none 0 0] 25)
    simpa using this⟩
  have HW := Aside0.mk hW
  clear hW r1 r2 hg
  go_enter Try.func74, Try.ntmps74
  go_upto_region 1 with fail
  rw [HW.out]
  obtain ⟨c0, c1', f0, f1, z0⟩ := two_cells (Below.refl _ W) HG0.out
  obtain ⟨d0, d1, g0, g1', z1⟩ := two_cells (Below.refl _ W) HG1.out
  have s0 := (HG.out.below HB0.out).cell
  go_wp2_with fail
  refine (CL.out W HB0.out).mono ?_
  rintro e w1 ⟨G, c, rfl, hR, hB1⟩
  obtain ⟨X, hX⟩ : ∃ X, w1.alloc (.cells #[.bool (sg z), .slice G (lm z).length c] 25) = X := ⟨_, rfl⟩
  have HS1 := Aside0.mk hB1.out.size
  have HB1 : Aside0 (Below W.heap.size W X) := ⟨by rw [← hX]; exact hB1.out.alloc HS1.out _⟩
  have HNX : Aside0 (X.heap[w1.heap.size]? = some (.cells #[.bool (sg z), .slice G (lm z).length c] 25 (0, 0))) := ⟨by rw [← hX]; exact heap_alloc_new w1 _⟩
  have HRX : Aside0 (RV X G c z) := ⟨by rw [← hX]; exact hR.out.alloc _⟩
  have HX := Aside0.mk hX
  clear hX c0 c1' f0 f1 z0 d0 d1 g0 g1' z1 s0
  have HBX : Aside0 (Below w.heap.size w X) := ⟨HB0.out.trans (HB1.out.mono HB0.out.size)⟩
  have s1 := (HG.out.below HBX.out).cell
  have s2 := (HG.out.below HBX.out).frozen 0
  have hid : X.setCell ⟨g, 0, none⟩ (.int .i64 0) = X := setCell_same s1
  obtain ⟨c0, c1', f0, f1, z0⟩ := two_cells (Below.refl _ X) HNX.out
  obtain ⟨e0, e1, i0, i1, z2⟩ := two_cells HB1.out HG2.out
  go_upto_region 4 with fail
  rw [HX.out]
  go_wp2_with fail
  have HF := Aside0.mk e0
  have HF1 := Aside0.mk e1
  refine bodyPost_ret (v := .agg #[.bool (sg z), .slice G (lm z).length c]) (by simp [results, Try.results74, go_sem, *]) rfl ⟨G, c, rfl, ⟨?_⟩, ⟨((HBX.out.setCell (by show w.heap.size ≤ w.heap.size + 1 + 1; omega) _).setCell (by show w.heap.size ≤ w.heap.size + 1 + 1; omega) _)⟩⟩
  refine (HRX.out.setb HF.out (noLimb_bool _) _).setb (v := .slice none 0 0) ?_ (noLimb_slice _ _ _) _
  rw [World.cell?_setCell_other _ _ _ _ (by simp)]
  exact HF1.out
set_option maxRecDepth 100000 in
set_option maxHeartbeats 2000000 in
theorem times_z (a b : Int) (ha : lim 4096 a) (hb : lim 4096 b) (hab : lim 4096 (a * b)) (hs : min (lm a).length (lm b).length < 24) (A1 A2 : Option Addr) (c1 c2 g : Nat) (w : World) (hg : SB w g) (r1 : RV w A1 c1 a) (r2 : RV w A2 c2 b) :
    Calls Try.prog 43 #[.pointer (some ⟨g, 0, none⟩), .agg #[.bool (sg a), .slice A1 (lm a).length c1], .agg #[.bool (sg b), .slice A2 (lm b).length c2]] w (OutI w (a * b)) := by
  have hu := Try.underlying25
  have R1 := Aside0.mk r1
  have R2 := Aside0.mk r2
  have HG := Aside0.mk hg
  obtain ⟨W, hW⟩ : ∃ W, ((w.alloc (.cells #[.bool (sg a), .slice A1 (lm a).length c1] 25)).alloc (.cells #[.bool (sg b), .slice A2 (lm b).length c2] 25)).alloc (.cells #[.bool false, .slice none 0 0] 25) = W := ⟨_, rfl⟩
  have HB0 : Aside0 (Below w.heap.size w W) := ⟨by rw [← hW]; exact (((Below.refl _ _).alloc (Nat.le_refl _) _).alloc (by simp) _).alloc (by simp; omega) _⟩
  have HG0 : Aside0 (W.heap[w.heap.size]? = some (.cells #[.bool (sg a), .slice A1 (lm a).length c1] 25 (0, 0))) := ⟨by
    rw [← hW, Below.heap_alloc _ _ _ (by simp; omega), Below.heap_alloc _ _ _ (by simp)]
    exact heap_alloc_new w _⟩
  have HG1 : Aside0 (W.heap[w.heap.size + 1]? = some (.cells #[.bool (sg b), .slice A2 (lm b).length c2] 25 (0, 0))) := ⟨by
    rw [← hW, Below.heap_alloc _ _ _ (by simp)]
    have := heap_alloc_new (w.alloc (.cells #[.bool (sg a), .slice A1 (lm a).length c1] 25)) (.cells #[.bool (sg b), .slice A2 (lm b).length c2] 25)
    simpa using this⟩
  have HG2 : Aside0 (W.heap[w.heap.size + 1 + 1]? = some (.cells #[.bool false, .slice none 0 0] 25 (0, 0))) := ⟨by
    rw [← hW]
    have := heap_alloc_new ((w.alloc (.cells #[.bool (sg a), .slice A1 (lm a).length c1] 25)).alloc (.cells #[.bool (sg b), .slice A2 (lm b).length c2] 25)) (.cells #[.bool false, .slice none 0 0] 25)
    simpa using this⟩
  have HW := Aside0.mk hW
  have CL := Lib.hid (do_mul a b (a * b) A1 A2 c1 c2 g W (HG.out.below HB0.out) (R1.out.below HB0.out) (R2.out.below HB0.out) (fun W2 h2 => mul_z a b ha hb hab hs A1 A2 c1 c2 W2 ((R1.out.below HB0.out).below h2) ((R2.out.below HB0.out).below h2)))
  obtain ⟨z, hz⟩ : ∃ z, a * b = z := ⟨_, rfl⟩
  rw [hz] at CL ⊢
  clear hW r1 r2 hg ha hb hab hz hs
  go_enter Try.func43, Try.ntmps43
  go_upto_region 1 with fail
  rw [HW.out]
  obtain ⟨c0, c1', f0, f1, z0⟩ := two_cells (Below.refl _ W) HG0.out
  obtain ⟨d0, d1, g0, g1', z1⟩ := two_cells (Below.refl _ W) HG1.out
  go_wp2_with fail
  refine CL.out.mono ?_
  rintro e w1 ⟨G, c, rfl, hR, hB1⟩
  obtain ⟨e0, e1, i0, i1, z2⟩ := two_cells hB1.out HG2.out
  go_wp2_with fail
  have HF := Aside0.mk e0
  have HF1 := Aside0.mk e1
  have HBX : Aside0 (Below w.heap.size w w1) := ⟨HB0.out.trans (hB1.out.mono HB0.out.size)⟩
  refine bodyPost_ret (v := .agg #[.bool (sg z), .slice G (lm z).length c]) (by simp [results, Try.results43, go_sem, *]) rfl ⟨G, c, rfl, ⟨?_⟩, ⟨((HBX.out.setCell (by show w.heap.size ≤ w.heap.size + 1 + 1; omega) _).setCell (by show w.heap.size ≤ w.heap.size + 1 + 1; omega) _)⟩⟩
  refine (hR.out.setb HF.out (noLimb_bool _) _).setb (v := .slice none 0 0) ?_ (noLimb_slice _ _ _) _
  rw [World.cell?_setCell_other _ _ _ _ (by simp)]
  exact HF1.out
end Go.Proofs.Ytplignahjhenjaa.Lb
