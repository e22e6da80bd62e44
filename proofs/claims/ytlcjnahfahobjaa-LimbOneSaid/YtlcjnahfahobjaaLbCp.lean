/- limb: Plus of numbers with no power of two: the walk. -/
import Derived.Test.YtlcjnahfahobjaaLbCz
namespace Go.Proofs.Ytlcjnahfahobjaa.Lb
open Go.RowKit Go.Proofs.YtlcjnahfahobjaaW.PrintWords Go.Proofs.YtlcjnahfahobjaaW.PrintLast Go.Proofs.YtlcjnahfahobjaaW.PrintMore
set_option linter.unusedVariables false
set_option linter.unusedSimpArgs false

set_option maxRecDepth 100000 in
set_option maxHeartbeats 4000000 in
theorem plus_a (s t : Bool) (A1 A2 : Option Addr) (c1 c2 : Nat) (b : Nat) (h1 : (toL 0).length ≤ c1) (h2 : (toL b).length ≤ c2) (hb : (toL b).length ≤ 4096000) (w : World) (r1 : u64.C w A1 (toL 0).length (toL 0)) (r2 : u64.C w A2 (toL b).length (toL b)) :
    Calls Try.prog 49 #[.agg #[.bool s, .slice A1 (toL 0).length c1, .int .i64 0], .agg #[.bool t, .slice A2 (toL b).length c2, .int .i64 0]] w (OutW A1 A2 (toL 0) (toL b) w t (toL b)) := by
  have hu := Try.underlying62
  have hus := Try.underlying22
  have I0 := Aside0.mk (PlusI.start (s := s) (t := t) h1 h2 r1 r2)
  have L0 : Aside0 ((toL 0).length ≤ 4096000) := ⟨by rw [toL_zero]; simp⟩
  have R2 := Aside0.mk r2
  clear r1 r2
  obtain ⟨⟨⟨x0, x1, x2, xl⟩, y0, y1, y2, yl⟩, z0, z1, z2, f0, f1, f2, zl⟩ := I0.out.cells
  go_enter Try.func49, Try.ntmps49
  go_wp2_with fail
  refine (zero_t s _ _ 0 true rfl h1 L0.out _ I0.out.va.row).mono ?_
  rintro e w1 ⟨rfl, b1⟩
  clear x0 x1 x2 xl y0 y1 y2 yl z0 z1 z2 f0 f1 f2 zl
  replace I0 := Aside0.mk (I0.out.below b1.out)
  clear b1
  obtain ⟨⟨⟨x0, x1, x2, xl⟩, y0, y1, y2, yl⟩, z0, z1, z2, f0, f1, f2, zl⟩ := I0.out.cells
  go_wp2
  have HF : ∀ u0 u1 u2 : Value, Below w.heap.size w (((w1.setCell ⟨w.heap.size + 2, 0, none⟩ u0).setCell ⟨w.heap.size + 2, 1, none⟩ u1).setCell ⟨w.heap.size + 2, 2, none⟩ u2) := fun _ _ _ => ((I0.out.b.setCell (Nat.le_add_right _ _) _).setCell (Nat.le_add_right _ _) _).setCell (Nat.le_add_right _ _) _
  refine bodyPost_ret (v := .agg #[.bool t, .slice A2 (toL b).length c2, .int .i64 0]) (by simp [results, Try.results49, go_sem, z0, z1, z2, f0, f1, f2, zl]) rfl ⟨A2, c2, rfl, ⟨h2, Kd.C_below R2.out (HF _ _ _)⟩, ⟨.inr fun _ _ h => h⟩, ⟨HF _ _ _⟩⟩
set_option maxRecDepth 100000 in
set_option maxHeartbeats 4000000 in
theorem plus_b (s t : Bool) (A1 A2 : Option Addr) (c1 c2 : Nat) (a : Nat) (ha0 : a ≠ 0) (ha : (toL a).length ≤ 4096000) (h1 : (toL a).length ≤ c1) (h2 : (toL 0).length ≤ c2) (w : World) (r1 : u64.C w A1 (toL a).length (toL a)) (r2 : u64.C w A2 (toL 0).length (toL 0)) :
    Calls Try.prog 49 #[.agg #[.bool s, .slice A1 (toL a).length c1, .int .i64 0], .agg #[.bool t, .slice A2 (toL 0).length c2, .int .i64 0]] w (OutW A1 A2 (toL a) (toL 0) w s (toL a)) := by
  have hu := Try.underlying62
  have hus := Try.underlying22
  have I0 := Aside0.mk (PlusI.start (s := s) (t := t) h1 h2 r1 r2)
  have L0 : Aside0 ((toL 0).length ≤ 4096000) := ⟨by rw [toL_zero]; simp⟩
  have R1 := Aside0.mk r1
  clear r1 r2
  obtain ⟨⟨⟨x0, x1, x2, xl⟩, y0, y1, y2, yl⟩, z0, z1, z2, f0, f1, f2, zl⟩ := I0.out.cells
  go_enter Try.func49, Try.ntmps49
  go_wp2_with fail
  refine (zero_t s _ _ a false (by simpa using ha0) h1 ha _ I0.out.va.row).mono ?_
  rintro e w1 ⟨rfl, b1⟩
  clear x0 x1 x2 xl y0 y1 y2 yl z0 z1 z2 f0 f1 f2 zl
  replace I0 := Aside0.mk (I0.out.below b1.out)
  clear b1
  obtain ⟨⟨⟨x0, x1, x2, xl⟩, y0, y1, y2, yl⟩, z0, z1, z2, f0, f1, f2, zl⟩ := I0.out.cells
  go_wp2_with fail
  refine (zero_t t _ _ 0 true rfl h2 L0.out _ I0.out.vb.row).mono ?_
  rintro e w2 ⟨rfl, b1⟩
  clear x0 x1 x2 xl y0 y1 y2 yl z0 z1 z2 f0 f1 f2 zl
  replace I0 := Aside0.mk (I0.out.below b1.out)
  clear b1
  obtain ⟨⟨⟨x0, x1, x2, xl⟩, y0, y1, y2, yl⟩, z0, z1, z2, f0, f1, f2, zl⟩ := I0.out.cells
  go_wp2
  have HF : ∀ u0 u1 u2 : Value, Below w.heap.size w (((w2.setCell ⟨w.heap.size + 2, 0, none⟩ u0).setCell ⟨w.heap.size + 2, 1, none⟩ u1).setCell ⟨w.heap.size + 2, 2, none⟩ u2) := fun _ _ _ => ((I0.out.b.setCell (Nat.le_add_right _ _) _).setCell (Nat.le_add_right _ _) _).setCell (Nat.le_add_right _ _) _
  refine bodyPost_ret (v := .agg #[.bool s, .slice A1 (toL a).length c1, .int .i64 0]) (by simp [results, Try.results49, go_sem, z0, z1, z2, f0, f1, f2, zl]) rfl ⟨A1, c1, rfl, ⟨h1, Kd.C_below R1.out (HF _ _ _)⟩, ⟨.inr fun _ h _ => h⟩, ⟨HF _ _ _⟩⟩
set_option maxRecDepth 100000 in
set_option maxHeartbeats 4000000 in
theorem plus_n (s t : Bool) (A1 A2 : Option Addr) (c1 c2 : Nat) (a b : Nat) (ha0 : a ≠ 0) (hb0 : b ≠ 0) (ha : (toL a).length ≤ 4096000) (hb : (toL b).length ≤ 4096000) (hst : s = t) (h1 : (toL a).length ≤ c1) (h2 : (toL b).length ≤ c2) (w : World) (r1 : u64.C w A1 (toL a).length (toL a)) (r2 : u64.C w A2 (toL b).length (toL b)) :
    Calls Try.prog 49 #[.agg #[.bool s, .slice A1 (toL a).length c1, .int .i64 0], .agg #[.bool t, .slice A2 (toL b).length c2, .int .i64 0]] w (OutW A1 A2 (toL a) (toL b) w s (toL (a + b))) := by
  have hu := Try.underlying62
  have hus := Try.underlying22
  have I0 := Aside0.mk (PlusI.start (s := s) (t := t) h1 h2 r1 r2)
  clear r1 r2
  subst hst
  obtain ⟨⟨⟨x0, x1, x2, xl⟩, y0, y1, y2, yl⟩, z0, z1, z2, f0, f1, f2, zl⟩ := I0.out.cells
  go_enter Try.func49, Try.ntmps49
  go_wp2_with fail
  refine (zero_t s _ _ a false (by simpa using ha0) h1 ha _ I0.out.va.row).mono ?_
  rintro e w1 ⟨rfl, b1⟩
  clear x0 x1 x2 xl y0 y1 y2 yl z0 z1 z2 f0 f1 f2 zl
  replace I0 := Aside0.mk (I0.out.below b1.out)
  clear b1
  obtain ⟨⟨⟨x0, x1, x2, xl⟩, y0, y1, y2, yl⟩, z0, z1, z2, f0, f1, f2, zl⟩ := I0.out.cells
  go_wp2_with fail
  refine (zero_t s _ _ b false (by simpa using hb0) h2 hb _ I0.out.vb.row).mono ?_
  rintro e w2 ⟨rfl, b1⟩
  clear x0 x1 x2 xl y0 y1 y2 yl z0 z1 z2 f0 f1 f2 zl
  replace I0 := Aside0.mk (I0.out.below b1.out)
  clear b1
  obtain ⟨⟨⟨x0, x1, x2, xl⟩, y0, y1, y2, yl⟩, z0, z1, z2, f0, f1, f2, zl⟩ := I0.out.cells
  have e0 : wrap64 (0 - 0) = 0 := by unfold wrap64; omega
  go_wp2_with fail
  go_region_held3 (fun w' => (w'.cell? ⟨w.heap.size, 0, none⟩ = some (.bool s) ∧ w'.cell? ⟨w.heap.size, 1, none⟩ = some (.slice A1 (toL a).length c1) ∧ w'.cell? ⟨w.heap.size, 2, none⟩ = some (.int .i64 0)) ∧ (w'.cell? ⟨w.heap.size + 1, 0, none⟩ = some (.bool s) ∧ w'.cell? ⟨w.heap.size + 1, 1, none⟩ = some (.slice A2 (toL b).length c2) ∧ w'.cell? ⟨w.heap.size + 1, 2, none⟩ = some (.int .i64 0))) (go_keep) (first | (go_at_call 73; refine (up0_t _ _ b h2 hb _ I0.out.drew.vb.row).mono ?_; rintro e w3 ⟨A3, d3, rfl, R3, b3⟩; have I3 := Aside0.mk (I0.out.drew.below b3.out); obtain ⟨⟨⟨x0', x1', x2', xl'⟩, y0', y1', y2', yl'⟩, z0', z1', z2', f0', f1', f2', zl'⟩ := I3.out.cells))
  go_wp2_with fail
  have ne1 : ¬ (w.heap.size = w.heap.size + 1 + 1) := by omega
  have ne2 : ¬ (w.heap.size + 1 + 1 = w.heap.size) := by omega
  have R3' := Aside0.mk (Kd.V_reads' (Kd.V_below R3.out (Below.refl _ _).drew))
  go_region_held3 (fun w' => (w'.cell? ⟨w.heap.size, 0, none⟩ = some (.bool s) ∧ w'.cell? ⟨w.heap.size, 1, none⟩ = some (.slice A1 (toL a).length c1) ∧ w'.cell? ⟨w.heap.size, 2, none⟩ = some (.int .i64 0)) ∧ (w'.cell? ⟨w.heap.size + 1, 0, none⟩ = some (.bool s) ∧ w'.cell? ⟨w.heap.size + 1, 1, none⟩ = some (.slice A2 (toL b).length c2) ∧ w'.cell? ⟨w.heap.size + 1, 2, none⟩ = some (.int .i64 0))) (go_keep) (first | (go_at_call 74; refine (natAdd_t _ _ _ _ a b h1 R3'.out.2.1 ha hb _ I3.out.drew.va.row R3'.out.2.2).mono ?_; rintro e w4 ⟨A4, d4, rfl, R4, b4⟩; have I4 := Aside0.mk (I3.out.drew.below b4.out); obtain ⟨⟨⟨x0'', x1'', x2'', xl''⟩, y0'', y1'', y2'', yl''⟩, z0'', z1'', z2'', f0'', f1'', f2'', zl''⟩ := I4.out.cells))
  go_wp2_with fail
  have HF : ∀ u0 u1 u2 : Value, Below w.heap.size w (((w4.setCell ⟨w.heap.size + 2, 0, none⟩ u0).setCell ⟨w.heap.size + 2, 1, none⟩ u1).setCell ⟨w.heap.size + 2, 2, none⟩ u2) := fun _ _ _ => ((I4.out.b.setCell (Nat.le_add_right _ _) _).setCell (Nat.le_add_right _ _) _).setCell (Nat.le_add_right _ _) _
  refine bodyPost_ret (v := .agg #[.bool s, .slice A4 (toL (a + b)).length d4, .int .i64 0]) (by simp [results, Try.results49, go_sem, z0'', z1'', z2'', f0'', f1'', f2'', zl'']) rfl ⟨A4, d4, rfl, ⟨V_rc (laid (w0 := w) R4.out zl' _ _ _)⟩, ⟨.inl (laid (w0 := w) R4.out zl' _ _ _)⟩, ⟨HF _ _ _⟩⟩
set_option maxRecDepth 100000 in
set_option maxHeartbeats 4000000 in
theorem plus_g (s t : Bool) (A1 A2 : Option Addr) (c1 c2 : Nat) (a b : Nat) (ha0 : a ≠ 0) (hb0 : b ≠ 0) (ha : (toL a).length ≤ 4096000) (hb : (toL b).length ≤ 4096000) (hst : (s == t) = false) (hab : b ≤ a) (h1 : (toL a).length ≤ c1) (h2 : (toL b).length ≤ c2) (w : World) (r1 : u64.C w A1 (toL a).length (toL a)) (r2 : u64.C w A2 (toL b).length (toL b)) :
    Calls Try.prog 49 #[.agg #[.bool s, .slice A1 (toL a).length c1, .int .i64 0], .agg #[.bool t, .slice A2 (toL b).length c2, .int .i64 0]] w (OutW A1 A2 (toL a) (toL b) w s (toL (a - b))) := by
  have hu := Try.underlying62
  have hus := Try.underlying22
  have I0 := Aside0.mk (PlusI.start (s := s) (t := t) h1 h2 r1 r2)
  clear r1 r2
  obtain ⟨⟨⟨x0, x1, x2, xl⟩, y0, y1, y2, yl⟩, z0, z1, z2, f0, f1, f2, zl⟩ := I0.out.cells
  go_enter Try.func49, Try.ntmps49
  go_wp2_with fail
  refine (zero_t s _ _ a false (by simpa using ha0) h1 ha _ I0.out.va.row).mono ?_
  rintro e w1 ⟨rfl, b1⟩
  clear x0 x1 x2 xl y0 y1 y2 yl z0 z1 z2 f0 f1 f2 zl
  replace I0 := Aside0.mk (I0.out.below b1.out)
  clear b1
  obtain ⟨⟨⟨x0, x1, x2, xl⟩, y0, y1, y2, yl⟩, z0, z1, z2, f0, f1, f2, zl⟩ := I0.out.cells
  go_wp2_with fail
  refine (zero_t t _ _ b false (by simpa using hb0) h2 hb _ I0.out.vb.row).mono ?_
  rintro e w2 ⟨rfl, b1⟩
  clear x0 x1 x2 xl y0 y1 y2 yl z0 z1 z2 f0 f1 f2 zl
  replace I0 := Aside0.mk (I0.out.below b1.out)
  clear b1
  obtain ⟨⟨⟨x0, x1, x2, xl⟩, y0, y1, y2, yl⟩, z0, z1, z2, f0, f1, f2, zl⟩ := I0.out.cells
  have e0 : wrap64 (0 - 0) = 0 := by unfold wrap64; omega
  go_wp2_with fail
  go_region_held3 (fun w' => (w'.cell? ⟨w.heap.size, 0, none⟩ = some (.bool s) ∧ w'.cell? ⟨w.heap.size, 1, none⟩ = some (.slice A1 (toL a).length c1) ∧ w'.cell? ⟨w.heap.size, 2, none⟩ = some (.int .i64 0)) ∧ (w'.cell? ⟨w.heap.size + 1, 0, none⟩ = some (.bool t) ∧ w'.cell? ⟨w.heap.size + 1, 1, none⟩ = some (.slice A2 (toL b).length c2) ∧ w'.cell? ⟨w.heap.size + 1, 2, none⟩ = some (.int .i64 0))) (go_keep) (first | (go_at_call 73; refine (up0_t _ _ b h2 hb _ I0.out.drew.vb.row).mono ?_; rintro e w3 ⟨A3, d3, rfl, R3, b3⟩; have I3 := Aside0.mk (I0.out.drew.below b3.out); obtain ⟨⟨⟨x0', x1', x2', xl'⟩, y0', y1', y2', yl'⟩, z0', z1', z2', f0', f1', f2', zl'⟩ := I3.out.cells))
  go_wp2_with fail
  have R3c := Aside0.mk (Kd.V_reads' R3.out)
  refine (natCmp_t _ _ _ _ a b (cmpN2 a b) rfl h1 R3c.out.2.1 ha hb _ I3.out.va.row R3c.out.2.2).mono ?_
  rintro e w5 ⟨rfl, b5⟩
  have I5 := Aside0.mk (I3.out.below b5.out)
  have R5 := Aside0.mk (Kd.V_below R3.out b5.out)
  clear x0' x1' x2' xl' y0' y1' y2' yl' z0' z1' z2' f0' f1' f2' zl' I3 R3 b5 R3c
  have I3 := I5
  have R3 := R5
  clear I5 R5
  obtain ⟨⟨⟨x0', x1', x2', xl'⟩, y0', y1', y2', yl'⟩, z0', z1', z2', f0', f1', f2', zl'⟩ := I3.out.cells
  have hge : decide ((0 : Int) ≤ cmpN2 a b) = true := decide_eq_true (by unfold cmpN2; rw [if_neg (by omega)]; split <;> omega)
  go_wp2_with fail
  have ne1 : ¬ (w.heap.size = w.heap.size + 1 + 1) := by omega
  have ne2 : ¬ (w.heap.size + 1 + 1 = w.heap.size) := by omega
  have R3' := Aside0.mk (Kd.V_reads' (Kd.V_below R3.out (Below.refl _ _).drew))
  go_region_held3 (fun w' => (w'.cell? ⟨w.heap.size, 0, none⟩ = some (.bool s) ∧ w'.cell? ⟨w.heap.size, 1, none⟩ = some (.slice A1 (toL a).length c1) ∧ w'.cell? ⟨w.heap.size, 2, none⟩ = some (.int .i64 0)) ∧ (w'.cell? ⟨w.heap.size + 1, 0, none⟩ = some (.bool t) ∧ w'.cell? ⟨w.heap.size + 1, 1, none⟩ = some (.slice A2 (toL b).length c2) ∧ w'.cell? ⟨w.heap.size + 1, 2, none⟩ = some (.int .i64 0))) (go_keep) (first | (go_at_call 76; refine (natSub_t _ _ _ _ a b hab h1 R3'.out.2.1 ha hb _ I3.out.drew.va.row R3'.out.2.2).mono ?_; rintro e w4 ⟨A4, d4, rfl, R4, b4⟩; have I4 := Aside0.mk (I3.out.drew.below b4.out); obtain ⟨⟨⟨x0'', x1'', x2'', xl''⟩, y0'', y1'', y2'', yl''⟩, z0'', z1'', z2'', f0'', f1'', f2'', zl''⟩ := I4.out.cells))
  go_wp2_with fail
  have HF : ∀ u0 u1 u2 : Value, Below w.heap.size w (((w4.setCell ⟨w.heap.size + 2, 0, none⟩ u0).setCell ⟨w.heap.size + 2, 1, none⟩ u1).setCell ⟨w.heap.size + 2, 2, none⟩ u2) := fun _ _ _ => ((I4.out.b.setCell (Nat.le_add_right _ _) _).setCell (Nat.le_add_right _ _) _).setCell (Nat.le_add_right _ _) _
  refine bodyPost_ret (v := .agg #[.bool s, .slice A4 (toL (a - b)).length d4, .int .i64 0]) (by simp [results, Try.results49, go_sem, z0'', z1'', z2'', f0'', f1'', f2'', zl'']) rfl ⟨A4, d4, rfl, ⟨V_rc (laid (w0 := w) R4.out zl' _ _ _)⟩, ⟨.inl (laid (w0 := w) R4.out zl' _ _ _)⟩, ⟨HF _ _ _⟩⟩
set_option maxRecDepth 100000 in
set_option maxHeartbeats 4000000 in
theorem plus_l (s t : Bool) (A1 A2 : Option Addr) (c1 c2 : Nat) (a b : Nat) (ha0 : a ≠ 0) (hb0 : b ≠ 0) (ha : (toL a).length ≤ 4096000) (hb : (toL b).length ≤ 4096000) (hst : (s == t) = false) (hab : a < b) (h1 : (toL a).length ≤ c1) (h2 : (toL b).length ≤ c2) (w : World) (r1 : u64.C w A1 (toL a).length (toL a)) (r2 : u64.C w A2 (toL b).length (toL b)) :
    Calls Try.prog 49 #[.agg #[.bool s, .slice A1 (toL a).length c1, .int .i64 0], .agg #[.bool t, .slice A2 (toL b).length c2, .int .i64 0]] w (OutW A1 A2 (toL a) (toL b) w t (toL (b - a))) := by
  have hu := Try.underlying62
  have hus := Try.underlying22
  have I0 := Aside0.mk (PlusI.start (s := s) (t := t) h1 h2 r1 r2)
  clear r1 r2
  obtain ⟨⟨⟨x0, x1, x2, xl⟩, y0, y1, y2, yl⟩, z0, z1, z2, f0, f1, f2, zl⟩ := I0.out.cells
  go_enter Try.func49, Try.ntmps49
  go_wp2_with fail
  refine (zero_t s _ _ a false (by simpa using ha0) h1 ha _ I0.out.va.row).mono ?_
  rintro e w1 ⟨rfl, b1⟩
  clear x0 x1 x2 xl y0 y1 y2 yl z0 z1 z2 f0 f1 f2 zl
  replace I0 := Aside0.mk (I0.out.below b1.out)
  clear b1
  obtain ⟨⟨⟨x0, x1, x2, xl⟩, y0, y1, y2, yl⟩, z0, z1, z2, f0, f1, f2, zl⟩ := I0.out.cells
  go_wp2_with fail
  refine (zero_t t _ _ b false (by simpa using hb0) h2 hb _ I0.out.vb.row).mono ?_
  rintro e w2 ⟨rfl, b1⟩
  clear x0 x1 x2 xl y0 y1 y2 yl z0 z1 z2 f0 f1 f2 zl
  replace I0 := Aside0.mk (I0.out.below b1.out)
  clear b1
  obtain ⟨⟨⟨x0, x1, x2, xl⟩, y0, y1, y2, yl⟩, z0, z1, z2, f0, f1, f2, zl⟩ := I0.out.cells
  have e0 : wrap64 (0 - 0) = 0 := by unfold wrap64; omega
  go_wp2_with fail
  go_region_held3 (fun w' => (w'.cell? ⟨w.heap.size, 0, none⟩ = some (.bool s) ∧ w'.cell? ⟨w.heap.size, 1, none⟩ = some (.slice A1 (toL a).length c1) ∧ w'.cell? ⟨w.heap.size, 2, none⟩ = some (.int .i64 0)) ∧ (w'.cell? ⟨w.heap.size + 1, 0, none⟩ = some (.bool t) ∧ w'.cell? ⟨w.heap.size + 1, 1, none⟩ = some (.slice A2 (toL b).length c2) ∧ w'.cell? ⟨w.heap.size + 1, 2, none⟩ = some (.int .i64 0))) (go_keep) (first | (go_at_call 73; refine (up0_t _ _ b h2 hb _ I0.out.drew.vb.row).mono ?_; rintro e w3 ⟨A3, d3, rfl, R3, b3⟩; have I3 := Aside0.mk (I0.out.drew.below b3.out); obtain ⟨⟨⟨x0', x1', x2', xl'⟩, y0', y1', y2', yl'⟩, z0', z1', z2', f0', f1', f2', zl'⟩ := I3.out.cells))
  go_wp2_with fail
  have R3c := Aside0.mk (Kd.V_reads' R3.out)
  refine (natCmp_t _ _ _ _ a b (-1) (by unfold cmpN2; rw [if_pos hab]) h1 R3c.out.2.1 ha hb _ I3.out.va.row R3c.out.2.2).mono ?_
  rintro e w5 ⟨rfl, b5⟩
  have I5 := Aside0.mk (I3.out.below b5.out)
  have R5 := Aside0.mk (Kd.V_below R3.out b5.out)
  clear x0' x1' x2' xl' y0' y1' y2' yl' z0' z1' z2' f0' f1' f2' zl' I3 R3 b5 R3c
  have I3 := I5
  have R3 := R5
  clear I5 R5
  obtain ⟨⟨⟨x0', x1', x2', xl'⟩, y0', y1', y2', yl'⟩, z0', z1', z2', f0', f1', f2', zl'⟩ := I3.out.cells
  go_wp2_with fail
  have ne1 : ¬ (w.heap.size = w.heap.size + 1 + 1) := by omega
  have ne2 : ¬ (w.heap.size + 1 + 1 = w.heap.size) := by omega
  have R3' := Aside0.mk (Kd.V_reads' (Kd.V_below R3.out (Below.refl _ _).drew))
  go_region_held3 (fun w' => (w'.cell? ⟨w.heap.size, 0, none⟩ = some (.bool s) ∧ w'.cell? ⟨w.heap.size, 1, none⟩ = some (.slice A1 (toL a).length c1) ∧ w'.cell? ⟨w.heap.size, 2, none⟩ = some (.int .i64 0)) ∧ (w'.cell? ⟨w.heap.size + 1, 0, none⟩ = some (.bool t) ∧ w'.cell? ⟨w.heap.size + 1, 1, none⟩ = some (.slice A2 (toL b).length c2) ∧ w'.cell? ⟨w.heap.size + 1, 2, none⟩ = some (.int .i64 0))) (go_keep) (first | (go_at_call 76; refine (natSub_t _ _ _ _ b a (Nat.le_of_lt hab) R3'.out.2.1 h1 hb ha _ R3'.out.2.2 I3.out.drew.va.row).mono ?_; rintro e w4 ⟨A4, d4, rfl, R4, b4⟩; have I4 := Aside0.mk (I3.out.drew.below b4.out); obtain ⟨⟨⟨x0'', x1'', x2'', xl''⟩, y0'', y1'', y2'', yl''⟩, z0'', z1'', z2'', f0'', f1'', f2'', zl''⟩ := I4.out.cells))
  go_wp2_with fail
  have HF : ∀ u0 u1 u2 : Value, Below w.heap.size w (((w4.setCell ⟨w.heap.size + 2, 0, none⟩ u0).setCell ⟨w.heap.size + 2, 1, none⟩ u1).setCell ⟨w.heap.size + 2, 2, none⟩ u2) := fun _ _ _ => ((I4.out.b.setCell (Nat.le_add_right _ _) _).setCell (Nat.le_add_right _ _) _).setCell (Nat.le_add_right _ _) _
  refine bodyPost_ret (v := .agg #[.bool t, .slice A4 (toL (b - a)).length d4, .int .i64 0]) (by simp [results, Try.results49, go_sem, z0'', z1'', z2'', f0'', f1'', f2'', zl'']) rfl ⟨A4, d4, rfl, ⟨V_rc (laid (w0 := w) R4.out zl' _ _ _)⟩, ⟨.inl (laid (w0 := w) R4.out zl' _ _ _)⟩, ⟨HF _ _ _⟩⟩
end Go.Proofs.Ytlcjnahfahobjaa.Lb
