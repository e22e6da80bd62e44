/- limb: Compare of numbers with no power of two: the walk, read only. -/
import Derived.Test.YtlcjnahfahobjaaLbCq
namespace Go.Proofs.Ytlcjnahfahobjaa.Lb
open Go.RowKit Go.Proofs.YtlcjnahfahobjaaW.PrintWords Go.Proofs.YtlcjnahfahobjaaW.PrintLast Go.Proofs.YtlcjnahfahobjaaW.PrintMore
set_option linter.unusedVariables false
set_option linter.unusedSimpArgs false

/-- What is known in Compare: the two numbers. -/
structure CmpI (w0 w : World) (s t : Bool) (A1 A2 : Option Addr) (c1 c2 : Nat) (l m : List Int) : Prop where
  va : NW w w0.heap.size s A1 c1 l
  vb : NW w (w0.heap.size + 1) t A2 c2 m
  b : Below w0.heap.size w0 w
theorem CmpI.below {w0 w w' : World} {s t : Bool} {A1 A2 : Option Addr} {c1 c2 : Nat} {l m : List Int} (h : CmpI w0 w s t A1 A2 c1 c2 l m) (hb : Below w.heap.size w w') : CmpI w0 w' s t A1 A2 c1 c2 l m :=
  ⟨h.va.below hb, h.vb.below hb, below_then h.b h.b.size hb⟩
theorem CmpI.drew {w0 w : World} {s t : Bool} {A1 A2 : Option Addr} {c1 c2 : Nat} {l m : List Int} (h : CmpI w0 w s t A1 A2 c1 c2 l m) : CmpI w0 w.drew s t A1 A2 c1 c2 l m := h.below (Below.refl _ _).drew
theorem CmpI.start {w : World} {s t : Bool} {A1 A2 : Option Addr} {c1 c2 : Nat} {l m : List Int} (h1 : l.length ≤ c1) (h2 : m.length ≤ c2) (r1 : u64.C w A1 l.length l) (r2 : u64.C w A2 m.length m) :
    CmpI w ((w.alloc (.cells #[.bool s, .slice A1 l.length c1, .int .i64 0] 62)).alloc (.cells #[.bool t, .slice A2 m.length c2, .int .i64 0] 62)) s t A1 A2 c1 c2 l m :=
  ⟨(NW.new s c1 rfl h1 r1).alloc _, NW.new t c2 (by simp) h2 (Kd.C_alloc r2 _), ((Below.refl w.heap.size w).alloc (Nat.le_refl _) _).alloc (by simp) _⟩
theorem CmpI.cells {w0 w : World} {s t : Bool} {A1 A2 : Option Addr} {c1 c2 : Nat} {l m : List Int} (h : CmpI w0 w s t A1 A2 c1 c2 l m) :
    (w.cell? ⟨w0.heap.size, 0, none⟩ = some (.bool s) ∧ w.cell? ⟨w0.heap.size, 1, none⟩ = some (.slice A1 l.length c1) ∧ w.cell? ⟨w0.heap.size, 2, none⟩ = some (.int .i64 0) ∧ w0.heap.size < w.heap.size) ∧
    (w.cell? ⟨w0.heap.size + 1, 0, none⟩ = some (.bool t) ∧ w.cell? ⟨w0.heap.size + 1, 1, none⟩ = some (.slice A2 m.length c2) ∧ w.cell? ⟨w0.heap.size + 1, 2, none⟩ = some (.int .i64 0) ∧ w0.heap.size + 1 < w.heap.size) :=
  ⟨h.va.cells, h.vb.cells⟩
set_option maxRecDepth 100000 in
set_option maxHeartbeats 4000000 in
theorem cmp_w1 (s t : Bool) (A1 A2 : Option Addr) (c1 c2 a b : Nat) (ha : (toL a).length ≤ 4096000) (hb : (toL b).length ≤ 4096000) (u v : Int) (hu_ : cmpZ (vz s a) 0 = u) (hv_ : cmpZ (vz t b) 0 = v) (c : decide (u < v) = true) (h1 : (toL a).length ≤ c1) (h2 : (toL b).length ≤ c2) (w : World) (r1 : u64.C w A1 (toL a).length (toL a)) (r2 : u64.C w A2 (toL b).length (toL b)) :
    Calls Try.prog 42 #[.agg #[.bool s, .slice A1 (toL a).length c1, .int .i64 0], .agg #[.bool t, .slice A2 (toL b).length c2, .int .i64 0]] w (OutP2 w (.int .i64 (-1))) := by
  have hu := Try.underlying62
  have hus := Try.underlying22
  have I0 := Aside0.mk (CmpI.start (s := s) (t := t) h1 h2 r1 r2)
  clear r1 r2
  obtain ⟨⟨x0_0, x1_0, x2_0, xl_0⟩, y0_0, y1_0, y2_0, yl_0⟩ := I0.out.cells
  go_enter Try.func42, Try.ntmps42
  go_upto_region 1 with fail
  obtain ⟨W, hW⟩ : ∃ W, ((w.alloc (.cells #[.bool s, .slice A1 (toL a).length c1, .int .i64 0] 62)).alloc (.cells #[.bool t, .slice A2 (toL b).length c2, .int .i64 0] 62)) = W := ⟨_, rfl⟩
  rw [hW] at I0 x0_0 x1_0 x2_0 xl_0 y0_0 y1_0 y2_0 yl_0 ⊢
  clear hW
  go_region_held3 (fun w' => (w'.cell? ⟨w.heap.size, 0, none⟩ = some (.bool s) ∧ w'.cell? ⟨w.heap.size, 1, none⟩ = some (.slice A1 (toL a).length c1) ∧ w'.cell? ⟨w.heap.size, 2, none⟩ = some (.int .i64 0)) ∧ (w'.cell? ⟨w.heap.size + 1, 0, none⟩ = some (.bool t) ∧ w'.cell? ⟨w.heap.size + 1, 1, none⟩ = some (.slice A2 (toL b).length c2) ∧ w'.cell? ⟨w.heap.size + 1, 2, none⟩ = some (.int .i64 0))) (go_keep) (first | (go_at_call_of 68 (Value.agg #[.bool s, .slice A1 (toL a).length c1, .int .i64 0]); refine (sign_t s _ _ a u hu_ h1 ha _ I0.out.drew.va.row).mono ?_; rintro e w1 ⟨rfl, b1⟩; have I1 := Aside0.mk (I0.out.drew.below b1.out); obtain ⟨⟨x0_1, x1_1, x2_1, xl_1⟩, y0_1, y1_1, y2_1, yl_1⟩ := I1.out.cells) | (go_at_call 68; refine (sign_t t _ _ b v hv_ h2 hb _ I1.out.vb.row).mono ?_; rintro e w2 ⟨rfl, b2⟩; have I2 := Aside0.mk (I1.out.below b2.out); obtain ⟨⟨x0_2, x1_2, x2_2, xl_2⟩, y0_2, y1_2, y2_2, yl_2⟩ := I2.out.cells))
  clear hu_ hv_
  go_wp2
  go_ret
  exact ⟨by go_num, ⟨I2.out.b⟩⟩
set_option maxRecDepth 100000 in
set_option maxHeartbeats 4000000 in
theorem cmp_w2 (s t : Bool) (A1 A2 : Option Addr) (c1 c2 a b : Nat) (ha : (toL a).length ≤ 4096000) (hb : (toL b).length ≤ 4096000) (u v : Int) (hu_ : cmpZ (vz s a) 0 = u) (hv_ : cmpZ (vz t b) 0 = v) (c : decide (u < v) = false) (d : decide (v < u) = true) (h1 : (toL a).length ≤ c1) (h2 : (toL b).length ≤ c2) (w : World) (r1 : u64.C w A1 (toL a).length (toL a)) (r2 : u64.C w A2 (toL b).length (toL b)) :
    Calls Try.prog 42 #[.agg #[.bool s, .slice A1 (toL a).length c1, .int .i64 0], .agg #[.bool t, .slice A2 (toL b).length c2, .int .i64 0]] w (OutP2 w (.int .i64 1)) := by
  have hu := Try.underlying62
  have hus := Try.underlying22
  have I0 := Aside0.mk (CmpI.start (s := s) (t := t) h1 h2 r1 r2)
  clear r1 r2
  obtain ⟨⟨x0_0, x1_0, x2_0, xl_0⟩, y0_0, y1_0, y2_0, yl_0⟩ := I0.out.cells
  go_enter Try.func42, Try.ntmps42
  go_upto_region 1 with fail
  obtain ⟨W, hW⟩ : ∃ W, ((w.alloc (.cells #[.bool s, .slice A1 (toL a).length c1, .int .i64 0] 62)).alloc (.cells #[.bool t, .slice A2 (toL b).length c2, .int .i64 0] 62)) = W := ⟨_, rfl⟩
  rw [hW] at I0 x0_0 x1_0 x2_0 xl_0 y0_0 y1_0 y2_0 yl_0 ⊢
  clear hW
  go_region_held3 (fun w' => (w'.cell? ⟨w.heap.size, 0, none⟩ = some (.bool s) ∧ w'.cell? ⟨w.heap.size, 1, none⟩ = some (.slice A1 (toL a).length c1) ∧ w'.cell? ⟨w.heap.size, 2, none⟩ = some (.int .i64 0)) ∧ (w'.cell? ⟨w.heap.size + 1, 0, none⟩ = some (.bool t) ∧ w'.cell? ⟨w.heap.size + 1, 1, none⟩ = some (.slice A2 (toL b).length c2) ∧ w'.cell? ⟨w.heap.size + 1, 2, none⟩ = some (.int .i64 0))) (go_keep) (first | (go_at_call_of 68 (Value.agg #[.bool s, .slice A1 (toL a).length c1, .int .i64 0]); refine (sign_t s _ _ a u hu_ h1 ha _ I0.out.drew.va.row).mono ?_; rintro e w1 ⟨rfl, b1⟩; have I1 := Aside0.mk (I0.out.drew.below b1.out); obtain ⟨⟨x0_1, x1_1, x2_1, xl_1⟩, y0_1, y1_1, y2_1, yl_1⟩ := I1.out.cells) | (go_at_call 68; refine (sign_t t _ _ b v hv_ h2 hb _ I1.out.vb.row).mono ?_; rintro e w2 ⟨rfl, b2⟩; have I2 := Aside0.mk (I1.out.below b2.out); obtain ⟨⟨x0_2, x1_2, x2_2, xl_2⟩, y0_2, y1_2, y2_2, yl_2⟩ := I2.out.cells))
  clear hu_ hv_
  go_wp2
  go_ret
  exact ⟨by go_num, ⟨I2.out.b⟩⟩
set_option maxRecDepth 100000 in
set_option maxHeartbeats 4000000 in
theorem cmp_w3 (s t : Bool) (A1 A2 : Option Addr) (c1 c2 a b : Nat) (ha : (toL a).length ≤ 4096000) (hb : (toL b).length ≤ 4096000) (u v : Int) (hu_ : cmpZ (vz s a) 0 = u) (hv_ : cmpZ (vz t b) 0 = v) (c : decide (u < v) = false) (d : decide (v < u) = false) (e0 : (u == 0) = true) (h1 : (toL a).length ≤ c1) (h2 : (toL b).length ≤ c2) (w : World) (r1 : u64.C w A1 (toL a).length (toL a)) (r2 : u64.C w A2 (toL b).length (toL b)) :
    Calls Try.prog 42 #[.agg #[.bool s, .slice A1 (toL a).length c1, .int .i64 0], .agg #[.bool t, .slice A2 (toL b).length c2, .int .i64 0]] w (OutP2 w (.int .i64 0)) := by
  have hu := Try.underlying62
  have hus := Try.underlying22
  have I0 := Aside0.mk (CmpI.start (s := s) (t := t) h1 h2 r1 r2)
  clear r1 r2
  obtain ⟨⟨x0_0, x1_0, x2_0, xl_0⟩, y0_0, y1_0, y2_0, yl_0⟩ := I0.out.cells
  go_enter Try.func42, Try.ntmps42
  go_upto_region 1 with fail
  obtain ⟨W, hW⟩ : ∃ W, ((w.alloc (.cells #[.bool s, .slice A1 (toL a).length c1, .int .i64 0] 62)).alloc (.cells #[.bool t, .slice A2 (toL b).length c2, .int .i64 0] 62)) = W := ⟨_, rfl⟩
  rw [hW] at I0 x0_0 x1_0 x2_0 xl_0 y0_0 y1_0 y2_0 yl_0 ⊢
  clear hW
  go_region_held3 (fun w' => (w'.cell? ⟨w.heap.size, 0, none⟩ = some (.bool s) ∧ w'.cell? ⟨w.heap.size, 1, none⟩ = some (.slice A1 (toL a).length c1) ∧ w'.cell? ⟨w.heap.size, 2, none⟩ = some (.int .i64 0)) ∧ (w'.cell? ⟨w.heap.size + 1, 0, none⟩ = some (.bool t) ∧ w'.cell? ⟨w.heap.size + 1, 1, none⟩ = some (.slice A2 (toL b).length c2) ∧ w'.cell? ⟨w.heap.size + 1, 2, none⟩ = some (.int .i64 0))) (go_keep) (first | (go_at_call_of 68 (Value.agg #[.bool s, .slice A1 (toL a).length c1, .int .i64 0]); refine (sign_t s _ _ a u hu_ h1 ha _ I0.out.drew.va.row).mono ?_; rintro e w1 ⟨rfl, b1⟩; have I1 := Aside0.mk (I0.out.drew.below b1.out); obtain ⟨⟨x0_1, x1_1, x2_1, xl_1⟩, y0_1, y1_1, y2_1, yl_1⟩ := I1.out.cells) | (go_at_call 68; refine (sign_t t _ _ b v hv_ h2 hb _ I1.out.vb.row).mono ?_; rintro e w2 ⟨rfl, b2⟩; have I2 := Aside0.mk (I1.out.below b2.out); obtain ⟨⟨x0_2, x1_2, x2_2, xl_2⟩, y0_2, y1_2, y2_2, yl_2⟩ := I2.out.cells))
  clear hu_ hv_
  go_wp2
  go_ret
  exact ⟨by go_num, ⟨I2.out.b⟩⟩
set_option maxRecDepth 100000 in
set_option maxHeartbeats 4000000 in
theorem cmp_w4 (s t : Bool) (A1 A2 : Option Addr) (c1 c2 a b : Nat) (ha : (toL a).length ≤ 4096000) (hb : (toL b).length ≤ 4096000) (u v : Int) (hu_ : cmpZ (vz s a) 0 = u) (hv_ : cmpZ (vz t b) 0 = v) (c : decide (u < v) = false) (d : decide (v < u) = false) (e0 : (u == 0) = false) (p q : Int) (hp : ((bitN a : Nat) : Int) = p) (hq : ((bitN b : Nat) : Int) = q) (f : decide (p < q) = true) (r : Int) (hr : wrap64 (-u) = r) (h1 : (toL a).length ≤ c1) (h2 : (toL b).length ≤ c2) (w : World) (r1 : u64.C w A1 (toL a).length (toL a)) (r2 : u64.C w A2 (toL b).length (toL b)) :
    Calls Try.prog 42 #[.agg #[.bool s, .slice A1 (toL a).length c1, .int .i64 0], .agg #[.bool t, .slice A2 (toL b).length c2, .int .i64 0]] w (OutP2 w (.int .i64 r)) := by
  have hu := Try.underlying62
  have hus := Try.underlying22
  have I0 := Aside0.mk (CmpI.start (s := s) (t := t) h1 h2 r1 r2)
  clear r1 r2
  obtain ⟨⟨x0_0, x1_0, x2_0, xl_0⟩, y0_0, y1_0, y2_0, yl_0⟩ := I0.out.cells
  go_enter Try.func42, Try.ntmps42
  go_upto_region 1 with fail
  obtain ⟨W, hW⟩ : ∃ W, ((w.alloc (.cells #[.bool s, .slice A1 (toL a).length c1, .int .i64 0] 62)).alloc (.cells #[.bool t, .slice A2 (toL b).length c2, .int .i64 0] 62)) = W := ⟨_, rfl⟩
  rw [hW] at I0 x0_0 x1_0 x2_0 xl_0 y0_0 y1_0 y2_0 yl_0 ⊢
  clear hW
  go_region_held3 (fun w' => (w'.cell? ⟨w.heap.size, 0, none⟩ = some (.bool s) ∧ w'.cell? ⟨w.heap.size, 1, none⟩ = some (.slice A1 (toL a).length c1) ∧ w'.cell? ⟨w.heap.size, 2, none⟩ = some (.int .i64 0)) ∧ (w'.cell? ⟨w.heap.size + 1, 0, none⟩ = some (.bool t) ∧ w'.cell? ⟨w.heap.size + 1, 1, none⟩ = some (.slice A2 (toL b).length c2) ∧ w'.cell? ⟨w.heap.size + 1, 2, none⟩ = some (.int .i64 0))) (go_keep) (first | (go_at_call_of 68 (Value.agg #[.bool s, .slice A1 (toL a).length c1, .int .i64 0]); refine (sign_t s _ _ a u hu_ h1 ha _ I0.out.drew.va.row).mono ?_; rintro e w1 ⟨rfl, b1⟩; have I1 := Aside0.mk (I0.out.drew.below b1.out); obtain ⟨⟨x0_1, x1_1, x2_1, xl_1⟩, y0_1, y1_1, y2_1, yl_1⟩ := I1.out.cells) | (go_at_call 68; refine (sign_t t _ _ b v hv_ h2 hb _ I1.out.vb.row).mono ?_; rintro e w2 ⟨rfl, b2⟩; have I2 := Aside0.mk (I1.out.below b2.out); obtain ⟨⟨x0_2, x1_2, x2_2, xl_2⟩, y0_2, y1_2, y2_2, yl_2⟩ := I2.out.cells))
  clear hu_ hv_
  go_wp2_with fail
  have I2c := I2
  go_region_held3 (fun w' => (w'.cell? ⟨w.heap.size, 0, none⟩ = some (.bool s) ∧ w'.cell? ⟨w.heap.size, 1, none⟩ = some (.slice A1 (toL a).length c1) ∧ w'.cell? ⟨w.heap.size, 2, none⟩ = some (.int .i64 0)) ∧ (w'.cell? ⟨w.heap.size + 1, 0, none⟩ = some (.bool t) ∧ w'.cell? ⟨w.heap.size + 1, 1, none⟩ = some (.slice A2 (toL b).length c2) ∧ w'.cell? ⟨w.heap.size + 1, 2, none⟩ = some (.int .i64 0))) (go_keep) (first | (go_at_call_of 69 (Value.agg #[.bool s, .slice A1 (toL a).length c1, .int .i64 0]); refine (top_t s _ _ a p hp h1 ha _ I2.out.drew.va.row).mono ?_; rintro e w3 ⟨rfl, b3⟩; have I3 := Aside0.mk (I2.out.drew.below b3.out); obtain ⟨⟨x0_3, x1_3, x2_3, xl_3⟩, y0_3, y1_3, y2_3, yl_3⟩ := I3.out.cells) | (go_at_call 69; refine (top_t t _ _ b q hq h2 hb _ I3.out.vb.row).mono ?_; rintro e w4 ⟨rfl, b4⟩; have I4 := Aside0.mk (I3.out.below b4.out); obtain ⟨⟨x0_4, x1_4, x2_4, xl_4⟩, y0_4, y1_4, y2_4, yl_4⟩ := I4.out.cells))
  go_wp2
  go_ret
  exact ⟨by go_num, ⟨I4.out.b⟩⟩
set_option maxRecDepth 100000 in
set_option maxHeartbeats 4000000 in
theorem cmp_w5 (s t : Bool) (A1 A2 : Option Addr) (c1 c2 a b : Nat) (ha : (toL a).length ≤ 4096000) (hb : (toL b).length ≤ 4096000) (u v : Int) (hu_ : cmpZ (vz s a) 0 = u) (hv_ : cmpZ (vz t b) 0 = v) (c : decide (u < v) = false) (d : decide (v < u) = false) (e0 : (u == 0) = false) (p q : Int) (hp : ((bitN a : Nat) : Int) = p) (hq : ((bitN b : Nat) : Int) = q) (f : decide (p < q) = false) (g : decide (q < p) = true) (h1 : (toL a).length ≤ c1) (h2 : (toL b).length ≤ c2) (w : World) (r1 : u64.C w A1 (toL a).length (toL a)) (r2 : u64.C w A2 (toL b).length (toL b)) :
    Calls Try.prog 42 #[.agg #[.bool s, .slice A1 (toL a).length c1, .int .i64 0], .agg #[.bool t, .slice A2 (toL b).length c2, .int .i64 0]] w (OutP2 w (.int .i64 u)) := by
  have hu := Try.underlying62
  have hus := Try.underlying22
  have I0 := Aside0.mk (CmpI.start (s := s) (t := t) h1 h2 r1 r2)
  clear r1 r2
  obtain ⟨⟨x0_0, x1_0, x2_0, xl_0⟩, y0_0, y1_0, y2_0, yl_0⟩ := I0.out.cells
  go_enter Try.func42, Try.ntmps42
  go_upto_region 1 with fail
  obtain ⟨W, hW⟩ : ∃ W, ((w.alloc (.cells #[.bool s, .slice A1 (toL a).length c1, .int .i64 0] 62)).alloc (.cells #[.bool t, .slice A2 (toL b).length c2, .int .i64 0] 62)) = W := ⟨_, rfl⟩
  rw [hW] at I0 x0_0 x1_0 x2_0 xl_0 y0_0 y1_0 y2_0 yl_0 ⊢
  clear hW
  go_region_held3 (fun w' => (w'.cell? ⟨w.heap.size, 0, none⟩ = some (.bool s) ∧ w'.cell? ⟨w.heap.size, 1, none⟩ = some (.slice A1 (toL a).length c1) ∧ w'.cell? ⟨w.heap.size, 2, none⟩ = some (.int .i64 0)) ∧ (w'.cell? ⟨w.heap.size + 1, 0, none⟩ = some (.bool t) ∧ w'.cell? ⟨w.heap.size + 1, 1, none⟩ = some (.slice A2 (toL b).length c2) ∧ w'.cell? ⟨w.heap.size + 1, 2, none⟩ = some (.int .i64 0))) (go_keep) (first | (go_at_call_of 68 (Value.agg #[.bool s, .slice A1 (toL a).length c1, .int .i64 0]); refine (sign_t s _ _ a u hu_ h1 ha _ I0.out.drew.va.row).mono ?_; rintro e w1 ⟨rfl, b1⟩; have I1 := Aside0.mk (I0.out.drew.below b1.out); obtain ⟨⟨x0_1, x1_1, x2_1, xl_1⟩, y0_1, y1_1, y2_1, yl_1⟩ := I1.out.cells) | (go_at_call 68; refine (sign_t t _ _ b v hv_ h2 hb _ I1.out.vb.row).mono ?_; rintro e w2 ⟨rfl, b2⟩; have I2 := Aside0.mk (I1.out.below b2.out); obtain ⟨⟨x0_2, x1_2, x2_2, xl_2⟩, y0_2, y1_2, y2_2, yl_2⟩ := I2.out.cells))
  clear hu_ hv_
  go_wp2_with fail
  have I2c := I2
  go_region_held3 (fun w' => (w'.cell? ⟨w.heap.size, 0, none⟩ = some (.bool s) ∧ w'.cell? ⟨w.heap.size, 1, none⟩ = some (.slice A1 (toL a).length c1) ∧ w'.cell? ⟨w.heap.size, 2, none⟩ = some (.int .i64 0)) ∧ (w'.cell? ⟨w.heap.size + 1, 0, none⟩ = some (.bool t) ∧ w'.cell? ⟨w.heap.size + 1, 1, none⟩ = some (.slice A2 (toL b).length c2) ∧ w'.cell? ⟨w.heap.size + 1, 2, none⟩ = some (.int .i64 0))) (go_keep) (first | (go_at_call_of 69 (Value.agg #[.bool s, .slice A1 (toL a).length c1, .int .i64 0]); refine (top_t s _ _ a p hp h1 ha _ I2.out.drew.va.row).mono ?_; rintro e w3 ⟨rfl, b3⟩; have I3 := Aside0.mk (I2.out.drew.below b3.out); obtain ⟨⟨x0_3, x1_3, x2_3, xl_3⟩, y0_3, y1_3, y2_3, yl_3⟩ := I3.out.cells) | (go_at_call 69; refine (top_t t _ _ b q hq h2 hb _ I3.out.vb.row).mono ?_; rintro e w4 ⟨rfl, b4⟩; have I4 := Aside0.mk (I3.out.below b4.out); obtain ⟨⟨x0_4, x1_4, x2_4, xl_4⟩, y0_4, y1_4, y2_4, yl_4⟩ := I4.out.cells))
  go_wp2_with fail
  go_region_held3 (fun w' => (w'.cell? ⟨w.heap.size, 0, none⟩ = some (.bool s) ∧ w'.cell? ⟨w.heap.size, 1, none⟩ = some (.slice A1 (toL a).length c1) ∧ w'.cell? ⟨w.heap.size, 2, none⟩ = some (.int .i64 0)) ∧ (w'.cell? ⟨w.heap.size + 1, 0, none⟩ = some (.bool t) ∧ w'.cell? ⟨w.heap.size + 1, 1, none⟩ = some (.slice A2 (toL b).length c2) ∧ w'.cell? ⟨w.heap.size + 1, 2, none⟩ = some (.int .i64 0))) (go_keep) (first | (go_at_call_of 69 (Value.agg #[.bool s, .slice A1 (toL a).length c1, .int .i64 0]); refine (top_t s _ _ a p hp h1 ha _ I4.out.drew.va.row).mono ?_; rintro e w5 ⟨rfl, b5⟩; have I5 := Aside0.mk (I4.out.drew.below b5.out); obtain ⟨⟨x0_5, x1_5, x2_5, xl_5⟩, y0_5, y1_5, y2_5, yl_5⟩ := I5.out.cells) | (go_at_call 69; refine (top_t t _ _ b q hq h2 hb _ I5.out.vb.row).mono ?_; rintro e w6 ⟨rfl, b6⟩; have I6 := Aside0.mk (I5.out.below b6.out); obtain ⟨⟨x0_6, x1_6, x2_6, xl_6⟩, y0_6, y1_6, y2_6, yl_6⟩ := I6.out.cells))
  go_wp2
  go_ret
  exact ⟨by go_num, ⟨I6.out.b⟩⟩
set_option maxRecDepth 100000 in
set_option maxHeartbeats 4000000 in
theorem cmp_w6 (s t : Bool) (A1 A2 : Option Addr) (c1 c2 a b : Nat) (ha : (toL a).length ≤ 4096000) (hb : (toL b).length ≤ 4096000) (u v : Int) (hu_ : cmpZ (vz s a) 0 = u) (hv_ : cmpZ (vz t b) 0 = v) (c : decide (u < v) = false) (d : decide (v < u) = false) (e0 : (u == 0) = false) (p q : Int) (hp : ((bitN a : Nat) : Int) = p) (hq : ((bitN b : Nat) : Int) = q) (f : decide (p < q) = false) (g : decide (q < p) = false) (σ : Bool) (n : Nat) (r : Int) (hn : (toL n).length ≤ 4096000) (hr : cmpZ (vz σ n) 0 = r) (hL : ∀ (A1 A2 : Option Addr) (c1 c2 : Nat) (w : World), (toL a).length ≤ c1 → (toL b).length ≤ c2 → u64.C w A1 (toL a).length (toL a) → u64.C w A2 (toL b).length (toL b) → Calls Try.prog 50 #[.agg #[.bool s, .slice A1 (toL a).length c1, .int .i64 0], .agg #[.bool t, .slice A2 (toL b).length c2, .int .i64 0]] w (OutX w σ (toL n))) (h1 : (toL a).length ≤ c1) (h2 : (toL b).length ≤ c2) (w : World) (r1 : u64.C w A1 (toL a).length (toL a)) (r2 : u64.C w A2 (toL b).length (toL b)) :
    Calls Try.prog 42 #[.agg #[.bool s, .slice A1 (toL a).length c1, .int .i64 0], .agg #[.bool t, .slice A2 (toL b).length c2, .int .i64 0]] w (OutP2 w (.int .i64 r)) := by
  have hu := Try.underlying62
  have hus := Try.underlying22
  have I0 := Aside0.mk (CmpI.start (s := s) (t := t) h1 h2 r1 r2)
  clear r1 r2
  obtain ⟨⟨x0_0, x1_0, x2_0, xl_0⟩, y0_0, y1_0, y2_0, yl_0⟩ := I0.out.cells
  go_enter Try.func42, Try.ntmps42
  go_upto_region 1 with fail
  obtain ⟨W, hW⟩ : ∃ W, ((w.alloc (.cells #[.bool s, .slice A1 (toL a).length c1, .int .i64 0] 62)).alloc (.cells #[.bool t, .slice A2 (toL b).length c2, .int .i64 0] 62)) = W := ⟨_, rfl⟩
  rw [hW] at I0 x0_0 x1_0 x2_0 xl_0 y0_0 y1_0 y2_0 yl_0 ⊢
  clear hW
  go_region_held3 (fun w' => (w'.cell? ⟨w.heap.size, 0, none⟩ = some (.bool s) ∧ w'.cell? ⟨w.heap.size, 1, none⟩ = some (.slice A1 (toL a).length c1) ∧ w'.cell? ⟨w.heap.size, 2, none⟩ = some (.int .i64 0)) ∧ (w'.cell? ⟨w.heap.size + 1, 0, none⟩ = some (.bool t) ∧ w'.cell? ⟨w.heap.size + 1, 1, none⟩ = some (.slice A2 (toL b).length c2) ∧ w'.cell? ⟨w.heap.size + 1, 2, none⟩ = some (.int .i64 0))) (go_keep) (first | (go_at_call_of 68 (Value.agg #[.bool s, .slice A1 (toL a).length c1, .int .i64 0]); refine (sign_t s _ _ a u hu_ h1 ha _ I0.out.drew.va.row).mono ?_; rintro e w1 ⟨rfl, b1⟩; have I1 := Aside0.mk (I0.out.drew.below b1.out); obtain ⟨⟨x0_1, x1_1, x2_1, xl_1⟩, y0_1, y1_1, y2_1, yl_1⟩ := I1.out.cells) | (go_at_call 68; refine (sign_t t _ _ b v hv_ h2 hb _ I1.out.vb.row).mono ?_; rintro e w2 ⟨rfl, b2⟩; have I2 := Aside0.mk (I1.out.below b2.out); obtain ⟨⟨x0_2, x1_2, x2_2, xl_2⟩, y0_2, y1_2, y2_2, yl_2⟩ := I2.out.cells))
  clear hu_ hv_
  go_wp2_with fail
  have I2c := I2
  go_region_held3 (fun w' => (w'.cell? ⟨w.heap.size, 0, none⟩ = some (.bool s) ∧ w'.cell? ⟨w.heap.size, 1, none⟩ = some (.slice A1 (toL a).length c1) ∧ w'.cell? ⟨w.heap.size, 2, none⟩ = some (.int .i64 0)) ∧ (w'.cell? ⟨w.heap.size + 1, 0, none⟩ = some (.bool t) ∧ w'.cell? ⟨w.heap.size + 1, 1, none⟩ = some (.slice A2 (toL b).length c2) ∧ w'.cell? ⟨w.heap.size + 1, 2, none⟩ = some (.int .i64 0))) (go_keep) (first | (go_at_call_of 69 (Value.agg #[.bool s, .slice A1 (toL a).length c1, .int .i64 0]); refine (top_t s _ _ a p hp h1 ha _ I2.out.drew.va.row).mono ?_; rintro e w3 ⟨rfl, b3⟩; have I3 := Aside0.mk (I2.out.drew.below b3.out); obtain ⟨⟨x0_3, x1_3, x2_3, xl_3⟩, y0_3, y1_3, y2_3, yl_3⟩ := I3.out.cells) | (go_at_call 69; refine (top_t t _ _ b q hq h2 hb _ I3.out.vb.row).mono ?_; rintro e w4 ⟨rfl, b4⟩; have I4 := Aside0.mk (I3.out.below b4.out); obtain ⟨⟨x0_4, x1_4, x2_4, xl_4⟩, y0_4, y1_4, y2_4, yl_4⟩ := I4.out.cells))
  go_wp2_with fail
  go_region_held3 (fun w' => (w'.cell? ⟨w.heap.size, 0, none⟩ = some (.bool s) ∧ w'.cell? ⟨w.heap.size, 1, none⟩ = some (.slice A1 (toL a).length c1) ∧ w'.cell? ⟨w.heap.size, 2, none⟩ = some (.int .i64 0)) ∧ (w'.cell? ⟨w.heap.size + 1, 0, none⟩ = some (.bool t) ∧ w'.cell? ⟨w.heap.size + 1, 1, none⟩ = some (.slice A2 (toL b).length c2) ∧ w'.cell? ⟨w.heap.size + 1, 2, none⟩ = some (.int .i64 0))) (go_keep) (first | (go_at_call_of 69 (Value.agg #[.bool s, .slice A1 (toL a).length c1, .int .i64 0]); refine (top_t s _ _ a p hp h1 ha _ I4.out.drew.va.row).mono ?_; rintro e w5 ⟨rfl, b5⟩; have I5 := Aside0.mk (I4.out.drew.below b5.out); obtain ⟨⟨x0_5, x1_5, x2_5, xl_5⟩, y0_5, y1_5, y2_5, yl_5⟩ := I5.out.cells) | (go_at_call 69; refine (top_t t _ _ b q hq h2 hb _ I5.out.vb.row).mono ?_; rintro e w6 ⟨rfl, b6⟩; have I6 := Aside0.mk (I5.out.below b6.out); obtain ⟨⟨x0_6, x1_6, x2_6, xl_6⟩, y0_6, y1_6, y2_6, yl_6⟩ := I6.out.cells))
  go_wp2_with fail
  refine (hL _ _ _ _ _ h1 h2 I6.out.va.row I6.out.vb.row).mono ?_
  rintro e w7 ⟨A7, d7, rfl, R7, b7⟩
  have I7 := Aside0.mk (I6.out.below b7.out)
  go_wp2_with fail
  refine (sign_t σ _ _ n r hr R7.out.1 hn _ R7.out.2).mono ?_
  rintro e w8 ⟨rfl, b8⟩
  have I8 := Aside0.mk (I7.out.below b8.out)
  go_wp2
  go_ret
  exact ⟨by go_num, ⟨I8.out.b⟩⟩
theorem compare_w (s t : Bool) (A1 A2 : Option Addr) (c1 c2 a b : Nat) (z : Int) (hz : cmpZ (vz s a) (vz t b) = z) (ha : (toL a).length ≤ 40960) (hb : (toL b).length ≤ 40960) (h1 : (toL a).length ≤ c1) (h2 : (toL b).length ≤ c2) (w : World) (r1 : u64.C w A1 (toL a).length (toL a)) (r2 : u64.C w A2 (toL b).length (toL b)) :
    Calls Try.prog 42 #[.agg #[.bool s, .slice A1 (toL a).length c1, .int .i64 0], .agg #[.bool t, .slice A2 (toL b).length c2, .int .i64 0]] w (OutP2 w (.int .i64 z)) := by
  subst hz
  obtain ⟨σ, n, e1, e2, hL⟩ := less_w s t a b (by omega) (by omega)
  have hn := sum_len ha hb e2
  have za := vz_abs s a
  have zb := vz_abs t b
  have m1 : bitN a < bitN b → a < b := bitN_mono
  have m2 : bitN b < bitN a → b < a := bitN_mono
  have eab : cmpZ (vz σ n) 0 = cmpZ (vz s a) (vz t b) := by
    rw [e1]
    unfold cmpZ
    have c1 : (vz s a - vz t b < 0) = (vz s a < vz t b) := propext (by omega)
    have c2 : (vz s a - vz t b = 0) = (vz s a = vz t b) := propext (by omega)
    simp only [c1, c2]
  have W1 := cmp_w1 s t A1 A2 c1 c2 a b (by omega) (by omega) _ _ rfl rfl
  have W2 := cmp_w2 s t A1 A2 c1 c2 a b (by omega) (by omega) _ _ rfl rfl
  have W3 := cmp_w3 s t A1 A2 c1 c2 a b (by omega) (by omega) _ _ rfl rfl
  have W4 := cmp_w4 s t A1 A2 c1 c2 a b (by omega) (by omega) _ _ rfl rfl
  have W5 := cmp_w5 s t A1 A2 c1 c2 a b (by omega) (by omega) _ _ rfl rfl
  have W6 := cmp_w6 s t A1 A2 c1 c2 a b (by omega) (by omega) _ _ rfl rfl
  obtain ⟨x, hx⟩ : ∃ x, vz s a = x := ⟨_, rfl⟩
  obtain ⟨y, hy⟩ : ∃ y, vz t b = y := ⟨_, rfl⟩
  rw [hx] at za eab W1 W2 W3 W4 W5 W6 ⊢
  rw [hy] at zb eab W1 W2 W3 W4 W5 W6 ⊢
  clear hx hy e1
  have cx : x < 0 ∧ cmpZ x 0 = -1 ∨ x = 0 ∧ cmpZ x 0 = 0 ∨ 0 < x ∧ cmpZ x 0 = 1 := by
    rcases (by omega : x < 0 ∨ x = 0 ∨ 0 < x) with h | h | h
    · exact .inl ⟨h, cmpZ_lt h⟩
    · exact .inr (.inl ⟨h, cmpZ_eq h⟩)
    · exact .inr (.inr ⟨h, cmpZ_gt h⟩)
  have cy : y < 0 ∧ cmpZ y 0 = -1 ∨ y = 0 ∧ cmpZ y 0 = 0 ∨ 0 < y ∧ cmpZ y 0 = 1 := by
    rcases (by omega : y < 0 ∨ y = 0 ∨ 0 < y) with h | h | h
    · exact .inl ⟨h, cmpZ_lt h⟩
    · exact .inr (.inl ⟨h, cmpZ_eq h⟩)
    · exact .inr (.inr ⟨h, cmpZ_gt h⟩)
  obtain ⟨u, hu⟩ : ∃ u, cmpZ x 0 = u := ⟨_, rfl⟩
  obtain ⟨v, hv⟩ : ∃ v, cmpZ y 0 = v := ⟨_, rfl⟩
  rw [hu] at cx W1 W2 W3 W4 W5 W6
  rw [hv] at cy W1 W2 W3 W4 W5 W6
  by_cases k1 : u < v
  · rw [cmpZ_lt (by omega)]
    exact W1 (decide_eq_true k1) h1 h2 w r1 r2
  by_cases k2 : v < u
  · rw [cmpZ_gt (by omega)]
    exact W2 (decide_eq_false k1) (decide_eq_true k2) h1 h2 w r1 r2
  by_cases k3 : u = 0
  · rw [cmpZ_eq (by omega)]
    exact W3 (decide_eq_false k1) (decide_eq_false k2) (beq_iff_eq.mpr k3) h1 h2 w r1 r2
  have k3b : (u == 0) = false := beq_eq_false_iff_ne.mpr k3
  by_cases k4 : bitN a < bitN b
  · have := m1 k4
    have hw : wrap64 (-u) = cmpZ x y := by
      rcases cx with ⟨p, q⟩ | ⟨p, q⟩ | ⟨p, q⟩
      · rw [cmpZ_gt (by omega)]; unfold wrap64; omega
      · omega
      · rw [cmpZ_lt (by omega)]; unfold wrap64; omega
    exact W4 (decide_eq_false k1) (decide_eq_false k2) k3b _ _ rfl rfl (decide_eq_true (by omega)) _ hw h1 h2 w r1 r2
  by_cases k5 : bitN b < bitN a
  · have := m2 k5
    have hw : u = cmpZ x y := by
      rcases cx with ⟨p, q⟩ | ⟨p, q⟩ | ⟨p, q⟩
      · rw [cmpZ_lt (by omega)]; omega
      · omega
      · rw [cmpZ_gt (by omega)]; omega
    rw [← hw]
    exact W5 (decide_eq_false k1) (decide_eq_false k2) k3b _ _ rfl rfl (decide_eq_false (by omega)) (decide_eq_true (by omega)) h1 h2 w r1 r2
  · exact W6 (decide_eq_false k1) (decide_eq_false k2) k3b _ _ rfl rfl (decide_eq_false (by omega)) (decide_eq_false (by omega)) σ n _ (by omega) eab hL h1 h2 w r1 r2
end Go.Proofs.Ytlcjnahfahobjaa.Lb
