/- limb: the document's Small: the walk. -/
import Derived.Test.YtlcjnahfahobjaaLbCr
import Derived.Test.YtlcjnahfahobjaaLbLe
import Derived.Test.YtlcjnahfahobjaaLbPe
namespace Go.Proofs.Ytlcjnahfahobjaa.Lb
open Go.RowKit Go.Proofs.YtlcjnahfahobjaaW.PrintWords Go.Proofs.YtlcjnahfahobjaaW.PrintLast Go.Proofs.YtlcjnahfahobjaaW.PrintMore
set_option linter.unusedVariables false
set_option linter.unusedSimpArgs false

theorem rightR_t (s : Bool) (A : Option Addr) (c : Nat) (l : List Int) (v : Bool) (hv : rightB s l = v) (hc : l.length ≤ c) (hm : l.length ≤ 17592186043904) (w : World) (h : u64.C w A l.length l) :
    Calls Try.prog 37 #[.agg #[.bool s, .slice A l.length c]] w (OutP2 w (.bool v)) := by
  subst hv
  exact (PD.rosetteref00_RightInt.calls s A c l _ w h hc (rref_f s l (by omega))).mono fun e w' h => ⟨h.1, ⟨h.2⟩⟩
theorem outX_R {w w' : World} {s : Bool} {R : List Int} {e : Ending} {b : Nat} {ok : Nat → Prop} (h : ∃ v : Value, e = .returned (.agg #[.bool s, v, .int .i64 0]) ∧ Kd.R u64 50 w' b ok v R ∧ Below w.heap.size w w') : OutX w s R e w' := by
  obtain ⟨v, rfl, hR, hb⟩ := h
  obtain ⟨A, c, rfl⟩ := Kd.R_slice hR
  have h2 := Kd.R_reads' hR
  exact ⟨A, c, rfl, ⟨⟨h2.2.1, h2.2.2⟩⟩, ⟨hb⟩⟩
theorem int_t (s : Bool) (A : Option Addr) (c : Nat) (l : List Int) (v : Nat) (hv : nv l = v) (ol : okL l) (hc : l.length ≤ c) (hm : l.length ≤ 4096) (w : World) (h : u64.C w A l.length l) :
    Calls Try.prog 43 #[.agg #[.bool s, .slice A l.length c]] w (OutX w s (toL v)) := by
  subst hv
  exact (PD.rosetteref00_Int.calls s A c l _ _ _ w h hc (int_f s l ol (by omega))).mono fun e w' h => outX_R h
theorem whole_f (n : Int) (h0 : -9223372036854775808 ≤ n) (h1 : n ≤ 9223372036854775807) : PD.rosetteref00_Whole.f n = some (decide (n < 0), toL n.natAbs, 0) := by
  unfold PD.rosetteref00_Whole.f PD.rosetteref00_NatOf.f
  have ok1 : okL [(n.natAbs : Int)] := by rw [okL_cons]; exact ⟨by omega, okL_nil⟩
  have e1 : nv [(n.natAbs : Int)] = n.natAbs := by simp [nv]
  by_cases h : n < 0
  · rw [if_pos h, u64_of_neg n h0 h, trim_f _ ok1 (by simp), Option.bind_some, Option.bind_some, e1]
  · rw [if_neg h, u64_of_pos n h1 h, trim_f _ ok1 (by simp), Option.bind_some, Option.bind_some, e1]
theorem whole_t (n : Int) (h0 : -9223372036854775808 ≤ n) (h1 : n ≤ 9223372036854775807) (d : Bool) (hd : decide (n < 0) = d) (m : Nat) (hm : n.natAbs = m) (w : World) :
    Calls Try.prog 61 #[.int .i64 n] w (OutX w d (toL m)) := by
  subst hd hm
  exact (PD.rosetteref00_Whole.calls n _ _ _ w (whole_f n h0 h1)).mono fun e w' h => outX_R h
theorem whole_lo (m : Nat) (hm : (-9223372036854775808 : Int).natAbs = m) (w : World) :
    Calls Try.prog 61 #[.int .i64 (-9223372036854775808)] w (OutX w true (toL m)) :=
  whole_t (-9223372036854775808) (by omega) (by omega) true (decide_eq_true (by omega)) m hm w
theorem whole_hi (m : Nat) (hm : (9223372036854775807 : Int).natAbs = m) (w : World) :
    Calls Try.prog 61 #[.int .i64 9223372036854775807] w (OutX w false (toL m)) :=
  whole_t 9223372036854775807 (by omega) (by omega) false (decide_eq_false (by omega)) m hm w
set_option maxRecDepth 100000 in
set_option maxHeartbeats 1000000 in
theorem small_n (s : Bool) (A : Option Addr) (c : Nat) (l : List Int) (hc : l.length ≤ c) (ol : okL l) (hm : l.length ≤ 17592186043904) (hr : rightB s l = false) (w : World) (r1 : u64.C w A l.length l) :
    Calls Try.prog 33 #[.agg #[.bool s, .slice A l.length c]] w (OutP2 w (.tuple #[.int .i64 0, .bool false])) := by
  have hu := Try.underlying62
  have hui := Try.underlying24
  have hus := Try.underlying22
  have X0 := Aside0.mk (NV.new (g := w.heap.size) s l.length c rfl (Nat.le_refl _) hc r1)
  have HB := Aside0.mk ((Below.refl w.heap.size w).alloc (Nat.le_refl _) (.cells #[.bool s, .slice A l.length c] 24))
  clear r1
  obtain ⟨p0, p1, pl⟩ := X0.out.cells
  go_enter Try.func33, Try.ntmps33
  go_wp2_with fail
  refine (rightR_t s _ _ l false hr hc hm _ X0.out.all).mono ?_
  rintro e w1 ⟨rfl, b1⟩
  clear p0 p1 pl
  replace X0 := Aside0.mk (X0.out.below b1.out)
  replace HB := Aside0.mk (below_then HB.out HB.out.size b1.out)
  clear b1
  obtain ⟨p0, p1, pl⟩ := X0.out.cells
  go_wp2
  exact bodyPost_ret (v := .tuple #[.int .i64 0, .bool false]) (by simp [results, Try.results33, go_sem]) rfl ⟨rfl, HB⟩
set_option maxRecDepth 100000 in
set_option maxHeartbeats 1000000 in
theorem small_lo (s : Bool) (A : Option Addr) (c : Nat) (l : List Int) (hc : l.length ≤ c) (ol : okL l) (hm : l.length ≤ 4096) (hr : rightB s l = true) (v m1 : Nat) (hv : nv l = v) (hvl : (toL v).length ≤ 40960) (hm1 : (-9223372036854775808 : Int).natAbs = m1) (hl1 : (toL m1).length ≤ 40960) (z1 : Int) (hz1 : cmpZ (vz s v) (vz true m1) = z1) (k1 : z1 < 0) (w : World) (r1 : u64.C w A l.length l) :
    Calls Try.prog 33 #[.agg #[.bool s, .slice A l.length c]] w (OutP2 w (.tuple #[.int .i64 0, .bool false])) := by
  have hu := Try.underlying62
  have hui := Try.underlying24
  have hus := Try.underlying22
  have X0 := Aside0.mk (NV.new (g := w.heap.size) s l.length c rfl (Nat.le_refl _) hc r1)
  have HB := Aside0.mk ((Below.refl w.heap.size w).alloc (Nat.le_refl _) (.cells #[.bool s, .slice A l.length c] 24))
  clear r1
  obtain ⟨p0, p1, pl⟩ := X0.out.cells
  go_enter Try.func33, Try.ntmps33
  go_wp2_with fail
  refine (rightR_t s _ _ l true hr hc (by omega) _ X0.out.all).mono ?_
  rintro e w1 ⟨rfl, b1⟩
  clear p0 p1 pl
  replace X0 := Aside0.mk (X0.out.below b1.out)
  replace HB := Aside0.mk (below_then HB.out HB.out.size b1.out)
  clear b1
  obtain ⟨p0, p1, pl⟩ := X0.out.cells
  go_wp2_with fail
  refine (int_t s _ _ l v hv ol hc hm _ X0.out.all).mono ?_
  rintro e w2 ⟨A2, c2, rfl, R2, b2⟩
  clear p0 p1 pl X0
  replace HB := Aside0.mk (below_then HB.out HB.out.size b2.out)
  have Y0 := Aside0.mk (NW.new (g := w2.heap.size) s c2 rfl R2.out.1 R2.out.2)
  have HB0 := Aside0.mk (HB.out.alloc HB.out.size (.cells #[.bool s, .slice A2 (toL v).length c2, .int .i64 0] 62))
  clear R2 b2 HB
  go_upto_region 4 with fail
  obtain ⟨W, hW⟩ : ∃ W, (w2.alloc (.cells #[.bool s, .slice A2 (toL v).length c2, .int .i64 0] 62)) = W := ⟨_, rfl⟩
  rw [hW] at Y0 HB0 ⊢
  clear hW
  obtain ⟨y0_0, y1_0, y2_0, yl_0⟩ := Y0.out.cells
  refine start_ (n := 10) (S := fun w' : World => w'.cell? ⟨w2.heap.size, 0, none⟩ = some (.bool s) ∧ w'.cell? ⟨w2.heap.size, 1, none⟩ = some (.slice A2 (toL v).length c2) ∧ w'.cell? ⟨w2.heap.size, 2, none⟩ = some (.int .i64 0)) (ds := []) #[false, false, false, false, false, false, false, false, false, false] (by kernel_rfl) rfl rfl ⟨y0_0, y1_0, y2_0⟩ (fun hHeld => ?_)
  refine take_ (i := 0) (N := some 11) (v := ?_) (a' := ?_) #[true, false, false, false, false, false, false, false, false, false] rfl rfl (by kernel_rfl) (fun _ _ _ h => h) (Or.inl ⟨by rfl, ?_⟩) hHeld ?_ ?_
  rotate_left
  · rintro w' ⟨s0, s1, s2⟩
    go_simp
    with_reducible rfl
  rotate_left
  · simp only [Act.put, List.setIfInBounds_toArray, List.set_cons_zero, List.set_cons_succ, i64_w, i32_w]
    rfl
  refine one_ (i := 1) (N := some 12) #[true, true, false, false, false, false, false, false, false, false] rfl rfl (by kernel_rfl) (by decide) (fun K hK => ?_)
  refine goes_ Try.func61 (by kernel_rfl) rfl #[.int .i64 (-9223372036854775808)] (by rfl) rfl rfl (by (try simp only [List.map_toArray, List.map_cons, List.map_nil]); first | done | rfl) ?_
  refine (whole_lo m1 hm1 _).mono ?_
  rintro e w3 ⟨A3, c3, rfl, R3, b3⟩
  refine ⟨_, rfl, ?_⟩
  have Y3 := Aside0.mk (Y0.out.drew.below b3.out)
  have HB3 := Aside0.mk (below_then HB0.out.drew HB0.out.drew.size b3.out)
  obtain ⟨y0_3, y1_3, y2_3, yl_3⟩ := Y3.out.cells
  refine hK.out _ _ ⟨y0_3, y1_3, y2_3⟩ (fun hHeld => ?_)
  clear hK K
  refine norm_ (a' := ?_) ?_ ?_
  rotate_left
  · show Act.put _ (some 12) _ = _
    simp only [Act.put, List.setIfInBounds_toArray, List.set_cons_zero, List.set_cons_succ, i64_w, i32_w]
    rfl
  refine one_ (i := 2) (N := some 13) #[true, true, true, false, false, false, false, false, false, false] rfl rfl (by kernel_rfl) (by decide) (fun K hK => ?_)
  refine goes_ Try.func42 (by kernel_rfl) rfl #[.agg #[.bool s, .slice A2 (toL v).length c2, .int .i64 0], .agg #[.bool true, .slice A3 (toL m1).length c3, .int .i64 0]] (by rfl) rfl rfl (by (try simp only [List.map_toArray, List.map_cons, List.map_nil]); first | done | rfl) ?_
  refine (compare_w s true _ _ _ _ v m1 z1 hz1 hvl hl1 Y3.out.cap R3.out.1 _ Y3.out.row R3.out.2).mono ?_
  rintro e w4 ⟨rfl, b4⟩
  refine ⟨_, rfl, ?_⟩
  have Y4 := Aside0.mk (Y3.out.below b4.out)
  have HB4 := Aside0.mk (below_then HB3.out HB3.out.size b4.out)
  obtain ⟨y0_4, y1_4, y2_4, yl_4⟩ := Y4.out.cells
  refine hK.out _ _ ⟨y0_4, y1_4, y2_4⟩ (fun hHeld => ?_)
  clear hK K
  refine norm_ (a' := ?_) ?_ ?_
  rotate_left
  · show Act.put _ (some 13) _ = _
    simp only [Act.put, List.setIfInBounds_toArray, List.set_cons_zero, List.set_cons_succ, i64_w, i32_w]
    rfl
  have k1b : decide (z1 < 0) = true := decide_eq_true k1
  refine pure_ (i := 3) (N := some 14) (v := .bool true) (a' := ?_) #[true, true, true, true, false, false, false, false, false, false] rfl rfl (by kernel_rfl) (fun _ _ _ h => h) (Or.inl ⟨by rfl, fun w' => by go_simp⟩) ?_ ?_
  rotate_left
  · simp only [Act.put, List.setIfInBounds_toArray, List.set_cons_zero, List.set_cons_succ, i64_w, i32_w]
    rfl
  refine pure_ (i := 4) (N := some 15) (v := .bool true) (a' := ?_) #[true, true, true, true, true, false, false, false, false, false] rfl rfl (by kernel_rfl) (fun _ _ _ h => h) (Or.inl ⟨by rfl, fun w' => by go_simp⟩) ?_ ?_
  rotate_left
  · simp only [Act.put, List.setIfInBounds_toArray, List.set_cons_zero, List.set_cons_succ, i64_w, i32_w]
    rfl
  refine pure_ (i := 5) (N := some 16) (v := undef) (a' := ?_) #[true, true, true, true, true, true, false, false, false, false] rfl rfl (by kernel_rfl) (fun _ _ _ h => h) (Or.inr ⟨by rfl, rfl⟩) ?_ ?_
  rotate_left
  · simp only [Act.put, List.setIfInBounds_toArray, List.set_cons_zero, List.set_cons_succ, i64_w, i32_w]
    rfl
  refine pure_ (i := 6) (N := some 17) (v := undef) (a' := ?_) #[true, true, true, true, true, true, true, false, false, false] rfl rfl (by kernel_rfl) (fun _ _ _ h => h) (Or.inr ⟨by rfl, rfl⟩) ?_ ?_
  rotate_left
  · simp only [Act.put, List.setIfInBounds_toArray, List.set_cons_zero, List.set_cons_succ, i64_w, i32_w]
    rfl
  refine pure_ (i := 7) (N := some 18) (v := undef) (a' := ?_) #[true, true, true, true, true, true, true, true, false, false] rfl rfl (by kernel_rfl) (fun _ _ _ h => h) (Or.inr ⟨by rfl, rfl⟩) ?_ ?_
  rotate_left
  · simp only [Act.put, List.setIfInBounds_toArray, List.set_cons_zero, List.set_cons_succ, i64_w, i32_w]
    rfl
  refine pure_ (i := 8) (N := some 19) (v := undef) (a' := ?_) #[true, true, true, true, true, true, true, true, true, false] rfl rfl (by kernel_rfl) (fun _ _ _ h => h) (Or.inr ⟨by rfl, rfl⟩) ?_ ?_
  rotate_left
  · simp only [Act.put, List.setIfInBounds_toArray, List.set_cons_zero, List.set_cons_succ, i64_w, i32_w]
    rfl
  refine pure_ (i := 9) (N := some 20) (v := .bool true) (a' := ?_) #[true, true, true, true, true, true, true, true, true, true] rfl rfl (by kernel_rfl) (fun _ _ _ h => h) (Or.inl ⟨by rfl, fun w' => by go_simp⟩) ?_ ?_
  rotate_left
  · simp only [Act.put, List.setIfInBounds_toArray, List.set_cons_zero, List.set_cons_succ, i64_w, i32_w]
    rfl
  refine done_ (by kernel_rfl) ?_
  go_wp2
  exact bodyPost_ret (v := .tuple #[.int .i64 0, .bool false]) (by simp [results, Try.results33, go_sem]) rfl ⟨rfl, HB4⟩
set_option maxRecDepth 100000 in
set_option maxHeartbeats 1000000 in
theorem small_hi (s : Bool) (A : Option Addr) (c : Nat) (l : List Int) (hc : l.length ≤ c) (ol : okL l) (hm : l.length ≤ 4096) (hr : rightB s l = true) (v m1 : Nat) (hv : nv l = v) (hvl : (toL v).length ≤ 40960) (hm1 : (-9223372036854775808 : Int).natAbs = m1) (hl1 : (toL m1).length ≤ 40960) (z1 : Int) (hz1 : cmpZ (vz s v) (vz true m1) = z1) (m2 : Nat) (hm2 : (9223372036854775807 : Int).natAbs = m2) (hl2 : (toL m2).length ≤ 40960) (z2 : Int) (hz2 : cmpZ (vz s v) (vz false m2) = z2) (k1 : decide (z1 < 0) = false) (k2 : 0 < z2) (w : World) (r1 : u64.C w A l.length l) :
    Calls Try.prog 33 #[.agg #[.bool s, .slice A l.length c]] w (OutP2 w (.tuple #[.int .i64 0, .bool false])) := by
  have hu := Try.underlying62
  have hui := Try.underlying24
  have hus := Try.underlying22
  have X0 := Aside0.mk (NV.new (g := w.heap.size) s l.length c rfl (Nat.le_refl _) hc r1)
  have HB := Aside0.mk ((Below.refl w.heap.size w).alloc (Nat.le_refl _) (.cells #[.bool s, .slice A l.length c] 24))
  clear r1
  obtain ⟨p0, p1, pl⟩ := X0.out.cells
  go_enter Try.func33, Try.ntmps33
  go_wp2_with fail
  refine (rightR_t s _ _ l true hr hc (by omega) _ X0.out.all).mono ?_
  rintro e w1 ⟨rfl, b1⟩
  clear p0 p1 pl
  replace X0 := Aside0.mk (X0.out.below b1.out)
  replace HB := Aside0.mk (below_then HB.out HB.out.size b1.out)
  clear b1
  obtain ⟨p0, p1, pl⟩ := X0.out.cells
  go_wp2_with fail
  refine (int_t s _ _ l v hv ol hc hm _ X0.out.all).mono ?_
  rintro e w2 ⟨A2, c2, rfl, R2, b2⟩
  clear p0 p1 pl X0
  replace HB := Aside0.mk (below_then HB.out HB.out.size b2.out)
  have Y0 := Aside0.mk (NW.new (g := w2.heap.size) s c2 rfl R2.out.1 R2.out.2)
  have HB0 := Aside0.mk (HB.out.alloc HB.out.size (.cells #[.bool s, .slice A2 (toL v).length c2, .int .i64 0] 62))
  clear R2 b2 HB
  go_upto_region 4 with fail
  obtain ⟨W, hW⟩ : ∃ W, (w2.alloc (.cells #[.bool s, .slice A2 (toL v).length c2, .int .i64 0] 62)) = W := ⟨_, rfl⟩
  rw [hW] at Y0 HB0 ⊢
  clear hW
  obtain ⟨y0_0, y1_0, y2_0, yl_0⟩ := Y0.out.cells
  go_region_held3 (fun w' => w'.cell? ⟨w2.heap.size, 0, none⟩ = some (.bool s) ∧ w'.cell? ⟨w2.heap.size, 1, none⟩ = some (.slice A2 (toL v).length c2) ∧ w'.cell? ⟨w2.heap.size, 2, none⟩ = some (.int .i64 0)) (go_keep) (first | (go_at_call 61; refine (whole_lo m1 hm1 _).mono ?_; rintro e w3 ⟨A3, c3, rfl, R3, b3⟩; have Y3 := Aside0.mk (Y0.out.drew.below b3.out); have HB3 := Aside0.mk (below_then HB0.out.drew HB0.out.drew.size b3.out); obtain ⟨y0_3, y1_3, y2_3, yl_3⟩ := Y3.out.cells; clear hm1) | (go_at_call 42; refine (compare_w s true _ _ _ _ v m1 z1 hz1 hvl hl1 Y3.out.cap R3.out.1 _ Y3.out.row R3.out.2).mono ?_; rintro e w4 ⟨rfl, b4⟩; have Y4 := Aside0.mk (Y3.out.below b4.out); have HB4 := Aside0.mk (below_then HB3.out HB3.out.size b4.out); obtain ⟨y0_4, y1_4, y2_4, yl_4⟩ := Y4.out.cells; clear hz1) | (go_at_call 42; refine (compare_w s false _ _ _ _ v m2 z2 hz2 hvl hl2 Y5.out.cap R5.out.1 _ Y5.out.row R5.out.2).mono ?_; rintro e w6 ⟨rfl, b6⟩; have Y6 := Aside0.mk (Y5.out.below b6.out); have HB6 := Aside0.mk (below_then HB5.out HB5.out.size b6.out); obtain ⟨y0_6, y1_6, y2_6, yl_6⟩ := Y6.out.cells) | (go_at_call 61; refine (whole_hi m2 hm2 _).mono ?_; rintro e w5 ⟨A5, c5, rfl, R5, b5⟩; have Y5 := Aside0.mk (Y4.out.below b5.out); have HB5 := Aside0.mk (below_then HB4.out HB4.out.size b5.out); obtain ⟨y0_5, y1_5, y2_5, yl_5⟩ := Y5.out.cells))
  go_wp2
  exact bodyPost_ret (v := .tuple #[.int .i64 0, .bool false]) (by simp [results, Try.results33, go_sem]) rfl ⟨rfl, HB6⟩
set_option maxRecDepth 100000 in
set_option maxHeartbeats 1000000 in
theorem small_0 (s : Bool) (A : Option Addr) (c : Nat) (l : List Int) (hc : l.length ≤ c) (ol : okL l) (hm : l.length ≤ 4096) (hr : rightB s l = true) (v m1 : Nat) (hv : nv l = v) (hvl : (toL v).length ≤ 40960) (hm1 : (-9223372036854775808 : Int).natAbs = m1) (hl1 : (toL m1).length ≤ 40960) (z1 : Int) (hz1 : cmpZ (vz s v) (vz true m1) = z1) (m2 : Nat) (hm2 : (9223372036854775807 : Int).natAbs = m2) (hl2 : (toL m2).length ≤ 40960) (z2 : Int) (hz2 : cmpZ (vz s v) (vz false m2) = z2) (k1 : decide (z1 < 0) = false) (k2 : decide (0 < z2) = false) (h0 : decide (v = 0) = true) (w : World) (r1 : u64.C w A l.length l) :
    Calls Try.prog 33 #[.agg #[.bool s, .slice A l.length c]] w (OutP2 w (.tuple #[.int .i64 0, .bool true])) := by
  have hu := Try.underlying62
  have hui := Try.underlying24
  have hus := Try.underlying22
  have X0 := Aside0.mk (NV.new (g := w.heap.size) s l.length c rfl (Nat.le_refl _) hc r1)
  have HB := Aside0.mk ((Below.refl w.heap.size w).alloc (Nat.le_refl _) (.cells #[.bool s, .slice A l.length c] 24))
  clear r1
  obtain ⟨p0, p1, pl⟩ := X0.out.cells
  go_enter Try.func33, Try.ntmps33
  go_wp2_with fail
  refine (rightR_t s _ _ l true hr hc (by omega) _ X0.out.all).mono ?_
  rintro e w1 ⟨rfl, b1⟩
  clear p0 p1 pl
  replace X0 := Aside0.mk (X0.out.below b1.out)
  replace HB := Aside0.mk (below_then HB.out HB.out.size b1.out)
  clear b1
  obtain ⟨p0, p1, pl⟩ := X0.out.cells
  go_wp2_with fail
  refine (int_t s _ _ l v hv ol hc hm _ X0.out.all).mono ?_
  rintro e w2 ⟨A2, c2, rfl, R2, b2⟩
  clear p0 p1 pl X0
  replace HB := Aside0.mk (below_then HB.out HB.out.size b2.out)
  have Y0 := Aside0.mk (NW.new (g := w2.heap.size) s c2 rfl R2.out.1 R2.out.2)
  have HB0 := Aside0.mk (HB.out.alloc HB.out.size (.cells #[.bool s, .slice A2 (toL v).length c2, .int .i64 0] 62))
  clear R2 b2 HB
  go_upto_region 4 with fail
  obtain ⟨W, hW⟩ : ∃ W, (w2.alloc (.cells #[.bool s, .slice A2 (toL v).length c2, .int .i64 0] 62)) = W := ⟨_, rfl⟩
  rw [hW] at Y0 HB0 ⊢
  clear hW
  obtain ⟨y0_0, y1_0, y2_0, yl_0⟩ := Y0.out.cells
  go_region_held3 (fun w' => w'.cell? ⟨w2.heap.size, 0, none⟩ = some (.bool s) ∧ w'.cell? ⟨w2.heap.size, 1, none⟩ = some (.slice A2 (toL v).length c2) ∧ w'.cell? ⟨w2.heap.size, 2, none⟩ = some (.int .i64 0)) (go_keep) (first | (go_at_call 61; refine (whole_lo m1 hm1 _).mono ?_; rintro e w3 ⟨A3, c3, rfl, R3, b3⟩; have Y3 := Aside0.mk (Y0.out.drew.below b3.out); have HB3 := Aside0.mk (below_then HB0.out.drew HB0.out.drew.size b3.out); obtain ⟨y0_3, y1_3, y2_3, yl_3⟩ := Y3.out.cells; clear hm1) | (go_at_call 42; refine (compare_w s true _ _ _ _ v m1 z1 hz1 hvl hl1 Y3.out.cap R3.out.1 _ Y3.out.row R3.out.2).mono ?_; rintro e w4 ⟨rfl, b4⟩; have Y4 := Aside0.mk (Y3.out.below b4.out); have HB4 := Aside0.mk (below_then HB3.out HB3.out.size b4.out); obtain ⟨y0_4, y1_4, y2_4, yl_4⟩ := Y4.out.cells; clear hz1) | (go_at_call 42; refine (compare_w s false _ _ _ _ v m2 z2 hz2 hvl hl2 Y5.out.cap R5.out.1 _ Y5.out.row R5.out.2).mono ?_; rintro e w6 ⟨rfl, b6⟩; have Y6 := Aside0.mk (Y5.out.below b6.out); have HB6 := Aside0.mk (below_then HB5.out HB5.out.size b6.out); obtain ⟨y0_6, y1_6, y2_6, yl_6⟩ := Y6.out.cells) | (go_at_call 61; refine (whole_hi m2 hm2 _).mono ?_; rintro e w5 ⟨A5, c5, rfl, R5, b5⟩; have Y5 := Aside0.mk (Y4.out.below b5.out); have HB5 := Aside0.mk (below_then HB4.out HB4.out.size b5.out); obtain ⟨y0_5, y1_5, y2_5, yl_5⟩ := Y5.out.cells))
  go_wp2_with fail
  refine (zero_t s _ _ v true h0 Y6.out.cap (by omega) _ Y6.out.row).mono ?_
  rintro e w7 ⟨rfl, b7⟩
  have Y7 := Aside0.mk (Y6.out.below b7.out)
  have HB7 := Aside0.mk (below_then HB6.out HB6.out.size b7.out)
  go_wp2
  exact bodyPost_ret (v := .tuple #[.int .i64 0, .bool true]) (by simp [results, Try.results33, go_sem]) rfl ⟨rfl, HB7⟩
set_option maxRecDepth 100000 in
set_option maxHeartbeats 1000000 in
theorem small_1 (s : Bool) (A : Option Addr) (c : Nat) (l : List Int) (hc : l.length ≤ c) (ol : okL l) (hm : l.length ≤ 4096) (hr : rightB s l = true) (v m1 : Nat) (hv : nv l = v) (hvl : (toL v).length ≤ 40960) (hm1 : (-9223372036854775808 : Int).natAbs = m1) (hl1 : (toL m1).length ≤ 40960) (z1 : Int) (hz1 : cmpZ (vz s v) (vz true m1) = z1) (m2 : Nat) (hm2 : (9223372036854775807 : Int).natAbs = m2) (hl2 : (toL m2).length ≤ 40960) (z2 : Int) (hz2 : cmpZ (vz s v) (vz false m2) = z2) (k1 : decide (z1 < 0) = false) (k2 : decide (0 < z2) = false) (h0 : decide (v = 0) = false) (hone : Aside0 (toL v = [(v : Int)])) (n : Int) (hn : Aside0 (wrap64 (v : Int) = n)) (hs : Aside0 (s = false)) (w : World) (r1 : u64.C w A l.length l) :
    Calls Try.prog 33 #[.agg #[.bool s, .slice A l.length c]] w (OutP2 w (.tuple #[.int .i64 n, .bool true])) := by
  have hu := Try.underlying62
  have hui := Try.underlying24
  have hus := Try.underlying22
  have X0 := Aside0.mk (NV.new (g := w.heap.size) s l.length c rfl (Nat.le_refl _) hc r1)
  have HB := Aside0.mk ((Below.refl w.heap.size w).alloc (Nat.le_refl _) (.cells #[.bool s, .slice A l.length c] 24))
  clear r1
  obtain ⟨p0, p1, pl⟩ := X0.out.cells
  go_enter Try.func33, Try.ntmps33
  go_wp2_with fail
  refine (rightR_t s _ _ l true hr hc (by omega) _ X0.out.all).mono ?_
  rintro e w1 ⟨rfl, b1⟩
  clear p0 p1 pl
  replace X0 := Aside0.mk (X0.out.below b1.out)
  replace HB := Aside0.mk (below_then HB.out HB.out.size b1.out)
  clear b1
  obtain ⟨p0, p1, pl⟩ := X0.out.cells
  go_wp2_with fail
  refine (int_t s _ _ l v hv ol hc hm _ X0.out.all).mono ?_
  rintro e w2 ⟨A2, c2, rfl, R2, b2⟩
  clear p0 p1 pl X0
  replace HB := Aside0.mk (below_then HB.out HB.out.size b2.out)
  have Y0 := Aside0.mk (NW.new (g := w2.heap.size) s c2 rfl R2.out.1 R2.out.2)
  have HB0 := Aside0.mk (HB.out.alloc HB.out.size (.cells #[.bool s, .slice A2 (toL v).length c2, .int .i64 0] 62))
  clear R2 b2 HB
  go_upto_region 4 with fail
  obtain ⟨W, hW⟩ : ∃ W, (w2.alloc (.cells #[.bool s, .slice A2 (toL v).length c2, .int .i64 0] 62)) = W := ⟨_, rfl⟩
  rw [hW] at Y0 HB0 ⊢
  clear hW
  obtain ⟨y0_0, y1_0, y2_0, yl_0⟩ := Y0.out.cells
  go_region_held3 (fun w' => w'.cell? ⟨w2.heap.size, 0, none⟩ = some (.bool s) ∧ w'.cell? ⟨w2.heap.size, 1, none⟩ = some (.slice A2 (toL v).length c2) ∧ w'.cell? ⟨w2.heap.size, 2, none⟩ = some (.int .i64 0)) (go_keep) (first | (go_at_call 61; refine (whole_lo m1 hm1 _).mono ?_; rintro e w3 ⟨A3, c3, rfl, R3, b3⟩; have Y3 := Aside0.mk (Y0.out.drew.below b3.out); have HB3 := Aside0.mk (below_then HB0.out.drew HB0.out.drew.size b3.out); obtain ⟨y0_3, y1_3, y2_3, yl_3⟩ := Y3.out.cells; clear hm1) | (go_at_call 42; refine (compare_w s true _ _ _ _ v m1 z1 hz1 hvl hl1 Y3.out.cap R3.out.1 _ Y3.out.row R3.out.2).mono ?_; rintro e w4 ⟨rfl, b4⟩; have Y4 := Aside0.mk (Y3.out.below b4.out); have HB4 := Aside0.mk (below_then HB3.out HB3.out.size b4.out); obtain ⟨y0_4, y1_4, y2_4, yl_4⟩ := Y4.out.cells; clear hz1) | (go_at_call 42; refine (compare_w s false _ _ _ _ v m2 z2 hz2 hvl hl2 Y5.out.cap R5.out.1 _ Y5.out.row R5.out.2).mono ?_; rintro e w6 ⟨rfl, b6⟩; have Y6 := Aside0.mk (Y5.out.below b6.out); have HB6 := Aside0.mk (below_then HB5.out HB5.out.size b6.out); obtain ⟨y0_6, y1_6, y2_6, yl_6⟩ := Y6.out.cells) | (go_at_call 61; refine (whole_hi m2 hm2 _).mono ?_; rintro e w5 ⟨A5, c5, rfl, R5, b5⟩; have Y5 := Aside0.mk (Y4.out.below b5.out); have HB5 := Aside0.mk (below_then HB4.out HB4.out.size b5.out); obtain ⟨y0_5, y1_5, y2_5, yl_5⟩ := Y5.out.cells))
  go_wp2_with fail
  refine (zero_t s _ _ v false h0 Y6.out.cap (by omega) _ Y6.out.row).mono ?_
  rintro e w7 ⟨rfl, b7⟩
  have Y7 := Aside0.mk (Y6.out.below b7.out)
  have HB7 := Aside0.mk (below_then HB6.out HB6.out.size b7.out)
  have hs2 := hs.out
  subst hs2
  clear y0_6 y1_6 y2_6 yl_6 Y6 HB6 hz2 k1 k2 h0
  rw [hone.out] at Y7
  obtain ⟨y0_7, y1_7, y2_7, yl_7⟩ := Y7.out.cells
  obtain ⟨ad, hA, hcell⟩ := read_at Y7.out.row 0 (by simp)
  subst hA
  have hc2 : w7.cell? ad = some (.int .u64 (v : Int)) := by simpa [Addr.add] using hcell
  have hn' := hn.out
  go_wp2
  exact bodyPost_ret (v := .tuple #[.int .i64 n, .bool true]) (by simp [results, Try.results33, go_sem]; exact hn.out) rfl ⟨rfl, HB7⟩
set_option maxRecDepth 100000 in
set_option maxHeartbeats 1000000 in
theorem small_2 (s : Bool) (A : Option Addr) (c : Nat) (l : List Int) (hc : l.length ≤ c) (ol : okL l) (hm : l.length ≤ 4096) (hr : rightB s l = true) (v m1 : Nat) (hv : nv l = v) (hvl : (toL v).length ≤ 40960) (hm1 : (-9223372036854775808 : Int).natAbs = m1) (hl1 : (toL m1).length ≤ 40960) (z1 : Int) (hz1 : cmpZ (vz s v) (vz true m1) = z1) (m2 : Nat) (hm2 : (9223372036854775807 : Int).natAbs = m2) (hl2 : (toL m2).length ≤ 40960) (z2 : Int) (hz2 : cmpZ (vz s v) (vz false m2) = z2) (k1 : decide (z1 < 0) = false) (k2 : decide (0 < z2) = false) (h0 : decide (v = 0) = false) (hone : Aside0 (toL v = [(v : Int)])) (n r : Int) (hn : Aside0 (wrap64 (v : Int) = n)) (hr2 : Aside0 (wrap64 (-n) = r)) (hs : Aside0 (s = true)) (w : World) (r1 : u64.C w A l.length l) :
    Calls Try.prog 33 #[.agg #[.bool s, .slice A l.length c]] w (OutP2 w (.tuple #[.int .i64 r, .bool true])) := by
  have hu := Try.underlying62
  have hui := Try.underlying24
  have hus := Try.underlying22
  have X0 := Aside0.mk (NV.new (g := w.heap.size) s l.length c rfl (Nat.le_refl _) hc r1)
  have HB := Aside0.mk ((Below.refl w.heap.size w).alloc (Nat.le_refl _) (.cells #[.bool s, .slice A l.length c] 24))
  clear r1
  obtain ⟨p0, p1, pl⟩ := X0.out.cells
  go_enter Try.func33, Try.ntmps33
  go_wp2_with fail
  refine (rightR_t s _ _ l true hr hc (by omega) _ X0.out.all).mono ?_
  rintro e w1 ⟨rfl, b1⟩
  clear p0 p1 pl
  replace X0 := Aside0.mk (X0.out.below b1.out)
  replace HB := Aside0.mk (below_then HB.out HB.out.size b1.out)
  clear b1
  obtain ⟨p0, p1, pl⟩ := X0.out.cells
  go_wp2_with fail
  refine (int_t s _ _ l v hv ol hc hm _ X0.out.all).mono ?_
  rintro e w2 ⟨A2, c2, rfl, R2, b2⟩
  clear p0 p1 pl X0
  replace HB := Aside0.mk (below_then HB.out HB.out.size b2.out)
  have Y0 := Aside0.mk (NW.new (g := w2.heap.size) s c2 rfl R2.out.1 R2.out.2)
  have HB0 := Aside0.mk (HB.out.alloc HB.out.size (.cells #[.bool s, .slice A2 (toL v).length c2, .int .i64 0] 62))
  clear R2 b2 HB
  go_upto_region 4 with fail
  obtain ⟨W, hW⟩ : ∃ W, (w2.alloc (.cells #[.bool s, .slice A2 (toL v).length c2, .int .i64 0] 62)) = W := ⟨_, rfl⟩
  rw [hW] at Y0 HB0 ⊢
  clear hW
  obtain ⟨y0_0, y1_0, y2_0, yl_0⟩ := Y0.out.cells
  go_region_held3 (fun w' => w'.cell? ⟨w2.heap.size, 0, none⟩ = some (.bool s) ∧ w'.cell? ⟨w2.heap.size, 1, none⟩ = some (.slice A2 (toL v).length c2) ∧ w'.cell? ⟨w2.heap.size, 2, none⟩ = some (.int .i64 0)) (go_keep) (first | (go_at_call 61; refine (whole_lo m1 hm1 _).mono ?_; rintro e w3 ⟨A3, c3, rfl, R3, b3⟩; have Y3 := Aside0.mk (Y0.out.drew.below b3.out); have HB3 := Aside0.mk (below_then HB0.out.drew HB0.out.drew.size b3.out); obtain ⟨y0_3, y1_3, y2_3, yl_3⟩ := Y3.out.cells; clear hm1) | (go_at_call 42; refine (compare_w s true _ _ _ _ v m1 z1 hz1 hvl hl1 Y3.out.cap R3.out.1 _ Y3.out.row R3.out.2).mono ?_; rintro e w4 ⟨rfl, b4⟩; have Y4 := Aside0.mk (Y3.out.below b4.out); have HB4 := Aside0.mk (below_then HB3.out HB3.out.size b4.out); obtain ⟨y0_4, y1_4, y2_4, yl_4⟩ := Y4.out.cells; clear hz1) | (go_at_call 42; refine (compare_w s false _ _ _ _ v m2 z2 hz2 hvl hl2 Y5.out.cap R5.out.1 _ Y5.out.row R5.out.2).mono ?_; rintro e w6 ⟨rfl, b6⟩; have Y6 := Aside0.mk (Y5.out.below b6.out); have HB6 := Aside0.mk (below_then HB5.out HB5.out.size b6.out); obtain ⟨y0_6, y1_6, y2_6, yl_6⟩ := Y6.out.cells) | (go_at_call 61; refine (whole_hi m2 hm2 _).mono ?_; rintro e w5 ⟨A5, c5, rfl, R5, b5⟩; have Y5 := Aside0.mk (Y4.out.below b5.out); have HB5 := Aside0.mk (below_then HB4.out HB4.out.size b5.out); obtain ⟨y0_5, y1_5, y2_5, yl_5⟩ := Y5.out.cells))
  go_wp2_with fail
  refine (zero_t s _ _ v false h0 Y6.out.cap (by omega) _ Y6.out.row).mono ?_
  rintro e w7 ⟨rfl, b7⟩
  have Y7 := Aside0.mk (Y6.out.below b7.out)
  have HB7 := Aside0.mk (below_then HB6.out HB6.out.size b7.out)
  have hs2 := hs.out
  subst hs2
  clear y0_6 y1_6 y2_6 yl_6 Y6 HB6 hz2 k1 k2 h0
  rw [hone.out] at Y7
  obtain ⟨y0_7, y1_7, y2_7, yl_7⟩ := Y7.out.cells
  obtain ⟨ad, hA, hcell⟩ := read_at Y7.out.row 0 (by simp)
  subst hA
  have hc2 : w7.cell? ad = some (.int .u64 (v : Int)) := by simpa [Addr.add] using hcell
  have hn' := hn.out
  have hr' := hr2.out
  go_wp2
  exact bodyPost_ret (v := .tuple #[.int .i64 r, .bool true]) (by simp [results, Try.results33, go_sem]; exact hr2.out) rfl ⟨rfl, HB7⟩
theorem smallS_of {s : Bool} {l : List Int} {n : Int} (hr : rightB s l = true) (hn : iv s l = n) : smallS s l = if -9223372036854775808 ≤ n ∧ n ≤ 9223372036854775807 then (n, true) else (0, false) := by
  subst hn
  unfold smallS
  by_cases h : -9223372036854775808 ≤ iv s l ∧ iv s l ≤ 9223372036854775807
  · rw [if_pos h, if_pos ⟨hr, h.1, h.2⟩]
  · rw [if_neg h, if_neg (fun a => h ⟨a.2.1, a.2.2⟩)]
theorem one_limb (v : Nat) (h0 : v ≠ 0) (h1 : v < 18446744073709551616) : toL v = [(v : Int)] := by
  rw [toL_pos h0]
  have hB : B64 = 18446744073709551616 := rfl
  rw [show v / B64 = 0 by rw [hB]; omega, show v % B64 = v by rw [hB]; omega, toL_zero]
theorem wneg (v : Nat) (h : v ≤ 9223372036854775808) : wrap64 (-(wrap64 (v : Int))) = -(v : Int) := by unfold wrap64; omega
set_option maxHeartbeats 1000000 in
theorem refSmall_c (s : Bool) (A : Option Addr) (c : Nat) (l : List Int) (hc : l.length ≤ c) (ol : okL l) (hm : l.length ≤ 17592186043904) (n : Int) (d : Bool) (hr : smallS s l = (n, d)) (w : World) (r1 : u64.C w A l.length l) :
    Calls Try.prog 33 #[.agg #[.bool s, .slice A l.length c]] w (OutP2 w (.tuple #[.int .i64 n, .bool d])) := by
  by_cases hR : rightB s l = true
  · have hl := right_len hR
    have t1 := toL_nv_len ol
    rw [smallS_of hR (iv_vz s l)] at hr
    have k1 : ∀ m : Nat, m < 18446744073709551616 → (toL m).length ≤ 40960 := fun m hm => by
      have : (toL m).length ≤ 1 := by
        rw [length_toL_le]
        have hB : B64 = 18446744073709551616 := rfl
        rw [Nat.pow_one, hB]; exact hm
      omega
    have L1 := k1 9223372036854775808 (by omega)
    have L2 := k1 9223372036854775807 (by omega)
    obtain ⟨v, hv⟩ : ∃ v, nv l = v := ⟨_, rfl⟩
    rw [hv] at hr t1
    obtain ⟨z, hz⟩ : ∃ z, vz s v = z := ⟨_, rfl⟩
    rw [hz] at hr
    have za := vz_abs s v
    rw [hz] at za
    have m1 : (-9223372036854775808 : Int).natAbs = 9223372036854775808 := rfl
    have m2 : (9223372036854775807 : Int).natAbs = 9223372036854775807 := rfl
    obtain ⟨M1, e1⟩ : ∃ M1 : Nat, 9223372036854775808 = M1 := ⟨_, rfl⟩
    obtain ⟨M2, e2⟩ : ∃ M2 : Nat, 9223372036854775807 = M2 := ⟨_, rfl⟩
    rw [e1] at m1 L1
    rw [e2] at m2 L2
    have v1 : vz true M1 = -9223372036854775808 := by rw [← e1]; rfl
    have v2 : vz false M2 = 9223372036854775807 := by rw [← e2]; rfl
    by_cases q1 : z < -9223372036854775808
    · rw [if_neg (by omega)] at hr
      simp only [Prod.mk.injEq] at hr
      obtain ⟨rfl, rfl⟩ := hr
      exact small_lo s A c l hc ol hl hR v M1 hv (by omega) m1 L1 (-1) (by rw [v1, hz]; exact cmpZ_lt q1) (by omega) w r1
    obtain ⟨z1, c1, h1⟩ : ∃ z1, cmpZ (vz s v) (vz true M1) = z1 ∧ decide (z1 < 0) = false := ⟨_, rfl, decide_eq_false (by rw [v1, hz]; unfold cmpZ; rw [if_neg q1]; split <;> omega)⟩
    by_cases q2 : 9223372036854775807 < z
    · rw [if_neg (by omega)] at hr
      simp only [Prod.mk.injEq] at hr
      obtain ⟨rfl, rfl⟩ := hr
      exact small_hi s A c l hc ol hl hR v M1 hv (by omega) m1 L1 z1 c1 M2 m2 L2 1 (by rw [v2, hz]; exact cmpZ_gt q2) h1 (by omega) w r1
    obtain ⟨z2, c2, h2⟩ : ∃ z2, cmpZ (vz s v) (vz false M2) = z2 ∧ decide (0 < z2) = false := ⟨_, rfl, decide_eq_false (by rw [v2, hz]; unfold cmpZ; split <;> (try split) <;> omega)⟩
    rw [if_pos (by omega)] at hr
    simp only [Prod.mk.injEq] at hr
    obtain ⟨rfl, rfl⟩ := hr
    by_cases h0 : v = 0
    · have : z = 0 := by omega
      rw [this]
      exact small_0 s A c l hc ol hl hR v M1 hv (by omega) m1 L1 z1 c1 M2 m2 L2 z2 c2 h1 h2 (decide_eq_true h0) w r1
    · have h0' : decide (v = 0) = false := decide_eq_false h0
      have hone := one_limb v h0 (by omega)
      cases hs : s with
      | false =>
        subst hs
        have ez : z = (v : Int) := by rw [← hz]; simp [vz]
        rw [ez]
        exact small_1 false A c l hc ol hl hR v M1 hv (by omega) m1 L1 z1 c1 M2 m2 L2 z2 c2 h1 h2 h0' ⟨hone⟩ (v : Int) ⟨by unfold wrap64; omega⟩ ⟨rfl⟩ w r1
      | true =>
        subst hs
        have ez : z = -(v : Int) := by rw [← hz]; simp [vz]
        rw [ez]
        have hvb : v ≤ 9223372036854775808 := by omega
        have hwv := wneg v hvb
        exact small_2 true A c l hc ol hl hR v M1 hv (by omega) m1 L1 z1 c1 M2 m2 L2 z2 c2 h1 h2 h0' ⟨hone⟩ (wrap64 (v : Int)) (-(v : Int)) ⟨rfl⟩ ⟨hwv⟩ ⟨rfl⟩ w r1
  · have e : smallS s l = (0, false) := by unfold smallS; rw [if_neg (fun a => hR a.1)]
    rw [e] at hr
    simp only [Prod.mk.injEq] at hr
    obtain ⟨rfl, rfl⟩ := hr
    exact small_n s A c l hc ol hm (by simpa using hR) w r1
end Go.Proofs.Ytlcjnahfahobjaa.Lb
