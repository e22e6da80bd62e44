-- Written by a program of this session (pp.sh: the kit's print with some functions' texts given by hand).
import Derived.Test.YtoheamfnddfgkaaPBx0
import Derived.Test.YtoheamfnddfgkaaPBx1
import Derived.Test.YtoheamfnddfgkaaPBx8
namespace Go.Proofs.Ytoheamfnddfgkaa.PB
open Go.RowKit Go.Proofs.YtoheamfnddfgkaaW.PrintWords Go.Proofs.YtoheamfnddfgkaaW.PrintLast Go.Proofs.YtoheamfnddfgkaaW.PrintMore
attribute [local go_sem] max2_int min2_int max_two min_two max_three min_three max_four min_four   -- for this text's walks alone
set_option linter.unusedVariables false
set_option linter.unusedSimpArgs false

/-! ### store_Certs: function 20 -/
mutual
def store_Certs.l0 : Nat → List Int → List (S61) → Int → Int → Option (List Int × Int)
 | 0, _, _, _, _ => none
 | k + 1, x4, x15, x16, x17 => if x17 < x16 then (if 0 ≤ x17 then (if x17 < (x15.length : Int) then ((store_may.f k ((rd_T61 x15 x17).f0.f0) ((rd_T61 x15 x17).f0.f1) ((rd_T61 x15 x17).f1.f0) ((rd_T61 x15 x17).f1.f1) ((rd_T61 x15 x17).f2) ((rd_T61 x15 x17).f3)).bind fun t244 => (if t244 = true then ((store_number.f k x4 ((rd_T61 x15 x17).f0.f0) ((rd_T61 x15 x17).f0.f1)).bind fun t245 => ((store_number.f k t245 ((rd_T61 x15 x17).f1.f0) ((rd_T61 x15 x17).f1.f1)).bind fun t248 => ((store_groups.f k t248 (((rd_T61 x15 x17).f2).length : Int)).bind fun t251 => (store_Certs.l1 k t251 x15 x16 x17 ((rd_T61 x15 x17).f2) (((rd_T61 x15 x17).f2).length : Int) 0 ((rd_T61 x15 x17).f0.f0) ((rd_T61 x15 x17).f0.f1) ((rd_T61 x15 x17).f1.f0) ((rd_T61 x15 x17).f1.f1) ((rd_T61 x15 x17).f2) ((rd_T61 x15 x17).f3))))) else (some (([] : List Int), 2)))) else (none)) else (none)) else (some (x4, 0))
def store_Certs.l1 : Nat → List Int → List (S61) → Int → Int → List Int → Int → Int → Bool → List Int → Bool → List Int → List Int → List Int → Option (List Int × Int)
 | 0, _, _, _, _, _, _, _, _, _, _, _, _, _ => none
 | k + 1, x4, x15, x16, x17, x36, x37, x38, x244000, x244001, x244002, x244003, x244004, x244005 => if x38 < x37 then (if 0 ≤ x38 then (if x38 < (x36.length : Int) then ((store_groups.f k x4 (rd x36 x38)).bind fun t255 => (if x38 < (x244005.length : Int) then ((store_groups.f k t255 (rd x244005 x38)).bind fun t259 => (store_Certs.l1 k t259 x15 x16 x17 x36 x37 (wrap64 (x38 + 1)) x244000 x244001 x244002 x244003 x244004 x244005)) else (none))) else (none)) else (none)) else (store_Certs.l0 k x4 x15 x16 (wrap64 (x17 + 1)))
end
def store_Certs.f (k : Nat) (l0 : List (S61)) : Option (List Int × Int) := if (l0.length : Int) > 64 then (some (([] : List Int), 3)) else ((store_groups.f k ([] : List Int) (l0.length : Int)).bind fun t239 => (store_Certs.l0 k t239 l0 (l0.length : Int) 0))
def store_Certs.T9 : Bool × List (List Nat × List Nat) := (true, [([], []), ([], []), ([1], [1]), ([0, 2], [0, 2]), ([], []), ([4], [4]), ([3, 5, 3], [3, 5]), ([], []), ([7], [7]), ([8], [8]), ([6, 9, 6], [6, 9]), ([10, 10, 0, 1, 2, 3, 4, 5, 6, 7, 8, 9, 10], [0, 10])])
def store_Certs.B9 : List Nat := [0, 0, 2, 7, 0, 16, 63, 0, 128, 384, 1023, 2047]
theorem store_Certs.tab9 : rtab .any (opsOf Try.f20 9) = store_Certs.T9 := by kernel_rfl
theorem store_Certs.bits9 : waitsOk store_Certs.T9.2 store_Certs.B9 = true := by kernel_rfl
def store_Certs.T13 : Bool × List (List Nat × List Nat) := (true, [([], []), ([], []), ([0, 1], [0, 1]), ([], []), ([3], [3]), ([], []), ([4, 5], [4, 5]), ([6], [6]), ([2, 7, 2], [2, 7]), ([8, 8, 0, 1, 2, 3, 4, 5, 6, 7, 8], [0, 8])])
def store_Certs.B13 : List Nat := [0, 0, 3, 0, 8, 0, 56, 120, 255, 511]
theorem store_Certs.tab13 : rtab .any (opsOf Try.f20 13) = store_Certs.T13 := by kernel_rfl
theorem store_Certs.bits13 : waitsOk store_Certs.T13.2 store_Certs.B13 = true := by kernel_rfl
set_option maxHeartbeats 8000000 in
set_option maxRecDepth 100000 in
theorem store_Certs.calls (k : Nat) (A0 : Option Addr) (c0 : Nat) (l0 : List (S61)) (r1 : List Int) (r2 : Int) (w : World) (hr0 : Kd.C k61 w A0 l0.length l0) (hc0 : l0.length ≤ c0) (h : store_Certs.f k l0 = some (r1, r2)) :
  Calls Try.prog 20 #[.slice A0 l0.length c0] w fun e w' => ∃ v0_ : Value, e = .returned (.tuple #[v0_, .int .i64 r2]) ∧ Kd.R (Kd.int .u8) 5 w' w.heap.size (fun _ => True) v0_ r1 ∧ Below w.heap.size w w' := by
 have hu61 := Try.underlying61
 have hu24 := Try.underlying24
 have HR0 := Aside0.mk hr0
 have HC0 := Aside0.mk hc0
 clear hr0 hc0
 have HB := Aside0.mk (Below.refl w.heap.size w)
 have H : (if (l0.length : Int) > 64 then (some (([] : List Int), 3)) else ((store_groups.f k ([] : List Int) (l0.length : Int)).bind fun t239 => (store_Certs.l0 k t239 l0 (l0.length : Int) 0))) = some (r1, r2) := h
 clear h
 by_cases c2 : (l0.length : Int) > 64
 ·rw [if_pos c2] at H
  have c2b0 : decide (64 < (l0.length : Int)) = true := decide_eq_true c2
  have c2b1 : decide (64 < l0.length) = true := decide_eq_true (by omega)
  clear c2
  simp only [Option.some.injEq, Prod.mk.injEq] at H
  obtain ⟨rfl, rfl⟩ := H
  go_enter Try.func20, Try.ntmps20
  go_wp2
  go_ret2
  exact ⟨_, by first | rfl | (simp [errW_none, errW_some] <;> rfl) | (simp [*, errW_none, errW_some] <;> rfl), by first | exact Kd.R_nil _ _ _ _ _ | exact Kd.N_nil _ _ _ _ _ | exact Kd.V_nil _ _ _ _ _ | exact Kd.Q_nil _ _ _ _ _ | exact Kd.S_nil _ _ _ _ _, by repeat (first | (with_reducible first | exact HB.out | apply below_alloc | apply pw_below_drewN | apply below_drew1) | exact HB.out)⟩
 ·rw [if_neg c2] at H
  have c2b0 : decide (64 < (l0.length : Int)) = false := decide_eq_false c2
  have c2b1 : decide (64 < l0.length) = false := decide_eq_false (by omega)
  clear c2
  replace H := Option.bind_eq_some_iff.mp H
  obtain ⟨t239, A30, H⟩ := H
  replace H : (store_Certs.l0 k t239 l0 (l0.length : Int) 0) = some (r1, r2) := H
  have A3 := Aside0.mk A30
  clear A30
  have H' := Aside0.mk H
  clear H
  go_enter Try.func20, Try.ntmps20
  go_wp2_with (first | ((with_reducible refine gate_callee (f := 52) rfl ?_); refine goesL_ (some 14) rfl rfl Try.func52 (by kernel_rfl) rfl #[.slice none 0 0, .int .i64 (l0.length : Int)] rfl (by (try simp only [List.map_toArray, List.map_cons, List.map_nil]); first | done | rfl | (simp only [List.length_drop, List.length_take]; rfl)) ?_; (refine (store_groups.calls k (fun k_ => some k_ = (.slice none 0 0 : Value).ownBlock) (.slice none 0 0) ([] : List Int) (l0.length : Int) t239 w _ ?side1 ?side2 A3.out).mono ?_); (case side1 => repeat (first | (with_reducible first | exact HB.out | apply below_alloc | apply pw_below_drewN | apply below_drew1) | exact HB.out)); (case side2 => exact Kd.R_nil _ _ _ _ _); rintro e w4 ⟨v240, rfl, ho0, hb, hkp⟩; refine ⟨_, rfl, ?_⟩; have n0_ := Aside0.mk (Kd.R_mono (ok' := fun k_ => True) ho0 (fun k_ hk_ => trivial)); have n1_ := Aside0.mk (hb); clear HB; have HO241 := n0_; have HB := n1_; clear n0_ n1_; (try clear hb); (try clear hkp); (try clear ho0)))
  go_loopg [4, 17] k (fun kq v4 v17 w' => ∃ (x4_1 : List Int) (x17_1 : Int), v17 = .int .i64 x17_1 ∧ Aside0 (store_Certs.l0 kq x4_1 l0 (l0.length : Int) x17_1 = some (r1, r2)) ∧ Aside0 (kq ≤ k) ∧ Aside0 (Kd.R (Kd.int .u8) 5 w' w.heap.size (fun _ => True) v4 x4_1) ∧ Aside0 (Below w.heap.size w w'))
  case atStart => exact ⟨(t239), (0), (by first | rfl | (simp; done) | (simp [*]; done)), H', ⟨Nat.le_refl _⟩, ⟨by (with_reducible repeat (first | apply Kd.R_alloc | apply Kd.R_drewN | apply Kd.R_drew)); exact HO241.out⟩, ⟨by repeat (first | (with_reducible first | exact HB.out | apply below_alloc | apply pw_below_drewN | apply below_drew1) | exact HB.out)⟩⟩
  case round =>
   clear H'
   try clear c2
   try clear c2b0
   try clear c2b1
   try clear p2
   obtain ⟨x4_1, x17_1, rfl, HA, HK1, HO_4, HB⟩ := hrel
   cases gk with
   | zero => exact absurd HA.out (by simp [store_Certs.l0])
   | succ k1 =>
    have H := HA.out
    clear HA
    simp only [store_Certs.l0] at H
    by_cases c5 : x17_1 < (l0.length : Int)
    ·rw [if_pos c5] at H
     have c5b0 : decide (x17_1 < (l0.length : Int)) = true := decide_eq_true c5
     clear c5
     by_cases c6 : 0 ≤ x17_1
     ·rw [if_pos c6] at H
      have c6b0 : decide (0 ≤ x17_1) = true := decide_eq_true c6
      clear c6
      by_cases c7 : x17_1 < (l0.length : Int)
      ·rw [if_pos c7] at H
       have c7b0 : decide (x17_1 < (l0.length : Int)) = true := decide_eq_true c7
       clear c7
       replace H := Option.bind_eq_some_iff.mp H
       obtain ⟨t244, A80, H⟩ := H
       replace H : (if t244 = true then ((store_number.f k1 x4_1 ((rd_T61 l0 x17_1).f0.f0) ((rd_T61 l0 x17_1).f0.f1)).bind fun t245 => ((store_number.f k1 t245 ((rd_T61 l0 x17_1).f1.f0) ((rd_T61 l0 x17_1).f1.f1)).bind fun t248 => ((store_groups.f k1 t248 (((rd_T61 l0 x17_1).f2).length : Int)).bind fun t251 => (store_Certs.l1 k1 t251 l0 (l0.length : Int) x17_1 ((rd_T61 l0 x17_1).f2) (((rd_T61 l0 x17_1).f2).length : Int) 0 ((rd_T61 l0 x17_1).f0.f0) ((rd_T61 l0 x17_1).f0.f1) ((rd_T61 l0 x17_1).f1.f0) ((rd_T61 l0 x17_1).f1.f1) ((rd_T61 l0 x17_1).f2) ((rd_T61 l0 x17_1).f3))))) else (some (([] : List Int), 2))) = some (r1, r2) := H
       have A8 := Aside0.mk A80
       clear A80
       by_cases c9 : t244 = true
       ·subst c9
        have H1 : ((store_number.f k1 x4_1 ((rd_T61 l0 x17_1).f0.f0) ((rd_T61 l0 x17_1).f0.f1)).bind fun t245 => ((store_number.f k1 t245 ((rd_T61 l0 x17_1).f1.f0) ((rd_T61 l0 x17_1).f1.f1)).bind fun t248 => ((store_groups.f k1 t248 (((rd_T61 l0 x17_1).f2).length : Int)).bind fun t251 => (store_Certs.l1 k1 t251 l0 (l0.length : Int) x17_1 ((rd_T61 l0 x17_1).f2) (((rd_T61 l0 x17_1).f2).length : Int) 0 ((rd_T61 l0 x17_1).f0.f0) ((rd_T61 l0 x17_1).f0.f1) ((rd_T61 l0 x17_1).f1.f0) ((rd_T61 l0 x17_1).f1.f1) ((rd_T61 l0 x17_1).f2) ((rd_T61 l0 x17_1).f3))))) = some (r1, r2) := by rw [if_pos rfl] at H; exact H
        clear H
        have H := H1
        clear H1
        replace H := Option.bind_eq_some_iff.mp H
        obtain ⟨t245, A100, H⟩ := H
        replace H : ((store_number.f k1 t245 ((rd_T61 l0 x17_1).f1.f0) ((rd_T61 l0 x17_1).f1.f1)).bind fun t248 => ((store_groups.f k1 t248 (((rd_T61 l0 x17_1).f2).length : Int)).bind fun t251 => (store_Certs.l1 k1 t251 l0 (l0.length : Int) x17_1 ((rd_T61 l0 x17_1).f2) (((rd_T61 l0 x17_1).f2).length : Int) 0 ((rd_T61 l0 x17_1).f0.f0) ((rd_T61 l0 x17_1).f0.f1) ((rd_T61 l0 x17_1).f1.f0) ((rd_T61 l0 x17_1).f1.f1) ((rd_T61 l0 x17_1).f2) ((rd_T61 l0 x17_1).f3)))) = some (r1, r2) := H
        have A10 := Aside0.mk A100
        clear A100
        replace H := Option.bind_eq_some_iff.mp H
        obtain ⟨t248, A110, H⟩ := H
        replace H : ((store_groups.f k1 t248 (((rd_T61 l0 x17_1).f2).length : Int)).bind fun t251 => (store_Certs.l1 k1 t251 l0 (l0.length : Int) x17_1 ((rd_T61 l0 x17_1).f2) (((rd_T61 l0 x17_1).f2).length : Int) 0 ((rd_T61 l0 x17_1).f0.f0) ((rd_T61 l0 x17_1).f0.f1) ((rd_T61 l0 x17_1).f1.f0) ((rd_T61 l0 x17_1).f1.f1) ((rd_T61 l0 x17_1).f2) ((rd_T61 l0 x17_1).f3))) = some (r1, r2) := H
        have A11 := Aside0.mk A110
        clear A110
        replace H := Option.bind_eq_some_iff.mp H
        obtain ⟨t251, A120, H⟩ := H
        replace H : (store_Certs.l1 k1 t251 l0 (l0.length : Int) x17_1 ((rd_T61 l0 x17_1).f2) (((rd_T61 l0 x17_1).f2).length : Int) 0 ((rd_T61 l0 x17_1).f0.f0) ((rd_T61 l0 x17_1).f0.f1) ((rd_T61 l0 x17_1).f1.f0) ((rd_T61 l0 x17_1).f1.f1) ((rd_T61 l0 x17_1).f2) ((rd_T61 l0 x17_1).f3)) = some (r1, r2) := H
        have A12 := Aside0.mk A120
        clear A120
        have H' := Aside0.mk H
        clear H
        have p242 : 0 ≤ (x17_1 : Int) := of_decide_eq_true (by first | (with_reducible assumption) | assumption)
        have q242 : x17_1 < (l0.length : Int) := of_decide_eq_true (by first | (with_reducible assumption) | assumption)
        obtain ⟨ad242, A242_1, c242_1, A242_3, c242_3, A242_4, c242_4, A242_5, c242_5, e242, hx242_0, hx242_1, hx242_2, hx242_3, hx242_4, hx242_5, hl242_1, hi242_1, hl242_3, hi242_3, hl242_4, hi242_4, hl242_5, hi242_5⟩ := at_T61 HR0.out x17_1 p242 q242
        cases e242
        replace hx242_0 := (HB.out.cell (World.block_lt_of_cell? w _ hx242_0)).trans hx242_0
        replace hx242_1 := (HB.out.cell (World.block_lt_of_cell? w _ hx242_1)).trans hx242_1
        replace hx242_2 := (HB.out.cell (World.block_lt_of_cell? w _ hx242_2)).trans hx242_2
        replace hx242_3 := (HB.out.cell (World.block_lt_of_cell? w _ hx242_3)).trans hx242_3
        replace hx242_4 := (HB.out.cell (World.block_lt_of_cell? w _ hx242_4)).trans hx242_4
        replace hx242_5 := (HB.out.cell (World.block_lt_of_cell? w _ hx242_5)).trans hx242_5
        have HR242_1 := Aside0.mk hi242_1
        have HC242_1 := Aside0.mk hl242_1
        clear hi242_1 hl242_1
        have HR242_3 := Aside0.mk hi242_3
        have HC242_3 := Aside0.mk hl242_3
        clear hi242_3 hl242_3
        have HR242_4 := Aside0.mk hi242_4
        have HC242_4 := Aside0.mk hl242_4
        clear hi242_4 hl242_4
        have HR242_5 := Aside0.mk hi242_5
        have HC242_5 := Aside0.mk hl242_5
        clear hi242_5 hl242_5
        replace p242 := eq_true p242
        replace q242 := eq_true q242
        try go_wp2_with (first | ((with_reducible refine gate_dst (N := 6) rfl ?_); refine box_event ?hg (N := 6) ?hd (cs := #[.bool false, .slice none 0 0, .bool false, .slice none 0 0, .slice none 0 0, .slice none 0 0]) (t := 61) ?hr ?_; (case hd => rfl); (case hg => rfl); (case hr => first | (go_simp; done) | (go_simp; rfl)); intro gb243 hg w13 hbox hb; have n0_ := Aside0.mk (Kd.R_below (by (with_reducible repeat (first | apply Kd.R_alloc | apply Kd.R_drewN | apply Kd.R_drew)); exact HO_4.out) hb); have n1_ := Aside0.mk (below_step (by repeat (first | (with_reducible first | exact HB.out | apply below_alloc | apply pw_below_drewN | apply below_drew1) | exact HB.out)) hb); have n2_ := Aside0.mk (hbox); have n3_ := Aside0.mk ((by rw [hg]; exact (below_size (by repeat (first | (with_reducible first | exact HB.out | apply below_alloc | apply pw_below_drewN | apply below_drew1) | exact HB.out))) : w.heap.size ≤ gb243)); have n4_ := Aside0.mk ((by rw [hg]; exact (below_size (by repeat (first | (with_reducible first | exact HB.out | apply below_alloc | apply pw_below_drewN | apply below_drew1) | exact HB.out))) : w.heap.size ≤ gb243)); clear HO_4; clear HB; have HO_4 := n0_; have HB := n1_; have BK243 := n2_; have GW243 := n3_; have GE243 := n4_; clear n0_ n1_ n2_ n3_ n4_; clear hb hbox hg; have hcz14_0 : w13.cell? ⟨gb243, 0, none⟩ = some (.bool false) := (blk_cell BK243.out 0).trans rfl; have hcz14_1 : w13.cell? ⟨gb243, 1, none⟩ = some (.slice none 0 0) := (blk_cell BK243.out 1).trans rfl; have hcz14_2 : w13.cell? ⟨gb243, 2, none⟩ = some (.bool false) := (blk_cell BK243.out 2).trans rfl; have hcz14_3 : w13.cell? ⟨gb243, 3, none⟩ = some (.slice none 0 0) := (blk_cell BK243.out 3).trans rfl; have hcz14_4 : w13.cell? ⟨gb243, 4, none⟩ = some (.slice none 0 0) := (blk_cell BK243.out 4).trans rfl; have hcz14_5 : w13.cell? ⟨gb243, 5, none⟩ = some (.slice none 0 0) := (blk_cell BK243.out 5).trans rfl; have hfz14_0 := blk_frozen BK243.out 0; have hfz14_1 := blk_frozen BK243.out 1; have hfz14_2 := blk_frozen BK243.out 2; have hfz14_3 := blk_frozen BK243.out 3; have hfz14_4 := blk_frozen BK243.out 4; have hfz14_5 := blk_frozen BK243.out 5) | ((with_reducible refine gate_callee (f := 53) rfl ?_); refine goesL_ (some 22) rfl rfl Try.func53 (by kernel_rfl) rfl #[.agg #[.bool ((rd_T61 l0 x17_1).f0.f0), .slice A242_1 ((rd_T61 l0 x17_1).f0.f1).length c242_1, .bool ((rd_T61 l0 x17_1).f1.f0), .slice A242_3 ((rd_T61 l0 x17_1).f1.f1).length c242_3, .slice A242_4 ((rd_T61 l0 x17_1).f2).length c242_4, .slice A242_5 ((rd_T61 l0 x17_1).f3).length c242_5]] rfl (by (try simp only [List.map_toArray, List.map_cons, List.map_nil]); first | done | rfl | (simp only [List.length_drop, List.length_take]; rfl)) ?_; (with_reducible refine (store_may.calls k1 ((rd_T61 l0 x17_1).f0.f0) _ _ ((rd_T61 l0 x17_1).f0.f1) ((rd_T61 l0 x17_1).f1.f0) _ _ ((rd_T61 l0 x17_1).f1.f1) _ _ ((rd_T61 l0 x17_1).f2) _ _ ((rd_T61 l0 x17_1).f3) true _ ?side1 ?side2 ?side3 ?side4 ?side5 ?side6 ?side7 ?side8 A8.out).mono ?_); (case side1 => exact Kd.C_below HR242_1.out (by repeat (first | (with_reducible first | exact HB.out | apply below_alloc | apply pw_below_drewN | apply below_drew1 | refine below_set ?_ GE243.out) | exact HB.out))); (case side2 => exact HC242_1.out); (case side3 => exact Kd.C_below HR242_3.out (by repeat (first | (with_reducible first | exact HB.out | apply below_alloc | apply pw_below_drewN | apply below_drew1 | refine below_set ?_ GE243.out) | exact HB.out))); (case side4 => exact HC242_3.out); (case side5 => exact Kd.C_below HR242_4.out (by repeat (first | (with_reducible first | exact HB.out | apply below_alloc | apply pw_below_drewN | apply below_drew1 | refine below_set ?_ GE243.out) | exact HB.out))); (case side6 => exact HC242_4.out); (case side7 => exact Kd.C_below HR242_5.out (by repeat (first | (with_reducible first | exact HB.out | apply below_alloc | apply pw_below_drewN | apply below_drew1 | refine below_set ?_ GE243.out) | exact HB.out))); (case side8 => exact HC242_5.out); rintro e w15 ⟨rfl, hb⟩; refine ⟨_, rfl, ?_⟩; have n0_ := Aside0.mk (Kd.R_below (by (with_reducible repeat (first | apply Kd.R_alloc | apply Kd.R_drewN | apply Kd.R_drew)); exact (Kd.R_mono (Kd.R_far (p := ⟨gb243, 5, none⟩) (Kd.R_far (p := ⟨gb243, 4, none⟩) (Kd.R_far (p := ⟨gb243, 3, none⟩) (Kd.R_far (p := ⟨gb243, 2, none⟩) (Kd.R_far (p := ⟨gb243, 1, none⟩) (Kd.R_far (p := ⟨gb243, 0, none⟩) (Kd.R_types HO_4.out BK243.out (by decide)) (fun _ hk => hk.2) (.bool ((rd_T61 l0 x17_1).f0.f0))) (fun _ hk => hk.2) (.slice A242_1 ((rd_T61 l0 x17_1).f0.f1).length c242_1)) (fun _ hk => hk.2) (.bool ((rd_T61 l0 x17_1).f1.f0))) (fun _ hk => hk.2) (.slice A242_3 ((rd_T61 l0 x17_1).f1.f1).length c242_3)) (fun _ hk => hk.2) (.slice A242_4 ((rd_T61 l0 x17_1).f2).length c242_4)) (fun _ hk => hk.2) (.slice A242_5 ((rd_T61 l0 x17_1).f3).length c242_5)) (fun _ h_ => h_.1))) hb); have n1_ := Aside0.mk (blk_below (g := gb243) (o := .cells #[.bool ((rd_T61 l0 x17_1).f0.f0), .slice A242_1 ((rd_T61 l0 x17_1).f0.f1).length c242_1, .bool ((rd_T61 l0 x17_1).f1.f0), .slice A242_3 ((rd_T61 l0 x17_1).f1.f1).length c242_3, .slice A242_4 ((rd_T61 l0 x17_1).f2).length c242_4, .slice A242_5 ((rd_T61 l0 x17_1).f3).length c242_5] 61 (0, 0)) (by (with_reducible repeat (first | refine blk_drewN ?_ _ | refine blk_drew ?_ | refine blk_alloc ?_ _)); refine blk_put (cs := #[.bool ((rd_T61 l0 x17_1).f0.f0), .slice A242_1 ((rd_T61 l0 x17_1).f0.f1).length c242_1, .bool ((rd_T61 l0 x17_1).f1.f0), .slice A242_3 ((rd_T61 l0 x17_1).f1.f1).length c242_3, .slice A242_4 ((rd_T61 l0 x17_1).f2).length c242_4, .slice none 0 0]) ?_ 5 _ rfl; (with_reducible repeat (first | refine blk_drewN ?_ _ | refine blk_drew ?_ | refine blk_alloc ?_ _)); refine blk_put (cs := #[.bool ((rd_T61 l0 x17_1).f0.f0), .slice A242_1 ((rd_T61 l0 x17_1).f0.f1).length c242_1, .bool ((rd_T61 l0 x17_1).f1.f0), .slice A242_3 ((rd_T61 l0 x17_1).f1.f1).length c242_3, .slice none 0 0, .slice none 0 0]) ?_ 4 _ rfl; (with_reducible repeat (first | refine blk_drewN ?_ _ | refine blk_drew ?_ | refine blk_alloc ?_ _)); refine blk_put (cs := #[.bool ((rd_T61 l0 x17_1).f0.f0), .slice A242_1 ((rd_T61 l0 x17_1).f0.f1).length c242_1, .bool ((rd_T61 l0 x17_1).f1.f0), .slice none 0 0, .slice none 0 0, .slice none 0 0]) ?_ 3 _ rfl; (with_reducible repeat (first | refine blk_drewN ?_ _ | refine blk_drew ?_ | refine blk_alloc ?_ _)); refine blk_put (cs := #[.bool ((rd_T61 l0 x17_1).f0.f0), .slice A242_1 ((rd_T61 l0 x17_1).f0.f1).length c242_1, .bool false, .slice none 0 0, .slice none 0 0, .slice none 0 0]) ?_ 2 _ rfl; (with_reducible repeat (first | refine blk_drewN ?_ _ | refine blk_drew ?_ | refine blk_alloc ?_ _)); refine blk_put (cs := #[.bool ((rd_T61 l0 x17_1).f0.f0), .slice none 0 0, .bool false, .slice none 0 0, .slice none 0 0, .slice none 0 0]) ?_ 1 _ rfl; (with_reducible repeat (first | refine blk_drewN ?_ _ | refine blk_drew ?_ | refine blk_alloc ?_ _)); refine blk_put (cs := #[.bool false, .slice none 0 0, .bool false, .slice none 0 0, .slice none 0 0, .slice none 0 0]) ?_ 0 _ rfl; (with_reducible repeat (first | refine blk_drewN ?_ _ | refine blk_drew ?_ | refine blk_alloc ?_ _)); exact BK243.out) hb); have n2_ := Aside0.mk (below_step (by repeat (first | (with_reducible first | exact HB.out | apply below_alloc | apply pw_below_drewN | apply below_drew1 | refine below_set ?_ GE243.out) | exact HB.out)) hb); clear HO_4; clear BK243; clear HB; have HO_4 := n0_; have BK243 := n1_; have HB := n2_; clear n0_ n1_ n2_; (try clear hb); (try clear hb2); (try clear hk); (try clear hi)))
        have n0_ := Aside0.mk (Kd.R_drew HO_4.out)
        have n1_ := Aside0.mk (blk_drew BK243.out)
        have n2_ := Aside0.mk (below_drew1 HB.out)
        clear HO_4
        clear BK243
        clear HB
        have HO_4 := n0_
        have BK243 := n1_
        have HB := n2_
        clear n0_ n1_ n2_
        obtain ⟨Ao17, co17, eo17⟩ := Kd.R_slice HO_4.out
        (first | subst eo17 | (injection eo17 with f1_ f2_ f3_; have f4_ := f1_.symm; have f5_ := f3_.symm; clear f1_ f2_ f3_; subst f4_; subst f5_))
        refine start_ (n := 12) (S := fun w' => w'.cell? ⟨gb243, 0, none⟩ = some (.bool ((rd_T61 l0 x17_1).f0.f0)) ∧ w'.cell? ⟨gb243, 1, none⟩ = some (.slice A242_1 ((rd_T61 l0 x17_1).f0.f1).length c242_1) ∧ w'.cell? ⟨gb243, 2, none⟩ = some (.bool ((rd_T61 l0 x17_1).f1.f0)) ∧ w'.cell? ⟨gb243, 3, none⟩ = some (.slice A242_3 ((rd_T61 l0 x17_1).f1.f1).length c242_3) ∧ w'.cell? ⟨gb243, 4, none⟩ = some (.slice A242_4 ((rd_T61 l0 x17_1).f2).length c242_4) ∧ w'.cell? ⟨gb243, 5, none⟩ = some (.slice A242_5 ((rd_T61 l0 x17_1).f3).length c242_5)) (ds := []) #[false, false, false, false, false, false, false, false, false, false, false, false] (by kernel_rfl) rfl rfl ⟨(blk_cell BK243.out 0).trans rfl, (blk_cell BK243.out 1).trans rfl, (blk_cell BK243.out 2).trans rfl, (blk_cell BK243.out 3).trans rfl, (blk_cell BK243.out 4).trans rfl, (blk_cell BK243.out 5).trans rfl⟩ (fun hHeld => ?_); refine with_tabW store_Certs.tab9 store_Certs.bits9 (fun HT_ HW_ => ?_)
        generalize w15.drew = w16 at HO_4 BK243 HB hHeld ⊢
        refine pure_ (i := 0) (N := some 24) (v := ?_) (a' := ?_) #[true, false, false, false, false, false, false, false, false, false, false, false] rfl rfl (any_of HT_.out (by kernel_rfl)) (fun _ _ _ h => h) (Or.inl ⟨by rfl, ?_⟩) ?_ ?_
        rotate_left
        ·intro w'
         go_simp
         with_reducible rfl
        rotate_left
        ·simp only [Act.put, List.setIfInBounds_toArray, List.set_cons_zero, List.set_cons_succ, i64_w, i32_w]
         rfl
        refine pure_ (i := 1) (N := some 25) (v := ?_) (a' := ?_) #[true, true, false, false, false, false, false, false, false, false, false, false] rfl rfl (any_of HT_.out (by kernel_rfl)) (fun _ _ _ h => h) (Or.inl ⟨by rfl, ?_⟩) ?_ ?_
        rotate_left
        ·intro w'
         go_simp
         with_reducible rfl
        rotate_left
        ·simp only [Act.put, List.setIfInBounds_toArray, List.set_cons_zero, List.set_cons_succ, i64_w, i32_w]
         rfl
        refine pure_ (i := 4) (N := some 28) (v := ?_) (a' := ?_) #[true, true, false, false, true, false, false, false, false, false, false, false] rfl rfl (any_of HT_.out (by kernel_rfl)) (fun _ _ _ h => h) (Or.inl ⟨by rfl, ?_⟩) ?_ ?_
        rotate_left
        ·intro w'
         go_simp
         with_reducible rfl
        rotate_left
        ·simp only [Act.put, List.setIfInBounds_toArray, List.set_cons_zero, List.set_cons_succ, i64_w, i32_w]
         rfl
        refine pure_ (i := 7) (N := some 31) (v := ?_) (a' := ?_) #[true, true, false, false, true, false, false, true, false, false, false, false] rfl rfl (any_of HT_.out (by kernel_rfl)) (fun _ _ _ h => h) (Or.inl ⟨by rfl, ?_⟩) ?_ ?_
        rotate_left
        ·intro w'
         go_simp
         with_reducible rfl
        rotate_left
        ·simp only [Act.put, List.setIfInBounds_toArray, List.set_cons_zero, List.set_cons_succ, i64_w, i32_w]
         rfl
        refine take_ (i := 2) (N := some 26) (v := ?_) (a' := ?_) #[true, true, true, false, true, false, false, true, false, false, false, false] rfl rfl (take_ofW HT_.out HW_.out (by kernel_rfl)) (fun _ _ _ h => h) (Or.inl ⟨by rfl, ?_⟩) hHeld ?_ ?_
        rotate_left
        ·rintro w' ⟨s0, s1, s2, s3, s4, s5⟩
         go_simp
         with_reducible rfl
        rotate_left
        ·simp only [Act.put, List.setIfInBounds_toArray, List.set_cons_zero, List.set_cons_succ, i64_w, i32_w]
         rfl
        refine take_ (i := 5) (N := some 29) (v := ?_) (a' := ?_) #[true, true, true, false, true, true, false, true, false, false, false, false] rfl rfl (take_ofW HT_.out HW_.out (by kernel_rfl)) (fun _ _ _ h => h) (Or.inl ⟨by rfl, ?_⟩) hHeld ?_ ?_
        rotate_left
        ·rintro w' ⟨s0, s1, s2, s3, s4, s5⟩
         go_simp
         with_reducible rfl
        rotate_left
        ·simp only [Act.put, List.setIfInBounds_toArray, List.set_cons_zero, List.set_cons_succ, i64_w, i32_w]
         rfl
        refine take_ (i := 8) (N := some 32) (v := ?_) (a' := ?_) #[true, true, true, false, true, true, false, true, true, false, false, false] rfl rfl (take_ofW HT_.out HW_.out (by kernel_rfl)) (fun _ _ _ h => h) (Or.inl ⟨by rfl, ?_⟩) hHeld ?_ ?_
        rotate_left
        ·rintro w' ⟨s0, s1, s2, s3, s4, s5⟩
         go_simp
         with_reducible rfl
        rotate_left
        ·simp only [Act.put, List.setIfInBounds_toArray, List.set_cons_zero, List.set_cons_succ, i64_w, i32_w]
         rfl
        refine pure_ (i := 9) (N := some 33) (v := ?_) (a' := ?_) #[true, true, true, false, true, true, false, true, true, true, false, false] rfl rfl (any_of HT_.out (by kernel_rfl)) (fun _ _ _ h => h) (Or.inl ⟨by rfl, ?_⟩) ?_ ?_
        rotate_left
        ·intro w'
         go_simp
         with_reducible rfl
        rotate_left
        ·simp only [Act.put, List.setIfInBounds_toArray, List.set_cons_zero, List.set_cons_succ, i64_w, i32_w]
         rfl
        refine one_ (i := 3) (N := some 27) #[true, true, true, true, true, true, false, true, true, true, false, false] rfl rfl (one_of HT_.out (by kernel_rfl)) (by decide) (fun K hK => ?_)
        refine goes_ Try.func39 (by kernel_rfl) rfl #[.slice Ao17 x4_1.length co17, .agg #[.bool ((rd_T61 l0 x17_1).f0.f0), .slice A242_1 ((rd_T61 l0 x17_1).f0.f1).length c242_1]] (by rfl) rfl rfl (by (try simp only [List.map_toArray, List.map_cons, List.map_nil]); first | done | rfl | (simp only [List.length_drop, List.length_take]; rfl)) ?_
        with_reducible refine (store_number.calls k1 (fun k_ => some k_ = (.slice Ao17 x4_1.length co17 : Value).ownBlock) (.slice Ao17 x4_1.length co17) x4_1 ((rd_T61 l0 x17_1).f0.f0) _ _ ((rd_T61 l0 x17_1).f0.f1) t245 w _ ?side1 ?side2 ?side3 ?side4 A10.out).mono ?_
        (case side1 => repeat (first | (with_reducible first | exact HB.out | apply below_alloc | apply pw_below_drewN | apply below_drew1 | refine below_set ?_ GE243.out) | exact HB.out))
        (case side2 => exact Kd.R_tight rfl HO_4.out)
        (case side3 => exact Kd.C_kept_came (Kd.heap_int .u64) HR242_1.out (by repeat (first | (with_reducible first | exact HB.out | apply below_alloc | apply pw_below_drewN | apply below_drew1 | refine below_set ?_ GE243.out) | exact HB.out)) (fun k_ hs_ => (fun e_ => Kd.R_base HO_4.out k_ e_.symm) hs_))
        (case side4 => exact HC242_1.out)
        rintro e w18 ⟨v246, rfl, ho0, hb, hkp⟩
        refine ⟨_, rfl, ?_⟩
        have n0_ := Aside0.mk (blk_kept (by (with_reducible repeat (first | refine blk_drewN ?_ _ | refine blk_drew ?_ | refine blk_alloc ?_ _)); exact BK243.out) hkp (fun hs_ => (fun e_ => (Kd.R_ne HO_4.out BK243.out (by decide)) e_) hs_))
        have n1_ := Aside0.mk (Kd.R_mono (ok' := fun k_ => True) ho0 (fun k_ hk_ => trivial))
        have n2_ := Aside0.mk (hb)
        clear BK243
        clear HB
        clear HO_4
        have BK243 := n0_
        have HO247 := n1_
        have HB := n2_
        clear n0_ n1_ n2_
        (try clear hb)
        (try clear hkp)
        (try clear ho0)
        obtain ⟨Ao19, co19, eo19⟩ := Kd.R_slice HO247.out
        (first | subst eo19 | (injection eo19 with f1_ f2_ f3_; have f4_ := f1_.symm; have f5_ := f3_.symm; clear f1_ f2_ f3_; subst f4_; subst f5_))
        refine hK.out _ _ ⟨(blk_cell BK243.out 0).trans rfl, (blk_cell BK243.out 1).trans rfl, (blk_cell BK243.out 2).trans rfl, (blk_cell BK243.out 3).trans rfl, (blk_cell BK243.out 4).trans rfl, (blk_cell BK243.out 5).trans rfl⟩ (fun hHeld => ?_)
        clear hK K
        refine norm_ (a' := ?_) ?_ ?_
        rotate_left
        ·show Act.put _ (some 27) _ = _
         simp only [Act.put, List.setIfInBounds_toArray, List.set_cons_zero, List.set_cons_succ, i64_w, i32_w]
         rfl
        refine one_ (i := 6) (N := some 30) #[true, true, true, true, true, true, true, true, true, true, false, false] rfl rfl (one_of HT_.out (by kernel_rfl)) (by decide) (fun K hK => ?_)
        refine goes_ Try.func39 (by kernel_rfl) rfl #[.slice Ao19 t245.length co19, .agg #[.bool ((rd_T61 l0 x17_1).f1.f0), .slice A242_3 ((rd_T61 l0 x17_1).f1.f1).length c242_3]] (by rfl) rfl rfl (by (try simp only [List.map_toArray, List.map_cons, List.map_nil]); first | done | rfl | (simp only [List.length_drop, List.length_take]; rfl)) ?_
        with_reducible refine (store_number.calls k1 (fun k_ => some k_ = (.slice Ao19 t245.length co19 : Value).ownBlock) (.slice Ao19 t245.length co19) t245 ((rd_T61 l0 x17_1).f1.f0) _ _ ((rd_T61 l0 x17_1).f1.f1) t248 w _ ?side1 ?side2 ?side3 ?side4 A11.out).mono ?_
        (case side1 => repeat (first | (with_reducible first | exact HB.out | apply below_alloc | apply pw_below_drewN | apply below_drew1 | refine below_set ?_ GE243.out) | exact HB.out))
        (case side2 => exact Kd.R_tight rfl HO247.out)
        (case side3 => exact Kd.C_kept_came (Kd.heap_int .u64) HR242_3.out (by repeat (first | (with_reducible first | exact HB.out | apply below_alloc | apply pw_below_drewN | apply below_drew1 | refine below_set ?_ GE243.out) | exact HB.out)) (fun k_ hs_ => (fun e_ => Kd.R_base HO247.out k_ e_.symm) hs_))
        (case side4 => exact HC242_3.out)
        rintro e w20 ⟨v249, rfl, ho0, hb, hkp⟩
        refine ⟨_, rfl, ?_⟩
        have n0_ := Aside0.mk (blk_kept (by (with_reducible repeat (first | refine blk_drewN ?_ _ | refine blk_drew ?_ | refine blk_alloc ?_ _)); exact BK243.out) hkp (fun hs_ => (fun e_ => (Kd.R_ne HO247.out BK243.out (by decide)) e_) hs_))
        have n1_ := Aside0.mk (Kd.R_mono (ok' := fun k_ => True) ho0 (fun k_ hk_ => trivial))
        have n2_ := Aside0.mk (hb)
        clear BK243
        clear HB
        clear HO247
        have BK243 := n0_
        have HO250 := n1_
        have HB := n2_
        clear n0_ n1_ n2_
        (try clear hb)
        (try clear hkp)
        (try clear ho0)
        obtain ⟨Ao21, co21, eo21⟩ := Kd.R_slice HO250.out
        (first | subst eo21 | (injection eo21 with f1_ f2_ f3_; have f4_ := f1_.symm; have f5_ := f3_.symm; clear f1_ f2_ f3_; subst f4_; subst f5_))
        refine hK.out _ _ ⟨(blk_cell BK243.out 0).trans rfl, (blk_cell BK243.out 1).trans rfl, (blk_cell BK243.out 2).trans rfl, (blk_cell BK243.out 3).trans rfl, (blk_cell BK243.out 4).trans rfl, (blk_cell BK243.out 5).trans rfl⟩ (fun hHeld => ?_)
        clear hK K
        refine norm_ (a' := ?_) ?_ ?_
        rotate_left
        ·show Act.put _ (some 30) _ = _
         simp only [Act.put, List.setIfInBounds_toArray, List.set_cons_zero, List.set_cons_succ, i64_w, i32_w]
         rfl
        refine one_ (i := 10) (N := some 34) #[true, true, true, true, true, true, true, true, true, true, true, false] rfl rfl (one_of HT_.out (by kernel_rfl)) (by decide) (fun K hK => ?_)
        refine goes_ Try.func52 (by kernel_rfl) rfl #[.slice Ao21 t248.length co21, .int .i64 (((rd_T61 l0 x17_1).f2).length : Int)] (by rfl) rfl rfl (by (try simp only [List.map_toArray, List.map_cons, List.map_nil]); first | done | rfl | (simp only [List.length_drop, List.length_take]; rfl)) ?_
        with_reducible refine (store_groups.calls k1 (fun k_ => some k_ = (.slice Ao21 t248.length co21 : Value).ownBlock) (.slice Ao21 t248.length co21) t248 (((rd_T61 l0 x17_1).f2).length : Int) t251 w _ ?side1 ?side2 A12.out).mono ?_
        (case side1 => repeat (first | (with_reducible first | exact HB.out | apply below_alloc | apply pw_below_drewN | apply below_drew1 | refine below_set ?_ GE243.out) | exact HB.out))
        (case side2 => exact Kd.R_tight rfl HO250.out)
        rintro e w22 ⟨v252, rfl, ho0, hb, hkp⟩
        refine ⟨_, rfl, ?_⟩
        have n0_ := Aside0.mk (blk_kept (by (with_reducible repeat (first | refine blk_drewN ?_ _ | refine blk_drew ?_ | refine blk_alloc ?_ _)); exact BK243.out) hkp (fun hs_ => (fun e_ => (Kd.R_ne HO250.out BK243.out (by decide)) e_) hs_))
        have n1_ := Aside0.mk (Kd.R_mono (ok' := fun k_ => True) ho0 (fun k_ hk_ => trivial))
        have n2_ := Aside0.mk (hb)
        clear BK243
        clear HB
        clear HO250
        have BK243 := n0_
        have HO253 := n1_
        have HB := n2_
        clear n0_ n1_ n2_
        (try clear hb)
        (try clear hkp)
        (try clear ho0)
        refine hK.out _ _ ⟨(blk_cell BK243.out 0).trans rfl, (blk_cell BK243.out 1).trans rfl, (blk_cell BK243.out 2).trans rfl, (blk_cell BK243.out 3).trans rfl, (blk_cell BK243.out 4).trans rfl, (blk_cell BK243.out 5).trans rfl⟩ (fun hHeld => ?_)
        clear hK K
        refine norm_ (a' := ?_) ?_ ?_
        rotate_left
        ·show Act.put _ (some 34) _ = _
         simp only [Act.put, List.setIfInBounds_toArray, List.set_cons_zero, List.set_cons_succ, i64_w, i32_w]
         rfl
        refine pure_ (i := 11) (N := some 4) (v := ?_) (a' := ?_) #[true, true, true, true, true, true, true, true, true, true, true, true] rfl rfl (any_of HT_.out (by kernel_rfl)) (fun _ _ _ h => h) (Or.inl ⟨by rfl, ?_⟩) ?_ ?_
        rotate_left
        ·intro w'
         go_simp
         with_reducible rfl
        rotate_left
        ·simp only [Act.put, List.setIfInBounds_toArray, List.set_cons_zero, List.set_cons_succ, i64_w, i32_w]
         rfl
        refine done_ (done_of HT_.out (by kernel_rfl)) ?_
        have hcz23_0 : w22.cell? ⟨gb243, 0, none⟩ = some (.bool ((rd_T61 l0 x17_1).f0.f0)) := (blk_cell BK243.out 0).trans rfl
        have hcz23_1 : w22.cell? ⟨gb243, 1, none⟩ = some (.slice A242_1 ((rd_T61 l0 x17_1).f0.f1).length c242_1) := (blk_cell BK243.out 1).trans rfl
        have hcz23_2 : w22.cell? ⟨gb243, 2, none⟩ = some (.bool ((rd_T61 l0 x17_1).f1.f0)) := (blk_cell BK243.out 2).trans rfl
        have hcz23_3 : w22.cell? ⟨gb243, 3, none⟩ = some (.slice A242_3 ((rd_T61 l0 x17_1).f1.f1).length c242_3) := (blk_cell BK243.out 3).trans rfl
        have hcz23_4 : w22.cell? ⟨gb243, 4, none⟩ = some (.slice A242_4 ((rd_T61 l0 x17_1).f2).length c242_4) := (blk_cell BK243.out 4).trans rfl
        have hcz23_5 : w22.cell? ⟨gb243, 5, none⟩ = some (.slice A242_5 ((rd_T61 l0 x17_1).f3).length c242_5) := (blk_cell BK243.out 5).trans rfl
        have hfz23_0 := blk_frozen BK243.out 0
        have hfz23_1 := blk_frozen BK243.out 1
        have hfz23_2 := blk_frozen BK243.out 2
        have hfz23_3 := blk_frozen BK243.out 3
        have hfz23_4 := blk_frozen BK243.out 4
        have hfz23_5 := blk_frozen BK243.out 5
        try go_wp2
        go_loopg [4, 38] k1 (fun kq v4 v38 w' => ∃ (x4_2 : List Int) (x38_2 : Int), v38 = .int .i64 x38_2 ∧ Aside0 (store_Certs.l1 kq x4_2 l0 (l0.length : Int) x17_1 ((rd_T61 l0 x17_1).f2) (((rd_T61 l0 x17_1).f2).length : Int) x38_2 ((rd_T61 l0 x17_1).f0.f0) ((rd_T61 l0 x17_1).f0.f1) ((rd_T61 l0 x17_1).f1.f0) ((rd_T61 l0 x17_1).f1.f1) ((rd_T61 l0 x17_1).f2) ((rd_T61 l0 x17_1).f3) = some (r1, r2)) ∧ Aside0 (kq ≤ k1) ∧ Aside0 (Kd.R (Kd.int .u8) 5 w' w.heap.size (fun _ => True) v4 x4_2) ∧ Aside0 (w'.heap[gb243]? = some (.cells #[.bool ((rd_T61 l0 x17_1).f0.f0), (.slice A242_1 ((rd_T61 l0 x17_1).f0.f1).length c242_1), .bool ((rd_T61 l0 x17_1).f1.f0), (.slice A242_3 ((rd_T61 l0 x17_1).f1.f1).length c242_3), (.slice A242_4 ((rd_T61 l0 x17_1).f2).length c242_4), (.slice A242_5 ((rd_T61 l0 x17_1).f3).length c242_5)] 61 (0, 0))) ∧ Aside0 (Below w.heap.size w w'))
        case atStart => exact ⟨(t251), (0), (by first | rfl | (simp; done) | (simp [*]; done)), H', ⟨Nat.le_refl _⟩, ⟨by (with_reducible repeat (first | apply Kd.R_alloc | apply Kd.R_drewN | apply Kd.R_drew)); exact HO253.out⟩, ⟨by (with_reducible repeat (first | refine blk_drewN ?_ _ | refine blk_drew ?_ | refine blk_alloc ?_ _)); exact BK243.out⟩, ⟨by repeat (first | (with_reducible first | exact HB.out | apply below_alloc | apply pw_below_drewN | apply below_drew1 | refine below_set ?_ GE243.out) | exact HB.out)⟩⟩
        case round =>
         clear H'
         try clear c2
         try clear c2b0
         try clear c2b1
         try clear p2
         try clear q2
         try clear hx2
         try clear c3
         try clear c5
         try clear c5b0
         try clear c6
         try clear c6b0
         try clear c7
         try clear c7b0
         try clear c9
         try clear c20
         try clear hcz14_0
         try clear hcz14_1
         try clear hcz14_2
         try clear hcz14_3
         try clear hcz14_4
         try clear hcz14_5
         try clear hcz23_0
         try clear hcz23_1
         try clear hcz23_2
         try clear hcz23_3
         try clear hcz23_4
         try clear hcz23_5
         try clear hfz14_0
         try clear hfz14_1
         try clear hfz14_2
         try clear hfz14_3
         try clear hfz14_4
         try clear hfz14_5
         try clear hfz23_0
         try clear hfz23_1
         try clear hfz23_2
         try clear hfz23_3
         try clear hfz23_4
         try clear hfz23_5
         try clear hx242_0
         try clear hx242_1
         try clear hx242_2
         try clear hx242_3
         try clear hx242_4
         try clear hx242_5
         try clear p2
         try clear p242
         try clear q242
         obtain ⟨x4_2, x38_2, rfl, HA, HK2, HO_4, BK243, HB⟩ := hrel
         cases gk with
         | zero => exact absurd HA.out (by simp [store_Certs.l1])
         | succ k2 =>
          have H := HA.out
          clear HA
          simp only [store_Certs.l1] at H
          by_cases c24 : x38_2 < (((rd_T61 l0 x17_1).f2).length : Int)
          ·rw [if_pos c24] at H
           have c24b0 : decide (x38_2 < (((rd_T61 l0 x17_1).f2).length : Int)) = true := decide_eq_true c24
           clear c24
           by_cases c25 : 0 ≤ x38_2
           ·rw [if_pos c25] at H
            have c25b0 : decide (0 ≤ x38_2) = true := decide_eq_true c25
            clear c25
            by_cases c26 : x38_2 < (((rd_T61 l0 x17_1).f2).length : Int)
            ·rw [if_pos c26] at H
             have c26b0 : decide (x38_2 < (((rd_T61 l0 x17_1).f2).length : Int)) = true := decide_eq_true c26
             clear c26
             replace H := Option.bind_eq_some_iff.mp H
             obtain ⟨t255, A270, H⟩ := H
             replace H : (if x38_2 < (((rd_T61 l0 x17_1).f3).length : Int) then ((store_groups.f k2 t255 (rd ((rd_T61 l0 x17_1).f3) x38_2)).bind fun t259 => (store_Certs.l1 k2 t259 l0 (l0.length : Int) x17_1 ((rd_T61 l0 x17_1).f2) (((rd_T61 l0 x17_1).f2).length : Int) (wrap64 (x38_2 + 1)) ((rd_T61 l0 x17_1).f0.f0) ((rd_T61 l0 x17_1).f0.f1) ((rd_T61 l0 x17_1).f1.f0) ((rd_T61 l0 x17_1).f1.f1) ((rd_T61 l0 x17_1).f2) ((rd_T61 l0 x17_1).f3))) else (none)) = some (r1, r2) := H
             have A27 := Aside0.mk A270
             clear A270
             by_cases c28 : x38_2 < (((rd_T61 l0 x17_1).f3).length : Int)
             ·rw [if_pos c28] at H
              have c28b0 : decide (x38_2 < (((rd_T61 l0 x17_1).f3).length : Int)) = true := decide_eq_true c28
              clear c28
              replace H := Option.bind_eq_some_iff.mp H
              obtain ⟨t259, A290, H⟩ := H
              replace H : (store_Certs.l1 k2 t259 l0 (l0.length : Int) x17_1 ((rd_T61 l0 x17_1).f2) (((rd_T61 l0 x17_1).f2).length : Int) (wrap64 (x38_2 + 1)) ((rd_T61 l0 x17_1).f0.f0) ((rd_T61 l0 x17_1).f0.f1) ((rd_T61 l0 x17_1).f1.f0) ((rd_T61 l0 x17_1).f1.f1) ((rd_T61 l0 x17_1).f2) ((rd_T61 l0 x17_1).f3)) = some (r1, r2) := H
              have A29 := Aside0.mk A290
              clear A290
              have H' := Aside0.mk H
              clear H
              have p254 : 0 ≤ (x38_2 : Int) := of_decide_eq_true (by first | (with_reducible assumption) | assumption)
              have q254 : x38_2 < (((rd_T61 l0 x17_1).f2).length : Int) := of_decide_eq_true (by first | (with_reducible assumption) | assumption)
              obtain ⟨ad254, e254, hx254_0⟩ := Kd.at_int HR242_4.out x38_2 p254 q254
              cases e254
              replace hx254_0 := (HB.out.cell (World.block_lt_of_cell? w _ hx254_0)).trans hx254_0
              replace p254 := eq_true p254
              replace q254 := eq_true q254
              try go_wp2
              have n0_ := Aside0.mk (Kd.R_drew HO_4.out)
              have n1_ := Aside0.mk (blk_drew BK243.out)
              have n2_ := Aside0.mk (below_drew1 HB.out)
              clear HO_4
              clear BK243
              clear HB
              have HO_4 := n0_
              have BK243 := n1_
              have HB := n2_
              clear n0_ n1_ n2_
              have p258 : 0 ≤ (x38_2 : Int) := of_decide_eq_true (by first | (with_reducible assumption) | assumption)
              have q258 : x38_2 < (((rd_T61 l0 x17_1).f3).length : Int) := of_decide_eq_true (by first | (with_reducible assumption) | assumption)
              obtain ⟨ad258, e258, hx258_0⟩ := Kd.at_int HR242_5.out x38_2 p258 q258
              have hw258_0 := hx258_0
              cases e258
              replace hx258_0 := (HB.out.cell (World.block_lt_of_cell? w _ hx258_0)).trans hx258_0
              replace p258 := eq_true p258
              replace q258 := eq_true q258
              obtain ⟨Ao31, co31, eo31⟩ := Kd.R_slice HO_4.out
              (first | subst eo31 | (injection eo31 with f1_ f2_ f3_; have f4_ := f1_.symm; have f5_ := f3_.symm; clear f1_ f2_ f3_; subst f4_; subst f5_))
              refine start_ (n := 10) (S := fun w' => w'.cell? ⟨gb243, 0, none⟩ = some (.bool ((rd_T61 l0 x17_1).f0.f0)) ∧ w'.cell? ⟨gb243, 1, none⟩ = some (.slice A242_1 ((rd_T61 l0 x17_1).f0.f1).length c242_1) ∧ w'.cell? ⟨gb243, 2, none⟩ = some (.bool ((rd_T61 l0 x17_1).f1.f0)) ∧ w'.cell? ⟨gb243, 3, none⟩ = some (.slice A242_3 ((rd_T61 l0 x17_1).f1.f1).length c242_3) ∧ w'.cell? ⟨gb243, 4, none⟩ = some (.slice (some ad254) ((rd_T61 l0 x17_1).f2).length c242_4) ∧ w'.cell? ⟨gb243, 5, none⟩ = some (.slice (some ad258) ((rd_T61 l0 x17_1).f3).length c242_5) ∧ w'.cell? (ad258.add (x38_2).toNat) = some (.int .i64 (rd ((rd_T61 l0 x17_1).f3) x38_2))) (ds := []) #[false, false, false, false, false, false, false, false, false, false] (by kernel_rfl) rfl rfl ⟨(blk_cell BK243.out 0).trans rfl, (blk_cell BK243.out 1).trans rfl, (blk_cell BK243.out 2).trans rfl, (blk_cell BK243.out 3).trans rfl, (blk_cell BK243.out 4).trans rfl, (blk_cell BK243.out 5).trans rfl, ((HB.out.cell (World.block_lt_of_cell? w _ hw258_0)).trans hw258_0)⟩ (fun hHeld => ?_); refine with_tabW store_Certs.tab13 store_Certs.bits13 (fun HT_ HW_ => ?_)
              generalize wr.drew = w30 at HO_4 BK243 HB hx258_0 hHeld ⊢
              refine pure_ (i := 0) (N := some 43) (v := ?_) (a' := ?_) #[true, false, false, false, false, false, false, false, false, false] rfl rfl (any_of HT_.out (by kernel_rfl)) (fun _ _ _ h => h) (Or.inl ⟨by rfl, ?_⟩) ?_ ?_
              rotate_left
              ·intro w'
               go_simp
               with_reducible rfl
              rotate_left
              ·simp only [Act.put, List.setIfInBounds_toArray, List.set_cons_zero, List.set_cons_succ, i64_w, i32_w]
               rfl
              refine pure_ (i := 1) (N := some 44) (v := ?_) (a' := ?_) #[true, true, false, false, false, false, false, false, false, false] rfl rfl (any_of HT_.out (by kernel_rfl)) (fun _ _ _ h => h) (Or.inl ⟨by rfl, ?_⟩) ?_ ?_
              rotate_left
              ·intro w'
               go_simp
               with_reducible rfl
              rotate_left
              ·simp only [Act.put, List.setIfInBounds_toArray, List.set_cons_zero, List.set_cons_succ, i64_w, i32_w]
               rfl
              refine pure_ (i := 3) (N := some 46) (v := ?_) (a' := ?_) #[true, true, false, true, false, false, false, false, false, false] rfl rfl (any_of HT_.out (by kernel_rfl)) (fun _ _ _ h => h) (Or.inl ⟨by rfl, ?_⟩) ?_ ?_
              rotate_left
              ·intro w'
               go_simp
               with_reducible rfl
              rotate_left
              ·simp only [Act.put, List.setIfInBounds_toArray, List.set_cons_zero, List.set_cons_succ, i64_w, i32_w]
               rfl
              refine pure_ (i := 5) (N := some 48) (v := ?_) (a' := ?_) #[true, true, false, true, false, true, false, false, false, false] rfl rfl (any_of HT_.out (by kernel_rfl)) (fun _ _ _ h => h) (Or.inl ⟨by rfl, ?_⟩) ?_ ?_
              rotate_left
              ·intro w'
               go_simp
               with_reducible rfl
              rotate_left
              ·simp only [Act.put, List.setIfInBounds_toArray, List.set_cons_zero, List.set_cons_succ, i64_w, i32_w]
               rfl
              refine take_ (i := 4) (N := some 47) (v := ?_) (a' := ?_) #[true, true, false, true, true, true, false, false, false, false] rfl rfl (take_ofW HT_.out HW_.out (by kernel_rfl)) (fun _ _ _ h => h) (Or.inl ⟨by rfl, ?_⟩) hHeld ?_ ?_
              rotate_left
              ·rintro w' ⟨s0, s1, s2, s3, s4, s5, s6⟩
               go_simp
               with_reducible rfl
              rotate_left
              ·simp only [Act.put, List.setIfInBounds_toArray, List.set_cons_zero, List.set_cons_succ, i64_w, i32_w]
               rfl
              refine pure_ (i := 6) (N := some 49) (v := ?_) (a' := ?_) #[true, true, false, true, true, true, true, false, false, false] rfl rfl (any_of HT_.out (by kernel_rfl)) (fun _ _ _ h => h) (Or.inl ⟨by rfl, ?_⟩) ?_ ?_
              rotate_left
              ·intro w'
               go_simp
               with_reducible rfl
              rotate_left
              ·simp only [Act.put, List.setIfInBounds_toArray, List.set_cons_zero, List.set_cons_succ, i64_w, i32_w]
               rfl
              refine take_ (i := 7) (N := some 50) (v := ?_) (a' := ?_) #[true, true, false, true, true, true, true, true, false, false] rfl rfl (take_ofW HT_.out HW_.out (by kernel_rfl)) (fun _ _ _ h => h) (Or.inl ⟨by rfl, ?_⟩) hHeld ?_ ?_
              rotate_left
              ·rintro w' ⟨s0, s1, s2, s3, s4, s5, s6⟩
               go_simp
               with_reducible rfl
              rotate_left
              ·simp only [Act.put, List.setIfInBounds_toArray, List.set_cons_zero, List.set_cons_succ, i64_w, i32_w]
               rfl
              refine one_ (i := 2) (N := some 45) #[true, true, true, true, true, true, true, true, false, false] rfl rfl (one_of HT_.out (by kernel_rfl)) (by decide) (fun K hK => ?_)
              refine goes_ Try.func52 (by kernel_rfl) rfl #[.slice Ao31 x4_2.length co31, .int .i64 (rd ((rd_T61 l0 x17_1).f2) x38_2)] (by rfl) rfl rfl (by (try simp only [List.map_toArray, List.map_cons, List.map_nil]); first | done | rfl | (simp only [List.length_drop, List.length_take]; rfl)) ?_
              with_reducible refine (store_groups.calls k2 (fun k_ => some k_ = (.slice Ao31 x4_2.length co31 : Value).ownBlock) (.slice Ao31 x4_2.length co31) x4_2 (rd ((rd_T61 l0 x17_1).f2) x38_2) t255 w _ ?side1 ?side2 A27.out).mono ?_
              (case side1 => repeat (first | (with_reducible first | exact HB.out | apply below_alloc | apply pw_below_drewN | apply below_drew1 | refine below_set ?_ GE243.out) | exact HB.out))
              (case side2 => exact Kd.R_tight rfl HO_4.out)
              rintro e w32 ⟨v256, rfl, ho0, hb, hkp⟩
              refine ⟨_, rfl, ?_⟩
              have n0_ := Aside0.mk (blk_kept (by (with_reducible repeat (first | refine blk_drewN ?_ _ | refine blk_drew ?_ | refine blk_alloc ?_ _)); exact BK243.out) hkp (fun hs_ => (fun e_ => (Kd.R_ne HO_4.out BK243.out (by decide)) e_) hs_))
              have n1_ := Aside0.mk (Kd.R_mono (ok' := fun k_ => True) ho0 (fun k_ hk_ => trivial))
              have n2_ := Aside0.mk (hb)
              clear BK243
              clear HB
              clear HO_4
              have BK243 := n0_
              have HO257 := n1_
              have HB := n2_
              clear n0_ n1_ n2_
              (try clear hb)
              (try clear hkp)
              (try clear ho0)
              obtain ⟨Ao33, co33, eo33⟩ := Kd.R_slice HO257.out
              (first | subst eo33 | (injection eo33 with f1_ f2_ f3_; have f4_ := f1_.symm; have f5_ := f3_.symm; clear f1_ f2_ f3_; subst f4_; subst f5_))
              refine hK.out _ _ ⟨(blk_cell BK243.out 0).trans rfl, (blk_cell BK243.out 1).trans rfl, (blk_cell BK243.out 2).trans rfl, (blk_cell BK243.out 3).trans rfl, (blk_cell BK243.out 4).trans rfl, (blk_cell BK243.out 5).trans rfl, ((HB.out.cell (World.block_lt_of_cell? w _ hw258_0)).trans hw258_0)⟩ (fun hHeld => ?_)
              clear hK K
              refine norm_ (a' := ?_) ?_ ?_
              rotate_left
              ·show Act.put _ (some 45) _ = _
               simp only [Act.put, List.setIfInBounds_toArray, List.set_cons_zero, List.set_cons_succ, i64_w, i32_w]
               rfl
              refine one_ (i := 8) (N := some 51) #[true, true, true, true, true, true, true, true, true, false] rfl rfl (one_of HT_.out (by kernel_rfl)) (by decide) (fun K hK => ?_)
              refine goes_ Try.func52 (by kernel_rfl) rfl #[.slice Ao33 t255.length co33, .int .i64 (rd ((rd_T61 l0 x17_1).f3) x38_2)] (by rfl) rfl rfl (by (try simp only [List.map_toArray, List.map_cons, List.map_nil]); first | done | rfl | (simp only [List.length_drop, List.length_take]; rfl)) ?_
              with_reducible refine (store_groups.calls k2 (fun k_ => some k_ = (.slice Ao33 t255.length co33 : Value).ownBlock) (.slice Ao33 t255.length co33) t255 (rd ((rd_T61 l0 x17_1).f3) x38_2) t259 w _ ?side1 ?side2 A29.out).mono ?_
              (case side1 => repeat (first | (with_reducible first | exact HB.out | apply below_alloc | apply pw_below_drewN | apply below_drew1 | refine below_set ?_ GE243.out) | exact HB.out))
              (case side2 => exact Kd.R_tight rfl HO257.out)
              rintro e w34 ⟨v260, rfl, ho0, hb, hkp⟩
              refine ⟨_, rfl, ?_⟩
              have n0_ := Aside0.mk (blk_kept (by (with_reducible repeat (first | refine blk_drewN ?_ _ | refine blk_drew ?_ | refine blk_alloc ?_ _)); exact BK243.out) hkp (fun hs_ => (fun e_ => (Kd.R_ne HO257.out BK243.out (by decide)) e_) hs_))
              have n1_ := Aside0.mk (Kd.R_mono (ok' := fun k_ => True) ho0 (fun k_ hk_ => trivial))
              have n2_ := Aside0.mk (hb)
              clear BK243
              clear HB
              clear HO257
              have BK243 := n0_
              have HO261 := n1_
              have HB := n2_
              clear n0_ n1_ n2_
              (try clear hb)
              (try clear hkp)
              (try clear ho0)
              refine hK.out _ _ ⟨(blk_cell BK243.out 0).trans rfl, (blk_cell BK243.out 1).trans rfl, (blk_cell BK243.out 2).trans rfl, (blk_cell BK243.out 3).trans rfl, (blk_cell BK243.out 4).trans rfl, (blk_cell BK243.out 5).trans rfl, ((HB.out.cell (World.block_lt_of_cell? w _ hw258_0)).trans hw258_0)⟩ (fun hHeld => ?_)
              clear hK K
              refine norm_ (a' := ?_) ?_ ?_
              rotate_left
              ·show Act.put _ (some 51) _ = _
               simp only [Act.put, List.setIfInBounds_toArray, List.set_cons_zero, List.set_cons_succ, i64_w, i32_w]
               rfl
              refine pure_ (i := 9) (N := some 4) (v := ?_) (a' := ?_) #[true, true, true, true, true, true, true, true, true, true] rfl rfl (any_of HT_.out (by kernel_rfl)) (fun _ _ _ h => h) (Or.inl ⟨by rfl, ?_⟩) ?_ ?_
              rotate_left
              ·intro w'
               go_simp
               with_reducible rfl
              rotate_left
              ·simp only [Act.put, List.setIfInBounds_toArray, List.set_cons_zero, List.set_cons_succ, i64_w, i32_w]
               rfl
              refine done_ (done_of HT_.out (by kernel_rfl)) ?_
              try go_wp2
              go_roundg k2
              case measure => have := HK1.out; have := HK2.out; omega
              case rel => exact ⟨(t259), (wrap64 (x38_2 + 1)), (by first | rfl | (simp; done) | (simp [*]; done)), H', ⟨by have := HK1.out; have := HK2.out; omega⟩, ⟨by (with_reducible repeat (first | apply Kd.R_alloc | apply Kd.R_drewN | apply Kd.R_drew)); exact HO261.out⟩, ⟨by (with_reducible repeat (first | refine blk_drewN ?_ _ | refine blk_drew ?_ | refine blk_alloc ?_ _)); exact BK243.out⟩, ⟨by repeat (first | (with_reducible first | exact HB.out | apply below_alloc | apply pw_below_drewN | apply below_drew1 | refine below_set ?_ GE243.out) | exact HB.out)⟩⟩
             ·rw [if_neg c28] at H
              exact absurd H (by simp)
            ·rw [if_neg c26] at H
             exact absurd H (by simp)
           ·rw [if_neg c25] at H
            exact absurd H (by simp)
          ·rw [if_neg c24] at H
           have c24b0 : decide (x38_2 < (((rd_T61 l0 x17_1).f2).length : Int)) = false := decide_eq_false c24
           clear c24
           have H' := Aside0.mk H
           clear H
           go_wp2
           go_roundg k2
           case measure => have := HK1.out; have := HK2.out; omega
           case rel => exact ⟨(x4_2), (wrap64 (x17_1 + 1)), (by first | rfl | (simp; done) | (simp [*]; done)), H', ⟨by have := HK1.out; have := HK2.out; omega⟩, ⟨by (with_reducible repeat (first | apply Kd.R_alloc | apply Kd.R_drewN | apply Kd.R_drew)); exact HO_4.out⟩, ⟨by repeat (first | (with_reducible first | exact HB.out | apply below_alloc | apply pw_below_drewN | apply below_drew1 | refine below_set ?_ GE243.out) | exact HB.out)⟩⟩
       ·replace c9 := Bool.eq_false_iff.mpr c9
        subst c9
        have H1 : (some (([] : List Int), 2)) = some (r1, r2) := by rw [if_neg (show ¬ (false = true) by decide)] at H; exact H
        clear H
        have H := H1
        clear H1
        simp only [Option.some.injEq, Prod.mk.injEq] at H
        obtain ⟨rfl, rfl⟩ := H
        have p242 : 0 ≤ (x17_1 : Int) := of_decide_eq_true (by first | (with_reducible assumption) | assumption)
        have q242 : x17_1 < (l0.length : Int) := of_decide_eq_true (by first | (with_reducible assumption) | assumption)
        obtain ⟨ad242, A242_1, c242_1, A242_3, c242_3, A242_4, c242_4, A242_5, c242_5, e242, hx242_0, hx242_1, hx242_2, hx242_3, hx242_4, hx242_5, hl242_1, hi242_1, hl242_3, hi242_3, hl242_4, hi242_4, hl242_5, hi242_5⟩ := at_T61 HR0.out x17_1 p242 q242
        cases e242
        replace hx242_0 := (HB.out.cell (World.block_lt_of_cell? w _ hx242_0)).trans hx242_0
        replace hx242_1 := (HB.out.cell (World.block_lt_of_cell? w _ hx242_1)).trans hx242_1
        replace hx242_2 := (HB.out.cell (World.block_lt_of_cell? w _ hx242_2)).trans hx242_2
        replace hx242_3 := (HB.out.cell (World.block_lt_of_cell? w _ hx242_3)).trans hx242_3
        replace hx242_4 := (HB.out.cell (World.block_lt_of_cell? w _ hx242_4)).trans hx242_4
        replace hx242_5 := (HB.out.cell (World.block_lt_of_cell? w _ hx242_5)).trans hx242_5
        have HR242_1 := Aside0.mk hi242_1
        have HC242_1 := Aside0.mk hl242_1
        clear hi242_1 hl242_1
        have HR242_3 := Aside0.mk hi242_3
        have HC242_3 := Aside0.mk hl242_3
        clear hi242_3 hl242_3
        have HR242_4 := Aside0.mk hi242_4
        have HC242_4 := Aside0.mk hl242_4
        clear hi242_4 hl242_4
        have HR242_5 := Aside0.mk hi242_5
        have HC242_5 := Aside0.mk hl242_5
        clear hi242_5 hl242_5
        replace p242 := eq_true p242
        replace q242 := eq_true q242
        go_wp2_with (first | ((with_reducible refine gate_dst (N := 6) rfl ?_); refine box_event ?hg (N := 6) ?hd (cs := #[.bool false, .slice none 0 0, .bool false, .slice none 0 0, .slice none 0 0, .slice none 0 0]) (t := 61) ?hr ?_; (case hd => rfl); (case hg => rfl); (case hr => first | (go_simp; done) | (go_simp; rfl)); intro gb243 hg w35 hbox hb; have n0_ := Aside0.mk (Kd.R_below (by (with_reducible repeat (first | apply Kd.R_alloc | apply Kd.R_drewN | apply Kd.R_drew)); exact HO_4.out) hb); have n1_ := Aside0.mk (below_step (by repeat (first | (with_reducible first | exact HB.out | apply below_alloc | apply pw_below_drewN | apply below_drew1) | exact HB.out)) hb); have n2_ := Aside0.mk (hbox); have n3_ := Aside0.mk ((by rw [hg]; exact (below_size (by repeat (first | (with_reducible first | exact HB.out | apply below_alloc | apply pw_below_drewN | apply below_drew1) | exact HB.out))) : w.heap.size ≤ gb243)); have n4_ := Aside0.mk ((by rw [hg]; exact (below_size (by repeat (first | (with_reducible first | exact HB.out | apply below_alloc | apply pw_below_drewN | apply below_drew1) | exact HB.out))) : w.heap.size ≤ gb243)); clear HO_4; clear HB; have HO_4 := n0_; have HB := n1_; have BK243 := n2_; have GW243 := n3_; have GE243 := n4_; clear n0_ n1_ n2_ n3_ n4_; clear hb hbox hg; have hcz36_0 : w35.cell? ⟨gb243, 0, none⟩ = some (.bool false) := (blk_cell BK243.out 0).trans rfl; have hcz36_1 : w35.cell? ⟨gb243, 1, none⟩ = some (.slice none 0 0) := (blk_cell BK243.out 1).trans rfl; have hcz36_2 : w35.cell? ⟨gb243, 2, none⟩ = some (.bool false) := (blk_cell BK243.out 2).trans rfl; have hcz36_3 : w35.cell? ⟨gb243, 3, none⟩ = some (.slice none 0 0) := (blk_cell BK243.out 3).trans rfl; have hcz36_4 : w35.cell? ⟨gb243, 4, none⟩ = some (.slice none 0 0) := (blk_cell BK243.out 4).trans rfl; have hcz36_5 : w35.cell? ⟨gb243, 5, none⟩ = some (.slice none 0 0) := (blk_cell BK243.out 5).trans rfl; have hfz36_0 := blk_frozen BK243.out 0; have hfz36_1 := blk_frozen BK243.out 1; have hfz36_2 := blk_frozen BK243.out 2; have hfz36_3 := blk_frozen BK243.out 3; have hfz36_4 := blk_frozen BK243.out 4; have hfz36_5 := blk_frozen BK243.out 5) | ((with_reducible refine gate_callee (f := 53) rfl ?_); refine goesL_ (some 22) rfl rfl Try.func53 (by kernel_rfl) rfl #[.agg #[.bool ((rd_T61 l0 x17_1).f0.f0), .slice A242_1 ((rd_T61 l0 x17_1).f0.f1).length c242_1, .bool ((rd_T61 l0 x17_1).f1.f0), .slice A242_3 ((rd_T61 l0 x17_1).f1.f1).length c242_3, .slice A242_4 ((rd_T61 l0 x17_1).f2).length c242_4, .slice A242_5 ((rd_T61 l0 x17_1).f3).length c242_5]] rfl (by (try simp only [List.map_toArray, List.map_cons, List.map_nil]); first | done | rfl | (simp only [List.length_drop, List.length_take]; rfl)) ?_; (with_reducible refine (store_may.calls k1 ((rd_T61 l0 x17_1).f0.f0) _ _ ((rd_T61 l0 x17_1).f0.f1) ((rd_T61 l0 x17_1).f1.f0) _ _ ((rd_T61 l0 x17_1).f1.f1) _ _ ((rd_T61 l0 x17_1).f2) _ _ ((rd_T61 l0 x17_1).f3) false _ ?side1 ?side2 ?side3 ?side4 ?side5 ?side6 ?side7 ?side8 A8.out).mono ?_); (case side1 => exact Kd.C_below HR242_1.out (by repeat (first | (with_reducible first | exact HB.out | apply below_alloc | apply pw_below_drewN | apply below_drew1 | refine below_set ?_ GE243.out) | exact HB.out))); (case side2 => exact HC242_1.out); (case side3 => exact Kd.C_below HR242_3.out (by repeat (first | (with_reducible first | exact HB.out | apply below_alloc | apply pw_below_drewN | apply below_drew1 | refine below_set ?_ GE243.out) | exact HB.out))); (case side4 => exact HC242_3.out); (case side5 => exact Kd.C_below HR242_4.out (by repeat (first | (with_reducible first | exact HB.out | apply below_alloc | apply pw_below_drewN | apply below_drew1 | refine below_set ?_ GE243.out) | exact HB.out))); (case side6 => exact HC242_4.out); (case side7 => exact Kd.C_below HR242_5.out (by repeat (first | (with_reducible first | exact HB.out | apply below_alloc | apply pw_below_drewN | apply below_drew1 | refine below_set ?_ GE243.out) | exact HB.out))); (case side8 => exact HC242_5.out); rintro e w37 ⟨rfl, hb⟩; refine ⟨_, rfl, ?_⟩; have n0_ := Aside0.mk (Kd.R_below (by (with_reducible repeat (first | apply Kd.R_alloc | apply Kd.R_drewN | apply Kd.R_drew)); exact (Kd.R_mono (Kd.R_far (p := ⟨gb243, 5, none⟩) (Kd.R_far (p := ⟨gb243, 4, none⟩) (Kd.R_far (p := ⟨gb243, 3, none⟩) (Kd.R_far (p := ⟨gb243, 2, none⟩) (Kd.R_far (p := ⟨gb243, 1, none⟩) (Kd.R_far (p := ⟨gb243, 0, none⟩) (Kd.R_types HO_4.out BK243.out (by decide)) (fun _ hk => hk.2) (.bool ((rd_T61 l0 x17_1).f0.f0))) (fun _ hk => hk.2) (.slice A242_1 ((rd_T61 l0 x17_1).f0.f1).length c242_1)) (fun _ hk => hk.2) (.bool ((rd_T61 l0 x17_1).f1.f0))) (fun _ hk => hk.2) (.slice A242_3 ((rd_T61 l0 x17_1).f1.f1).length c242_3)) (fun _ hk => hk.2) (.slice A242_4 ((rd_T61 l0 x17_1).f2).length c242_4)) (fun _ hk => hk.2) (.slice A242_5 ((rd_T61 l0 x17_1).f3).length c242_5)) (fun _ h_ => h_.1))) hb); have n1_ := Aside0.mk (blk_below (g := gb243) (o := .cells #[.bool ((rd_T61 l0 x17_1).f0.f0), .slice A242_1 ((rd_T61 l0 x17_1).f0.f1).length c242_1, .bool ((rd_T61 l0 x17_1).f1.f0), .slice A242_3 ((rd_T61 l0 x17_1).f1.f1).length c242_3, .slice A242_4 ((rd_T61 l0 x17_1).f2).length c242_4, .slice A242_5 ((rd_T61 l0 x17_1).f3).length c242_5] 61 (0, 0)) (by (with_reducible repeat (first | refine blk_drewN ?_ _ | refine blk_drew ?_ | refine blk_alloc ?_ _)); refine blk_put (cs := #[.bool ((rd_T61 l0 x17_1).f0.f0), .slice A242_1 ((rd_T61 l0 x17_1).f0.f1).length c242_1, .bool ((rd_T61 l0 x17_1).f1.f0), .slice A242_3 ((rd_T61 l0 x17_1).f1.f1).length c242_3, .slice A242_4 ((rd_T61 l0 x17_1).f2).length c242_4, .slice none 0 0]) ?_ 5 _ rfl; (with_reducible repeat (first | refine blk_drewN ?_ _ | refine blk_drew ?_ | refine blk_alloc ?_ _)); refine blk_put (cs := #[.bool ((rd_T61 l0 x17_1).f0.f0), .slice A242_1 ((rd_T61 l0 x17_1).f0.f1).length c242_1, .bool ((rd_T61 l0 x17_1).f1.f0), .slice A242_3 ((rd_T61 l0 x17_1).f1.f1).length c242_3, .slice none 0 0, .slice none 0 0]) ?_ 4 _ rfl; (with_reducible repeat (first | refine blk_drewN ?_ _ | refine blk_drew ?_ | refine blk_alloc ?_ _)); refine blk_put (cs := #[.bool ((rd_T61 l0 x17_1).f0.f0), .slice A242_1 ((rd_T61 l0 x17_1).f0.f1).length c242_1, .bool ((rd_T61 l0 x17_1).f1.f0), .slice none 0 0, .slice none 0 0, .slice none 0 0]) ?_ 3 _ rfl; (with_reducible repeat (first | refine blk_drewN ?_ _ | refine blk_drew ?_ | refine blk_alloc ?_ _)); refine blk_put (cs := #[.bool ((rd_T61 l0 x17_1).f0.f0), .slice A242_1 ((rd_T61 l0 x17_1).f0.f1).length c242_1, .bool false, .slice none 0 0, .slice none 0 0, .slice none 0 0]) ?_ 2 _ rfl; (with_reducible repeat (first | refine blk_drewN ?_ _ | refine blk_drew ?_ | refine blk_alloc ?_ _)); refine blk_put (cs := #[.bool ((rd_T61 l0 x17_1).f0.f0), .slice none 0 0, .bool false, .slice none 0 0, .slice none 0 0, .slice none 0 0]) ?_ 1 _ rfl; (with_reducible repeat (first | refine blk_drewN ?_ _ | refine blk_drew ?_ | refine blk_alloc ?_ _)); refine blk_put (cs := #[.bool false, .slice none 0 0, .bool false, .slice none 0 0, .slice none 0 0, .slice none 0 0]) ?_ 0 _ rfl; (with_reducible repeat (first | refine blk_drewN ?_ _ | refine blk_drew ?_ | refine blk_alloc ?_ _)); exact BK243.out) hb); have n2_ := Aside0.mk (below_step (by repeat (first | (with_reducible first | exact HB.out | apply below_alloc | apply pw_below_drewN | apply below_drew1 | refine below_set ?_ GE243.out) | exact HB.out)) hb); clear HO_4; clear BK243; clear HB; have HO_4 := n0_; have BK243 := n1_; have HB := n2_; clear n0_ n1_ n2_; (try clear hb); (try clear hb2); (try clear hk); (try clear hi)))
        go_ret2
        exact ⟨_, by first | rfl | (simp [errW_none, errW_some] <;> rfl) | (simp [*, errW_none, errW_some] <;> rfl), by first | exact Kd.R_nil _ _ _ _ _ | exact Kd.N_nil _ _ _ _ _ | exact Kd.V_nil _ _ _ _ _ | exact Kd.Q_nil _ _ _ _ _ | exact Kd.S_nil _ _ _ _ _, by repeat (first | (with_reducible first | exact HB.out | apply below_alloc | apply pw_below_drewN | apply below_drew1 | refine below_set ?_ GE243.out) | exact HB.out)⟩
      ·rw [if_neg c7] at H
       exact absurd H (by simp)
     ·rw [if_neg c6] at H
      exact absurd H (by simp)
    ·rw [if_neg c5] at H
     have c5b0 : decide (x17_1 < (l0.length : Int)) = false := decide_eq_false c5
     clear c5
     simp only [Option.some.injEq, Prod.mk.injEq] at H
     obtain ⟨rfl, rfl⟩ := H
     go_wp2
     go_ret2
     exact ⟨_, by first | rfl | (simp [errW_none, errW_some] <;> rfl) | (simp [*, errW_none, errW_some] <;> rfl), by (with_reducible repeat (first | apply Kd.R_alloc | apply Kd.R_drewN | apply Kd.R_drew)); exact HO_4.out, by repeat (first | (with_reducible first | exact HB.out | apply below_alloc | apply pw_below_drewN | apply below_drew1) | exact HB.out)⟩
end Go.Proofs.Ytoheamfnddfgkaa.PB
