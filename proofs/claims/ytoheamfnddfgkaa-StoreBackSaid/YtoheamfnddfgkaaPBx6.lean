-- Written by a program of this session (pp.sh: the kit's print with some functions' texts given by hand).
import Derived.Test.YtoheamfnddfgkaaPBx0
import Derived.Test.YtoheamfnddfgkaaPBx1
import Derived.Test.YtoheamfnddfgkaaPBx5
namespace Go.Proofs.Ytoheamfnddfgkaa.PB
open Go.RowKit Go.Proofs.YtoheamfnddfgkaaW.PrintWords Go.Proofs.YtoheamfnddfgkaaW.PrintLast Go.Proofs.YtoheamfnddfgkaaW.PrintMore
attribute [local go_sem] max2_int min2_int max_two min_two max_three min_three max_four min_four   -- for this text's walks alone
set_option linter.unusedVariables false
set_option linter.unusedSimpArgs false

/-! ### store_Certs: function 20 -/
mutual
def store_Certs.l0 : Nat → List Int → List (S61) → Int → Int → Option (List Int × Int)
  | 0, _, _, _, _ => none
  | k + 1, x4, x15, x16, x17 => if x17 < x16 then (if 0 ≤ x17 then (if x17 < (x15.length : Int) then ((store_may.f k ((rd_T61 x15 x17).f0.f0) ((rd_T61 x15 x17).f0.f1) ((rd_T61 x15 x17).f1.f0) ((rd_T61 x15 x17).f1.f1) ((rd_T61 x15 x17).f2) ((rd_T61 x15 x17).f3)).bind fun t159 => (if t159 = true then ((store_number.f k x4 ((rd_T61 x15 x17).f0.f0) ((rd_T61 x15 x17).f0.f1)).bind fun t160 => ((store_number.f k t160 ((rd_T61 x15 x17).f1.f0) ((rd_T61 x15 x17).f1.f1)).bind fun t163 => ((store_groups.f k t163 (((rd_T61 x15 x17).f2).length : Int)).bind fun t166 => (store_Certs.l1 k t166 x15 x16 x17 ((rd_T61 x15 x17).f2) (((rd_T61 x15 x17).f2).length : Int) 0 ((rd_T61 x15 x17).f0.f0) ((rd_T61 x15 x17).f0.f1) ((rd_T61 x15 x17).f1.f0) ((rd_T61 x15 x17).f1.f1) ((rd_T61 x15 x17).f2) ((rd_T61 x15 x17).f3))))) else (some (([] : List Int), 2)))) else (none)) else (none)) else (some (x4, 0))
def store_Certs.l1 : Nat → List Int → List (S61) → Int → Int → List Int → Int → Int → Bool → List Int → Bool → List Int → List Int → List Int → Option (List Int × Int)
  | 0, _, _, _, _, _, _, _, _, _, _, _, _, _ => none
  | k + 1, x4, x15, x16, x17, x36, x37, x38, x159000, x159001, x159002, x159003, x159004, x159005 => if x38 < x37 then (if 0 ≤ x38 then (if x38 < (x36.length : Int) then ((store_groups.f k x4 (rd x36 x38)).bind fun t170 => (if x38 < (x159005.length : Int) then ((store_groups.f k t170 (rd x159005 x38)).bind fun t174 => (store_Certs.l1 k t174 x15 x16 x17 x36 x37 (wrap64 (x38 + 1)) x159000 x159001 x159002 x159003 x159004 x159005)) else (none))) else (none)) else (none)) else (store_Certs.l0 k x4 x15 x16 (wrap64 (x17 + 1)))
end
def store_Certs.f (k : Nat) (l0 : List (S61)) : Option (List Int × Int) := if (l0.length : Int) > 64 then (some (([] : List Int), 3)) else ((store_groups.f k ([] : List Int) (l0.length : Int)).bind fun t154 => (store_Certs.l0 k t154 l0 (l0.length : Int) 0))
def store_Certs.T9 : Bool × List (List Nat × List Nat) := (true, [([], []), ([], []), ([1], [1]), ([0, 2], [0, 2]), ([], []), ([4], [4]), ([3, 5, 3], [3, 5]), ([], []), ([7], [7]), ([8], [8]), ([6, 9, 6], [6, 9]), ([10, 10, 0, 1, 2, 3, 4, 5, 6, 7, 8, 9, 10], [0, 10])])
def store_Certs.B9 : List Nat := [0, 0, 2, 7, 0, 16, 63, 0, 128, 384, 1023, 2047]
theorem store_Certs.tab9 : rtab .any (opsOf Try.f20 9) = store_Certs.T9 := by kernel_rfl
theorem store_Certs.bits9 : waitsOk store_Certs.T9.2 store_Certs.B9 = true := by kernel_rfl
def store_Certs.T13 : Bool × List (List Nat × List Nat) := (true, [([], []), ([], []), ([0, 1], [0, 1]), ([], []), ([3], [3]), ([], []), ([4, 5], [4, 5]), ([6], [6]), ([2, 7, 2], [2, 7]), ([8, 8, 0, 1, 2, 3, 4, 5, 6, 7, 8], [0, 8])])
def store_Certs.B13 : List Nat := [0, 0, 3, 0, 8, 0, 56, 120, 255, 511]
theorem store_Certs.tab13 : rtab .any (opsOf Try.f20 13) = store_Certs.T13 := by kernel_rfl
theorem store_Certs.bits13 : waitsOk store_Certs.T13.2 store_Certs.B13 = true := by kernel_rfl
set_option maxHeartbeats 8000000 in
set_option maxRecDepth 100000 in
theorem store_Certs.calls (k : Nat) (A0 : Option Addr) (c0 : Nat) (l0 : List (S61)) (r1 : List Int) (r2 : Int) (w : World) (hr0 : Kd.C k61 w A0 l0.length l0) (hc0 : l0.length ≤ c0) (h : store_Certs.f k l0 = some (r1, r2)) :
    Calls Try.prog 20 #[.slice A0 l0.length c0] w fun e w' => ∃ v0_ : Value, e = .returned (.tuple #[v0_, .int .i64 r2]) ∧ Kd.R (Kd.int .u8) 5 w' w.heap.size (fun _ => True) v0_ r1 ∧ Below w.heap.size w w' := by
  have hu61 := Try.underlying61
  have hu24 := Try.underlying24
  have HR0 := Aside0.mk hr0
  have HC0 := Aside0.mk hc0
  clear hr0 hc0
  have HB := Aside0.mk (Below.refl w.heap.size w)
  have H : (if (l0.length : Int) > 64 then (some (([] : List Int), 3)) else ((store_groups.f k ([] : List Int) (l0.length : Int)).bind fun t154 => (store_Certs.l0 k t154 l0 (l0.length : Int) 0))) = some (r1, r2) := h
  clear h
  by_cases c2 : (l0.length : Int) > 64
  · rw [if_pos c2] at H
    have c2b0 : decide (64 < (l0.length : Int)) = true := decide_eq_true c2
    have c2b1 : decide (64 < l0.length) = true := decide_eq_true (by omega)
    clear c2
    simp only [Option.some.injEq, Prod.mk.injEq] at H
    obtain ⟨rfl, rfl⟩ := H
    go_enter Try.func20, Try.ntmps20
    go_wp2
    go_ret2
    exact ⟨_, by first | rfl | (simp [errW_none, errW_some] <;> rfl) | (simp [*, errW_none, errW_some] <;> rfl), by first | exact Kd.R_nil _ _ _ _ _ | exact Kd.N_nil _ _ _ _ _ | exact Kd.V_nil _ _ _ _ _ | exact Kd.Q_nil _ _ _ _ _ | exact Kd.S_nil _ _ _ _ _, by repeat (first | (with_reducible first | exact HB.out | apply below_alloc | apply pw_below_drewN | apply below_drew1) | exact HB.out)⟩
  · rw [if_neg c2] at H
    have c2b0 : decide (64 < (l0.length : Int)) = false := decide_eq_false c2
    have c2b1 : decide (64 < l0.length) = false := decide_eq_false (by omega)
    clear c2
    replace H := Option.bind_eq_some_iff.mp H
    obtain ⟨t154, A30, H⟩ := H
    replace H : (store_Certs.l0 k t154 l0 (l0.length : Int) 0) = some (r1, r2) := H
    have A3 := Aside0.mk A30
    clear A30
    have H' := Aside0.mk H
    clear H
    go_enter Try.func20, Try.ntmps20
    go_wp2_with (first | ((with_reducible refine gate_callee (f := 52) rfl ?_); refine goesL_ (some 14) rfl rfl Try.func52 (by kernel_rfl) rfl #[.slice none 0 0, .int .i64 (l0.length : Int)] rfl (by (try simp only [List.map_toArray, List.map_cons, List.map_nil]); first | done | rfl | (simp only [List.length_drop, List.length_take]; rfl)) ?_; (refine (store_groups.calls k (fun k_ => some k_ = (.slice none 0 0 : Value).ownBlock) (.slice none 0 0) ([] : List Int) (l0.length : Int) t154 w _ ?side1 ?side2 A3.out).mono ?_); (case side1 => repeat (first | (with_reducible first | exact HB.out | apply below_alloc | apply pw_below_drewN | apply below_drew1) | exact HB.out)); (case side2 => exact Kd.R_nil _ _ _ _ _); rintro e w4 ⟨v155, rfl, ho0, hb, hkp⟩; refine ⟨_, rfl, ?_⟩; have n0_ := Aside0.mk (Kd.R_mono (ok' := fun k_ => True) ho0 (fun k_ hk_ => trivial)); have n1_ := Aside0.mk (hb); clear HB; have HO156 := n0_; have HB := n1_; clear n0_ n1_; (try clear hb); (try clear hkp); (try clear ho0)))
    go_loopg [4, 17] k (fun kq v4 v17 w' => ∃ (x4_1 : List Int) (x17_1 : Int), v17 = .int .i64 x17_1 ∧ Aside0 (store_Certs.l0 kq x4_1 l0 (l0.length : Int) x17_1 = some (r1, r2)) ∧ Aside0 (kq ≤ k) ∧ Aside0 (Kd.R (Kd.int .u8) 5 w' w.heap.size (fun _ => True) v4 x4_1) ∧ Aside0 (Below w.heap.size w w'))
    case atStart => exact ⟨(t154), (0), (by first | rfl | (simp; done) | (simp [*]; done)), H', ⟨Nat.le_refl _⟩, ⟨by (with_reducible repeat (first | apply Kd.R_alloc | apply Kd.R_drewN | apply Kd.R_drew)); exact HO156.out⟩, ⟨by repeat (first | (with_reducible first | exact HB.out | apply below_alloc | apply pw_below_drewN | apply below_drew1) | exact HB.out)⟩⟩
    case round =>
      clear H'
      try clear c2
      try clear c2b0
      try clear c2b1
      try clear p2
      obtain ⟨x4_1, x17_1, rfl, HA, HK1, HO_4, HB⟩ := hrel
      cases gk with
      | zero => exact absurd HA.out (by simp [store_Certs.l0])
      | succ k1 =>
        have H := HA.out
        clear HA
        simp only [store_Certs.l0] at H
        by_cases c5 : x17_1 < (l0.length : Int)
        · rw [if_pos c5] at H
          have c5b0 : decide (x17_1 < (l0.length : Int)) = true := decide_eq_true c5
          clear c5
          by_cases c6 : 0 ≤ x17_1
          · rw [if_pos c6] at H
            have c6b0 : decide (0 ≤ x17_1) = true := decide_eq_true c6
            clear c6
            by_cases c7 : x17_1 < (l0.length : Int)
            · rw [if_pos c7] at H
              have c7b0 : decide (x17_1 < (l0.length : Int)) = true := decide_eq_true c7
              clear c7
              replace H := Option.bind_eq_some_iff.mp H
              obtain ⟨t159, A80, H⟩ := H
              replace H : (if t159 = true then ((store_number.f k1 x4_1 ((rd_T61 l0 x17_1).f0.f0) ((rd_T61 l0 x17_1).f0.f1)).bind fun t160 => ((store_number.f k1 t160 ((rd_T61 l0 x17_1).f1.f0) ((rd_T61 l0 x17_1).f1.f1)).bind fun t163 => ((store_groups.f k1 t163 (((rd_T61 l0 x17_1).f2).length : Int)).bind fun t166 => (store_Certs.l1 k1 t166 l0 (l0.length : Int) x17_1 ((rd_T61 l0 x17_1).f2) (((rd_T61 l0 x17_1).f2).length : Int) 0 ((rd_T61 l0 x17_1).f0.f0) ((rd_T61 l0 x17_1).f0.f1) ((rd_T61 l0 x17_1).f1.f0) ((rd_T61 l0 x17_1).f1.f1) ((rd_T61 l0 x17_1).f2) ((rd_T61 l0 x17_1).f3))))) else (some (([] : List Int), 2))) = some (r1, r2) := H
              have A8 := Aside0.mk A80
              clear A80
              by_cases c9 : t159 = true
              · subst c9
                have H1 : ((store_number.f k1 x4_1 ((rd_T61 l0 x17_1).f0.f0) ((rd_T61 l0 x17_1).f0.f1)).bind fun t160 => ((store_number.f k1 t160 ((rd_T61 l0 x17_1).f1.f0) ((rd_T61 l0 x17_1).f1.f1)).bind fun t163 => ((store_groups.f k1 t163 (((rd_T61 l0 x17_1).f2).length : Int)).bind fun t166 => (store_Certs.l1 k1 t166 l0 (l0.length : Int) x17_1 ((rd_T61 l0 x17_1).f2) (((rd_T61 l0 x17_1).f2).length : Int) 0 ((rd_T61 l0 x17_1).f0.f0) ((rd_T61 l0 x17_1).f0.f1) ((rd_T61 l0 x17_1).f1.f0) ((rd_T61 l0 x17_1).f1.f1) ((rd_T61 l0 x17_1).f2) ((rd_T61 l0 x17_1).f3))))) = some (r1, r2) := by rw [if_pos rfl] at H; exact H
                clear H
                have H := H1
                clear H1
                replace H := Option.bind_eq_some_iff.mp H
                obtain ⟨t160, A100, H⟩ := H
                replace H : ((store_number.f k1 t160 ((rd_T61 l0 x17_1).f1.f0) ((rd_T61 l0 x17_1).f1.f1)).bind fun t163 => ((store_groups.f k1 t163 (((rd_T61 l0 x17_1).f2).length : Int)).bind fun t166 => (store_Certs.l1 k1 t166 l0 (l0.length : Int) x17_1 ((rd_T61 l0 x17_1).f2) (((rd_T61 l0 x17_1).f2).length : Int) 0 ((rd_T61 l0 x17_1).f0.f0) ((rd_T61 l0 x17_1).f0.f1) ((rd_T61 l0 x17_1).f1.f0) ((rd_T61 l0 x17_1).f1.f1) ((rd_T61 l0 x17_1).f2) ((rd_T61 l0 x17_1).f3)))) = some (r1, r2) := H
                have A10 := Aside0.mk A100
                clear A100
                replace H := Option.bind_eq_some_iff.mp H
                obtain ⟨t163, A110, H⟩ := H
                replace H : ((store_groups.f k1 t163 (((rd_T61 l0 x17_1).f2).length : Int)).bind fun t166 => (store_Certs.l1 k1 t166 l0 (l0.length : Int) x17_1 ((rd_T61 l0 x17_1).f2) (((rd_T61 l0 x17_1).f2).length : Int) 0 ((rd_T61 l0 x17_1).f0.f0) ((rd_T61 l0 x17_1).f0.f1) ((rd_T61 l0 x17_1).f1.f0) ((rd_T61 l0 x17_1).f1.f1) ((rd_T61 l0 x17_1).f2) ((rd_T61 l0 x17_1).f3))) = some (r1, r2) := H
                have A11 := Aside0.mk A110
                clear A110
                replace H := Option.bind_eq_some_iff.mp H
                obtain ⟨t166, A120, H⟩ := H
                replace H : (store_Certs.l1 k1 t166 l0 (l0.length : Int) x17_1 ((rd_T61 l0 x17_1).f2) (((rd_T61 l0 x17_1).f2).length : Int) 0 ((rd_T61 l0 x17_1).f0.f0) ((rd_T61 l0 x17_1).f0.f1) ((rd_T61 l0 x17_1).f1.f0) ((rd_T61 l0 x17_1).f1.f1) ((rd_T61 l0 x17_1).f2) ((rd_T61 l0 x17_1).f3)) = some (r1, r2) := H
                have A12 := Aside0.mk A120
                clear A120
                have H' := Aside0.mk H
                clear H
                have p157 : 0 ≤ (x17_1 : Int) := of_decide_eq_true (by first | (with_reducible assumption) | assumption)
                have q157 : x17_1 < (l0.length : Int) := of_decide_eq_true (by first | (with_reducible assumption) | assumption)
                obtain ⟨ad157, A157_1, c157_1, A157_3, c157_3, A157_4, c157_4, A157_5, c157_5, e157, hx157_0, hx157_1, hx157_2, hx157_3, hx157_4, hx157_5, hl157_1, hi157_1, hl157_3, hi157_3, hl157_4, hi157_4, hl157_5, hi157_5⟩ := at_T61 HR0.out x17_1 p157 q157
                cases e157
                replace hx157_0 := (HB.out.cell (World.block_lt_of_cell? w _ hx157_0)).trans hx157_0
                replace hx157_1 := (HB.out.cell (World.block_lt_of_cell? w _ hx157_1)).trans hx157_1
                replace hx157_2 := (HB.out.cell (World.block_lt_of_cell? w _ hx157_2)).trans hx157_2
                replace hx157_3 := (HB.out.cell (World.block_lt_of_cell? w _ hx157_3)).trans hx157_3
                replace hx157_4 := (HB.out.cell (World.block_lt_of_cell? w _ hx157_4)).trans hx157_4
                replace hx157_5 := (HB.out.cell (World.block_lt_of_cell? w _ hx157_5)).trans hx157_5
                have HR157_1 := Aside0.mk hi157_1
                have HC157_1 := Aside0.mk hl157_1
                clear hi157_1 hl157_1
                have HR157_3 := Aside0.mk hi157_3
                have HC157_3 := Aside0.mk hl157_3
                clear hi157_3 hl157_3
                have HR157_4 := Aside0.mk hi157_4
                have HC157_4 := Aside0.mk hl157_4
                clear hi157_4 hl157_4
                have HR157_5 := Aside0.mk hi157_5
                have HC157_5 := Aside0.mk hl157_5
                clear hi157_5 hl157_5
                replace p157 := eq_true p157
                replace q157 := eq_true q157
                try go_wp2_with (first | ((with_reducible refine gate_dst (N := 6) rfl ?_); refine box_event ?hg (N := 6) ?hd (cs := #[.bool false, .slice none 0 0, .bool false, .slice none 0 0, .slice none 0 0, .slice none 0 0]) (t := 61) ?hr ?_; (case hd => rfl); (case hg => rfl); (case hr => first | (go_simp; done) | (go_simp; rfl)); intro gb158 hg w13 hbox hb; have n0_ := Aside0.mk (Kd.R_below (by (with_reducible repeat (first | apply Kd.R_alloc | apply Kd.R_drewN | apply Kd.R_drew)); exact HO_4.out) hb); have n1_ := Aside0.mk (below_step (by repeat (first | (with_reducible first | exact HB.out | apply below_alloc | apply pw_below_drewN | apply below_drew1) | exact HB.out)) hb); have n2_ := Aside0.mk (hbox); have n3_ := Aside0.mk ((by rw [hg]; exact (below_size (by repeat (first | (with_reducible first | exact HB.out | apply below_alloc | apply pw_below_drewN | apply below_drew1) | exact HB.out))) : w.heap.size ≤ gb158)); have n4_ := Aside0.mk ((by rw [hg]; exact (below_size (by repeat (first | (with_reducible first | exact HB.out | apply below_alloc | apply pw_below_drewN | apply below_drew1) | exact HB.out))) : w.heap.size ≤ gb158)); clear HO_4; clear HB; have HO_4 := n0_; have HB := n1_; have BK158 := n2_; have GW158 := n3_; have GE158 := n4_; clear n0_ n1_ n2_ n3_ n4_; clear hb hbox hg; have hcz14_0 : w13.cell? ⟨gb158, 0, none⟩ = some (.bool false) := (blk_cell BK158.out 0).trans rfl; have hcz14_1 : w13.cell? ⟨gb158, 1, none⟩ = some (.slice none 0 0) := (blk_cell BK158.out 1).trans rfl; have hcz14_2 : w13.cell? ⟨gb158, 2, none⟩ = some (.bool false) := (blk_cell BK158.out 2).trans rfl; have hcz14_3 : w13.cell? ⟨gb158, 3, none⟩ = some (.slice none 0 0) := (blk_cell BK158.out 3).trans rfl; have hcz14_4 : w13.cell? ⟨gb158, 4, none⟩ = some (.slice none 0 0) := (blk_cell BK158.out 4).trans rfl; have hcz14_5 : w13.cell? ⟨gb158, 5, none⟩ = some (.slice none 0 0) := (blk_cell BK158.out 5).trans rfl; have hfz14_0 := blk_frozen BK158.out 0; have hfz14_1 := blk_frozen BK158.out 1; have hfz14_2 := blk_frozen BK158.out 2; have hfz14_3 := blk_frozen BK158.out 3; have hfz14_4 := blk_frozen BK158.out 4; have hfz14_5 := blk_frozen BK158.out 5) | ((with_reducible refine gate_callee (f := 53) rfl ?_); refine goesL_ (some 22) rfl rfl Try.func53 (by kernel_rfl) rfl #[.agg #[.bool ((rd_T61 l0 x17_1).f0.f0), .slice A157_1 ((rd_T61 l0 x17_1).f0.f1).length c157_1, .bool ((rd_T61 l0 x17_1).f1.f0), .slice A157_3 ((rd_T61 l0 x17_1).f1.f1).length c157_3, .slice A157_4 ((rd_T61 l0 x17_1).f2).length c157_4, .slice A157_5 ((rd_T61 l0 x17_1).f3).length c157_5]] rfl (by (try simp only [List.map_toArray, List.map_cons, List.map_nil]); first | done | rfl | (simp only [List.length_drop, List.length_take]; rfl)) ?_; (with_reducible refine (store_may.calls k1 ((rd_T61 l0 x17_1).f0.f0) _ _ ((rd_T61 l0 x17_1).f0.f1) ((rd_T61 l0 x17_1).f1.f0) _ _ ((rd_T61 l0 x17_1).f1.f1) _ _ ((rd_T61 l0 x17_1).f2) _ _ ((rd_T61 l0 x17_1).f3) true _ ?side1 ?side2 ?side3 ?side4 ?side5 ?side6 ?side7 ?side8 A8.out).mono ?_); (case side1 => exact Kd.C_below HR157_1.out (by repeat (first | (with_reducible first | exact HB.out | apply below_alloc | apply pw_below_drewN | apply below_drew1 | refine below_set ?_ GE158.out) | exact HB.out))); (case side2 => exact HC157_1.out); (case side3 => exact Kd.C_below HR157_3.out (by repeat (first | (with_reducible first | exact HB.out | apply below_alloc | apply pw_below_drewN | apply below_drew1 | refine below_set ?_ GE158.out) | exact HB.out))); (case side4 => exact HC157_3.out); (case side5 => exact Kd.C_below HR157_4.out (by repeat (first | (with_reducible first | exact HB.out | apply below_alloc | apply pw_below_drewN | apply below_drew1 | refine below_set ?_ GE158.out) | exact HB.out))); (case side6 => exact HC157_4.out); (case side7 => exact Kd.C_below HR157_5.out (by repeat (first | (with_reducible first | exact HB.out | apply below_alloc | apply pw_below_drewN | apply below_drew1 | refine below_set ?_ GE158.out) | exact HB.out))); (case side8 => exact HC157_5.out); rintro e w15 ⟨rfl, hb⟩; refine ⟨_, rfl, ?_⟩; have n0_ := Aside0.mk (Kd.R_below (by (with_reducible repeat (first | apply Kd.R_alloc | apply Kd.R_drewN | apply Kd.R_drew)); exact (Kd.R_mono (Kd.R_far (p := ⟨gb158, 5, none⟩) (Kd.R_far (p := ⟨gb158, 4, none⟩) (Kd.R_far (p := ⟨gb158, 3, none⟩) (Kd.R_far (p := ⟨gb158, 2, none⟩) (Kd.R_far (p := ⟨gb158, 1, none⟩) (Kd.R_far (p := ⟨gb158, 0, none⟩) (Kd.R_types HO_4.out BK158.out (by decide)) (fun _ hk => hk.2) (.bool ((rd_T61 l0 x17_1).f0.f0))) (fun _ hk => hk.2) (.slice A157_1 ((rd_T61 l0 x17_1).f0.f1).length c157_1)) (fun _ hk => hk.2) (.bool ((rd_T61 l0 x17_1).f1.f0))) (fun _ hk => hk.2) (.slice A157_3 ((rd_T61 l0 x17_1).f1.f1).length c157_3)) (fun _ hk => hk.2) (.slice A157_4 ((rd_T61 l0 x17_1).f2).length c157_4)) (fun _ hk => hk.2) (.slice A157_5 ((rd_T61 l0 x17_1).f3).length c157_5)) (fun _ h_ => h_.1))) hb); have n1_ := Aside0.mk (blk_below (g := gb158) (o := .cells #[.bool ((rd_T61 l0 x17_1).f0.f0), .slice A157_1 ((rd_T61 l0 x17_1).f0.f1).length c157_1, .bool ((rd_T61 l0 x17_1).f1.f0), .slice A157_3 ((rd_T61 l0 x17_1).f1.f1).length c157_3, .slice A157_4 ((rd_T61 l0 x17_1).f2).length c157_4, .slice A157_5 ((rd_T61 l0 x17_1).f3).length c157_5] 61 (0, 0)) (by (with_reducible repeat (first | refine blk_drewN ?_ _ | refine blk_drew ?_ | refine blk_alloc ?_ _)); refine blk_put (cs := #[.bool ((rd_T61 l0 x17_1).f0.f0), .slice A157_1 ((rd_T61 l0 x17_1).f0.f1).length c157_1, .bool ((rd_T61 l0 x17_1).f1.f0), .slice A157_3 ((rd_T61 l0 x17_1).f1.f1).length c157_3, .slice A157_4 ((rd_T61 l0 x17_1).f2).length c157_4, .slice none 0 0]) ?_ 5 _ rfl; (with_reducible repeat (first | refine blk_drewN ?_ _ | refine blk_drew ?_ | refine blk_alloc ?_ _)); refine blk_put (cs := #[.bool ((rd_T61 l0 x17_1).f0.f0), .slice A157_1 ((rd_T61 l0 x17_1).f0.f1).length c157_1, .bool ((rd_T61 l0 x17_1).f1.f0), .slice A157_3 ((rd_T61 l0 x17_1).f1.f1).length c157_3, .slice none 0 0, .slice none 0 0]) ?_ 4 _ rfl; (with_reducible repeat (first | refine blk_drewN ?_ _ | refine blk_drew ?_ | refine blk_alloc ?_ _)); refine blk_put (cs := #[.bool ((rd_T61 l0 x17_1).f0.f0), .slice A157_1 ((rd_T61 l0 x17_1).f0.f1).length c157_1, .bool ((rd_T61 l0 x17_1).f1.f0), .slice none 0 0, .slice none 0 0, .slice none 0 0]) ?_ 3 _ rfl; (with_reducible repeat (first | refine blk_drewN ?_ _ | refine blk_drew ?_ | refine blk_alloc ?_ _)); refine blk_put (cs := #[.bool ((rd_T61 l0 x17_1).f0.f0), .slice A157_1 ((rd_T61 l0 x17_1).f0.f1).length c157_1, .bool false, .slice none 0 0, .slice none 0 0, .slice none 0 0]) ?_ 2 _ rfl; (with_reducible repeat (first | refine blk_drewN ?_ _ | refine blk_drew ?_ | refine blk_alloc ?_ _)); refine blk_put (cs := #[.bool ((rd_T61 l0 x17_1).f0.f0), .slice none 0 0, .bool false, .slice none 0 0, .slice none 0 0, .slice none 0 0]) ?_ 1 _ rfl; (with_reducible repeat (first | refine blk_drewN ?_ _ | refine blk_drew ?_ | refine blk_alloc ?_ _)); refine blk_put (cs := #[.bool false, .slice none 0 0, .bool false, .slice none 0 0, .slice none 0 0, .slice none 0 0]) ?_ 0 _ rfl; (with_reducible repeat (first | refine blk_drewN ?_ _ | refine blk_drew ?_ | refine blk_alloc ?_ _)); exact BK158.out) hb); have n2_ := Aside0.mk (below_step (by repeat (first | (with_reducible first | exact HB.out | apply below_alloc | apply pw_below_drewN | apply below_drew1 | refine below_set ?_ GE158.out) | exact HB.out)) hb); clear HO_4; clear BK158; clear HB; have HO_4 := n0_; have BK158 := n1_; have HB := n2_; clear n0_ n1_ n2_; (try clear hb); (try clear hb2); (try clear hk); (try clear hi)))
                have n0_ := Aside0.mk (Kd.R_drew HO_4.out)
                have n1_ := Aside0.mk (blk_drew BK158.out)
                have n2_ := Aside0.mk (below_drew1 HB.out)
                clear HO_4
                clear BK158
                clear HB
                have HO_4 := n0_
                have BK158 := n1_
                have HB := n2_
                clear n0_ n1_ n2_
                obtain ⟨Ao17, co17, eo17⟩ := Kd.R_slice HO_4.out
                (first | subst eo17 | (injection eo17 with f1_ f2_ f3_; have f4_ := f1_.symm; have f5_ := f3_.symm; clear f1_ f2_ f3_; subst f4_; subst f5_))
                refine start_ (n := 12) (S := fun w' => w'.cell? ⟨gb158, 0, none⟩ = some (.bool ((rd_T61 l0 x17_1).f0.f0)) ∧ w'.cell? ⟨gb158, 1, none⟩ = some (.slice A157_1 ((rd_T61 l0 x17_1).f0.f1).length c157_1) ∧ w'.cell? ⟨gb158, 2, none⟩ = some (.bool ((rd_T61 l0 x17_1).f1.f0)) ∧ w'.cell? ⟨gb158, 3, none⟩ = some (.slice A157_3 ((rd_T61 l0 x17_1).f1.f1).length c157_3) ∧ w'.cell? ⟨gb158, 4, none⟩ = some (.slice A157_4 ((rd_T61 l0 x17_1).f2).length c157_4) ∧ w'.cell? ⟨gb158, 5, none⟩ = some (.slice A157_5 ((rd_T61 l0 x17_1).f3).length c157_5)) (ds := []) #[false, false, false, false, false, false, false, false, false, false, false, false] (by kernel_rfl) rfl rfl ⟨(blk_cell BK158.out 0).trans rfl, (blk_cell BK158.out 1).trans rfl, (blk_cell BK158.out 2).trans rfl, (blk_cell BK158.out 3).trans rfl, (blk_cell BK158.out 4).trans rfl, (blk_cell BK158.out 5).trans rfl⟩ (fun hHeld => ?_); refine with_tabW store_Certs.tab9 store_Certs.bits9 (fun HT_ HW_ => ?_)
                generalize w15.drew = w16 at HO_4 BK158 HB hHeld ⊢
                refine pure_ (i := 0) (N := some 24) (v := ?_) (a' := ?_) #[true, false, false, false, false, false, false, false, false, false, false, false] rfl rfl (any_of HT_.out (by kernel_rfl)) (fun _ _ _ h => h) (Or.inl ⟨by rfl, ?_⟩) ?_ ?_
                rotate_left
                · intro w'
                  go_simp
                  with_reducible rfl
                rotate_left
                · simp only [Act.put, List.setIfInBounds_toArray, List.set_cons_zero, List.set_cons_succ, i64_w, i32_w]
                  rfl
                refine pure_ (i := 1) (N := some 25) (v := ?_) (a' := ?_) #[true, true, false, false, false, false, false, false, false, false, false, false] rfl rfl (any_of HT_.out (by kernel_rfl)) (fun _ _ _ h => h) (Or.inl ⟨by rfl, ?_⟩) ?_ ?_
                rotate_left
                · intro w'
                  go_simp
                  with_reducible rfl
                rotate_left
                · simp only [Act.put, List.setIfInBounds_toArray, List.set_cons_zero, List.set_cons_succ, i64_w, i32_w]
                  rfl
                refine pure_ (i := 4) (N := some 28) (v := ?_) (a' := ?_) #[true, true, false, false, true, false, false, false, false, false, false, false] rfl rfl (any_of HT_.out (by kernel_rfl)) (fun _ _ _ h => h) (Or.inl ⟨by rfl, ?_⟩) ?_ ?_
                rotate_left
                · intro w'
                  go_simp
                  with_reducible rfl
                rotate_left
                · simp only [Act.put, List.setIfInBounds_toArray, List.set_cons_zero, List.set_cons_succ, i64_w, i32_w]
                  rfl
                refine pure_ (i := 7) (N := some 31) (v := ?_) (a' := ?_) #[true, true, false, false, true, false, false, true, false, false, false, false] rfl rfl (any_of HT_.out (by kernel_rfl)) (fun _ _ _ h => h) (Or.inl ⟨by rfl, ?_⟩) ?_ ?_
                rotate_left
                · intro w'
                  go_simp
                  with_reducible rfl
                rotate_left
                · simp only [Act.put, List.setIfInBounds_toArray, List.set_cons_zero, List.set_cons_succ, i64_w, i32_w]
                  rfl
                refine take_ (i := 2) (N := some 26) (v := ?_) (a' := ?_) #[true, true, true, false, true, false, false, true, false, false, false, false] rfl rfl (take_ofW HT_.out HW_.out (by kernel_rfl)) (fun _ _ _ h => h) (Or.inl ⟨by rfl, ?_⟩) hHeld ?_ ?_
                rotate_left
                · rintro w' ⟨s0, s1, s2, s3, s4, s5⟩
                  go_simp
                  with_reducible rfl
                rotate_left
                · simp only [Act.put, List.setIfInBounds_toArray, List.set_cons_zero, List.set_cons_succ, i64_w, i32_w]
                  rfl
                refine take_ (i := 5) (N := some 29) (v := ?_) (a' := ?_) #[true, true, true, false, true, true, false, true, false, false, false, false] rfl rfl (take_ofW HT_.out HW_.out (by kernel_rfl)) (fun _ _ _ h => h) (Or.inl ⟨by rfl, ?_⟩) hHeld ?_ ?_
                rotate_left
                · rintro w' ⟨s0, s1, s2, s3, s4, s5⟩
                  go_simp
                  with_reducible rfl
                rotate_left
                · simp only [Act.put, List.setIfInBounds_toArray, List.set_cons_zero, List.set_cons_succ, i64_w, i32_w]
                  rfl
                refine take_ (i := 8) (N := some 32) (v := ?_) (a' := ?_) #[true, true, true, false, true, true, false, true, true, false, false, false] rfl rfl (take_ofW HT_.out HW_.out (by kernel_rfl)) (fun _ _ _ h => h) (Or.inl ⟨by rfl, ?_⟩) hHeld ?_ ?_
                rotate_left
                · rintro w' ⟨s0, s1, s2, s3, s4, s5⟩
                  go_simp
                  with_reducible rfl
                rotate_left
                · simp only [Act.put, List.setIfInBounds_toArray, List.set_cons_zero, List.set_cons_succ, i64_w, i32_w]
                  rfl
                refine pure_ (i := 9) (N := some 33) (v := ?_) (a' := ?_) #[true, true, true, false, true, true, false, true, true, true, false, false] rfl rfl (any_of HT_.out (by kernel_rfl)) (fun _ _ _ h => h) (Or.inl ⟨by rfl, ?_⟩) ?_ ?_
                rotate_left
                · intro w'
                  go_simp
                  with_reducible rfl
                rotate_left
                · simp only [Act.put, List.setIfInBounds_toArray, List.set_cons_zero, List.set_cons_succ, i64_w, i32_w]
                  rfl
                refine one_ (i := 3) (N := some 27) #[true, true, true, true, true, true, false, true, true, true, false, false] rfl rfl (one_of HT_.out (by kernel_rfl)) (by decide) (fun K hK => ?_)
                refine goes_ Try.func39 (by kernel_rfl) rfl #[.slice Ao17 x4_1.length co17, .agg #[.bool ((rd_T61 l0 x17_1).f0.f0), .slice A157_1 ((rd_T61 l0 x17_1).f0.f1).length c157_1]] (by rfl) rfl rfl (by (try simp only [List.map_toArray, List.map_cons, List.map_nil]); first | done | rfl | (simp only [List.length_drop, List.length_take]; rfl)) ?_
                with_reducible refine (store_number.calls k1 (fun k_ => some k_ = (.slice Ao17 x4_1.length co17 : Value).ownBlock) (.slice Ao17 x4_1.length co17) x4_1 ((rd_T61 l0 x17_1).f0.f0) _ _ ((rd_T61 l0 x17_1).f0.f1) t160 w _ ?side1 ?side2 ?side3 ?side4 A10.out).mono ?_
                (case side1 => repeat (first | (with_reducible first | exact HB.out | apply below_alloc | apply pw_below_drewN | apply below_drew1 | refine below_set ?_ GE158.out) | exact HB.out))
                (case side2 => exact Kd.R_tight rfl HO_4.out)
                (case side3 => exact Kd.C_kept_came (Kd.heap_int .u64) HR157_1.out (by repeat (first | (with_reducible first | exact HB.out | apply below_alloc | apply pw_below_drewN | apply below_drew1 | refine below_set ?_ GE158.out) | exact HB.out)) (fun k_ hs_ => (fun e_ => Kd.R_base HO_4.out k_ e_.symm) hs_))
                (case side4 => exact HC157_1.out)
                rintro e w18 ⟨v161, rfl, ho0, hb, hkp⟩
                refine ⟨_, rfl, ?_⟩
                have n0_ := Aside0.mk (blk_kept (by (with_reducible repeat (first | refine blk_drewN ?_ _ | refine blk_drew ?_ | refine blk_alloc ?_ _)); exact BK158.out) hkp (fun hs_ => (fun e_ => (Kd.R_ne HO_4.out BK158.out (by decide)) e_) hs_))
                have n1_ := Aside0.mk (Kd.R_mono (ok' := fun k_ => True) ho0 (fun k_ hk_ => trivial))
                have n2_ := Aside0.mk (hb)
                clear BK158
                clear HB
                clear HO_4
                have BK158 := n0_
                have HO162 := n1_
                have HB := n2_
                clear n0_ n1_ n2_
                (try clear hb)
                (try clear hkp)
                (try clear ho0)
                obtain ⟨Ao19, co19, eo19⟩ := Kd.R_slice HO162.out
                (first | subst eo19 | (injection eo19 with f1_ f2_ f3_; have f4_ := f1_.symm; have f5_ := f3_.symm; clear f1_ f2_ f3_; subst f4_; subst f5_))
                refine hK.out _ _ ⟨(blk_cell BK158.out 0).trans rfl, (blk_cell BK158.out 1).trans rfl, (blk_cell BK158.out 2).trans rfl, (blk_cell BK158.out 3).trans rfl, (blk_cell BK158.out 4).trans rfl, (blk_cell BK158.out 5).trans rfl⟩ (fun hHeld => ?_)
                clear hK K
                refine norm_ (a' := ?_) ?_ ?_
                rotate_left
                · show Act.put _ (some 27) _ = _
                  simp only [Act.put, List.setIfInBounds_toArray, List.set_cons_zero, List.set_cons_succ, i64_w, i32_w]
                  rfl
                refine one_ (i := 6) (N := some 30) #[true, true, true, true, true, true, true, true, true, true, false, false] rfl rfl (one_of HT_.out (by kernel_rfl)) (by decide) (fun K hK => ?_)
                refine goes_ Try.func39 (by kernel_rfl) rfl #[.slice Ao19 t160.length co19, .agg #[.bool ((rd_T61 l0 x17_1).f1.f0), .slice A157_3 ((rd_T61 l0 x17_1).f1.f1).length c157_3]] (by rfl) rfl rfl (by (try simp only [List.map_toArray, List.map_cons, List.map_nil]); first | done | rfl | (simp only [List.length_drop, List.length_take]; rfl)) ?_
                with_reducible refine (store_number.calls k1 (fun k_ => some k_ = (.slice Ao19 t160.length co19 : Value).ownBlock) (.slice Ao19 t160.length co19) t160 ((rd_T61 l0 x17_1).f1.f0) _ _ ((rd_T61 l0 x17_1).f1.f1) t163 w _ ?side1 ?side2 ?side3 ?side4 A11.out).mono ?_
                (case side1 => repeat (first | (with_reducible first | exact HB.out | apply below_alloc | apply pw_below_drewN | apply below_drew1 | refine below_set ?_ GE158.out) | exact HB.out))
                (case side2 => exact Kd.R_tight rfl HO162.out)
                (case side3 => exact Kd.C_kept_came (Kd.heap_int .u64) HR157_3.out (by repeat (first | (with_reducible first | exact HB.out | apply below_alloc | apply pw_below_drewN | apply below_drew1 | refine below_set ?_ GE158.out) | exact HB.out)) (fun k_ hs_ => (fun e_ => Kd.R_base HO162.out k_ e_.symm) hs_))
                (case side4 => exact HC157_3.out)
                rintro e w20 ⟨v164, rfl, ho0, hb, hkp⟩
                refine ⟨_, rfl, ?_⟩
                have n0_ := Aside0.mk (blk_kept (by (with_reducible repeat (first | refine blk_drewN ?_ _ | refine blk_drew ?_ | refine blk_alloc ?_ _)); exact BK158.out) hkp (fun hs_ => (fun e_ => (Kd.R_ne HO162.out BK158.out (by decide)) e_) hs_))
                have n1_ := Aside0.mk (Kd.R_mono (ok' := fun k_ => True) ho0 (fun k_ hk_ => trivial))
                have n2_ := Aside0.mk (hb)
                clear BK158
                clear HB
                clear HO162
                have BK158 := n0_
                have HO165 := n1_
                have HB := n2_
                clear n0_ n1_ n2_
                (try clear hb)
                (try clear hkp)
                (try clear ho0)
                obtain ⟨Ao21, co21, eo21⟩ := Kd.R_slice HO165.out
                (first | subst eo21 | (injection eo21 with f1_ f2_ f3_; have f4_ := f1_.symm; have f5_ := f3_.symm; clear f1_ f2_ f3_; subst f4_; subst f5_))
                refine hK.out _ _ ⟨(blk_cell BK158.out 0).trans rfl, (blk_cell BK158.out 1).trans rfl, (blk_cell BK158.out 2).trans rfl, (blk_cell BK158.out 3).trans rfl, (blk_cell BK158.out 4).trans rfl, (blk_cell BK158.out 5).trans rfl⟩ (fun hHeld => ?_)
                clear hK K
                refine norm_ (a' := ?_) ?_ ?_
                rotate_left
                · show Act.put _ (some 30) _ = _
                  simp only [Act.put, List.setIfInBounds_toArray, List.set_cons_zero, List.set_cons_succ, i64_w, i32_w]
                  rfl
                refine one_ (i := 10) (N := some 34) #[true, true, true, true, true, true, true, true, true, true, true, false] rfl rfl (one_of HT_.out (by kernel_rfl)) (by decide) (fun K hK => ?_)
                refine goes_ Try.func52 (by kernel_rfl) rfl #[.slice Ao21 t163.length co21, .int .i64 (((rd_T61 l0 x17_1).f2).length : Int)] (by rfl) rfl rfl (by (try simp only [List.map_toArray, List.map_cons, List.map_nil]); first | done | rfl | (simp only [List.length_drop, List.length_take]; rfl)) ?_
                with_reducible refine (store_groups.calls k1 (fun k_ => some k_ = (.slice Ao21 t163.length co21 : Value).ownBlock) (.slice Ao21 t163.length co21) t163 (((rd_T61 l0 x17_1).f2).length : Int) t166 w _ ?side1 ?side2 A12.out).mono ?_
                (case side1 => repeat (first | (with_reducible first | exact HB.out | apply below_alloc | apply pw_below_drewN | apply below_drew1 | refine below_set ?_ GE158.out) | exact HB.out))
                (case side2 => exact Kd.R_tight rfl HO165.out)
                rintro e w22 ⟨v167, rfl, ho0, hb, hkp⟩
                refine ⟨_, rfl, ?_⟩
                have n0_ := Aside0.mk (blk_kept (by (with_reducible repeat (first | refine blk_drewN ?_ _ | refine blk_drew ?_ | refine blk_alloc ?_ _)); exact BK158.out) hkp (fun hs_ => (fun e_ => (Kd.R_ne HO165.out BK158.out (by decide)) e_) hs_))
                have n1_ := Aside0.mk (Kd.R_mono (ok' := fun k_ => True) ho0 (fun k_ hk_ => trivial))
                have n2_ := Aside0.mk (hb)
                clear BK158
                clear HB
                clear HO165
                have BK158 := n0_
                have HO168 := n1_
                have HB := n2_
                clear n0_ n1_ n2_
                (try clear hb)
                (try clear hkp)
                (try clear ho0)
                refine hK.out _ _ ⟨(blk_cell BK158.out 0).trans rfl, (blk_cell BK158.out 1).trans rfl, (blk_cell BK158.out 2).trans rfl, (blk_cell BK158.out 3).trans rfl, (blk_cell BK158.out 4).trans rfl, (blk_cell BK158.out 5).trans rfl⟩ (fun hHeld => ?_)
                clear hK K
                refine norm_ (a' := ?_) ?_ ?_
                rotate_left
                · show Act.put _ (some 34) _ = _
                  simp only [Act.put, List.setIfInBounds_toArray, List.set_cons_zero, List.set_cons_succ, i64_w, i32_w]
                  rfl
                refine pure_ (i := 11) (N := some 4) (v := ?_) (a' := ?_) #[true, true, true, true, true, true, true, true, true, true, true, true] rfl rfl (any_of HT_.out (by kernel_rfl)) (fun _ _ _ h => h) (Or.inl ⟨by rfl, ?_⟩) ?_ ?_
                rotate_left
                · intro w'
                  go_simp
                  with_reducible rfl
                rotate_left
                · simp only [Act.put, List.setIfInBounds_toArray, List.set_cons_zero, List.set_cons_succ, i64_w, i32_w]
                  rfl
                refine done_ (done_of HT_.out (by kernel_rfl)) ?_
                have hcz23_0 : w22.cell? ⟨gb158, 0, none⟩ = some (.bool ((rd_T61 l0 x17_1).f0.f0)) := (blk_cell BK158.out 0).trans rfl
                have hcz23_1 : w22.cell? ⟨gb158, 1, none⟩ = some (.slice A157_1 ((rd_T61 l0 x17_1).f0.f1).length c157_1) := (blk_cell BK158.out 1).trans rfl
                have hcz23_2 : w22.cell? ⟨gb158, 2, none⟩ = some (.bool ((rd_T61 l0 x17_1).f1.f0)) := (blk_cell BK158.out 2).trans rfl
                have hcz23_3 : w22.cell? ⟨gb158, 3, none⟩ = some (.slice A157_3 ((rd_T61 l0 x17_1).f1.f1).length c157_3) := (blk_cell BK158.out 3).trans rfl
                have hcz23_4 : w22.cell? ⟨gb158, 4, none⟩ = some (.slice A157_4 ((rd_T61 l0 x17_1).f2).length c157_4) := (blk_cell BK158.out 4).trans rfl
                have hcz23_5 : w22.cell? ⟨gb158, 5, none⟩ = some (.slice A157_5 ((rd_T61 l0 x17_1).f3).length c157_5) := (blk_cell BK158.out 5).trans rfl
                have hfz23_0 := blk_frozen BK158.out 0
                have hfz23_1 := blk_frozen BK158.out 1
                have hfz23_2 := blk_frozen BK158.out 2
                have hfz23_3 := blk_frozen BK158.out 3
                have hfz23_4 := blk_frozen BK158.out 4
                have hfz23_5 := blk_frozen BK158.out 5
                try go_wp2
                go_loopg [4, 38] k1 (fun kq v4 v38 w' => ∃ (x4_2 : List Int) (x38_2 : Int), v38 = .int .i64 x38_2 ∧ Aside0 (store_Certs.l1 kq x4_2 l0 (l0.length : Int) x17_1 ((rd_T61 l0 x17_1).f2) (((rd_T61 l0 x17_1).f2).length : Int) x38_2 ((rd_T61 l0 x17_1).f0.f0) ((rd_T61 l0 x17_1).f0.f1) ((rd_T61 l0 x17_1).f1.f0) ((rd_T61 l0 x17_1).f1.f1) ((rd_T61 l0 x17_1).f2) ((rd_T61 l0 x17_1).f3) = some (r1, r2)) ∧ Aside0 (kq ≤ k1) ∧ Aside0 (Kd.R (Kd.int .u8) 5 w' w.heap.size (fun _ => True) v4 x4_2) ∧ Aside0 (w'.heap[gb158]? = some (.cells #[.bool ((rd_T61 l0 x17_1).f0.f0), (.slice A157_1 ((rd_T61 l0 x17_1).f0.f1).length c157_1), .bool ((rd_T61 l0 x17_1).f1.f0), (.slice A157_3 ((rd_T61 l0 x17_1).f1.f1).length c157_3), (.slice A157_4 ((rd_T61 l0 x17_1).f2).length c157_4), (.slice A157_5 ((rd_T61 l0 x17_1).f3).length c157_5)] 61 (0, 0))) ∧ Aside0 (Below w.heap.size w w'))
                case atStart => exact ⟨(t166), (0), (by first | rfl | (simp; done) | (simp [*]; done)), H', ⟨Nat.le_refl _⟩, ⟨by (with_reducible repeat (first | apply Kd.R_alloc | apply Kd.R_drewN | apply Kd.R_drew)); exact HO168.out⟩, ⟨by (with_reducible repeat (first | refine blk_drewN ?_ _ | refine blk_drew ?_ | refine blk_alloc ?_ _)); exact BK158.out⟩, ⟨by repeat (first | (with_reducible first | exact HB.out | apply below_alloc | apply pw_below_drewN | apply below_drew1 | refine below_set ?_ GE158.out) | exact HB.out)⟩⟩
                case round =>
                  clear H'
                  try clear c1
                  try clear p1
                  try clear q1
                  try clear hx1
                  try clear c2
                  try clear c2b0
                  try clear c2b1
                  try clear p2
                  try clear c3
                  try clear c5
                  try clear c5b0
                  try clear c6
                  try clear c6b0
                  try clear c7
                  try clear c7b0
                  try clear c9
                  try clear c15
                  try clear p15
                  try clear q15
                  try clear hx15
                  try clear c20
                  try clear hcz14_0
                  try clear hcz14_1
                  try clear hcz14_2
                  try clear hcz14_3
                  try clear hcz14_4
                  try clear hcz14_5
                  try clear hcz23_0
                  try clear hcz23_1
                  try clear hcz23_2
                  try clear hcz23_3
                  try clear hcz23_4
                  try clear hcz23_5
                  try clear hfz14_0
                  try clear hfz14_1
                  try clear hfz14_2
                  try clear hfz14_3
                  try clear hfz14_4
                  try clear hfz14_5
                  try clear hfz23_0
                  try clear hfz23_1
                  try clear hfz23_2
                  try clear hfz23_3
                  try clear hfz23_4
                  try clear hfz23_5
                  try clear hx157_0
                  try clear hx157_1
                  try clear hx157_2
                  try clear hx157_3
                  try clear hx157_4
                  try clear hx157_5
                  try clear p157
                  try clear p2
                  try clear q157
                  obtain ⟨x4_2, x38_2, rfl, HA, HK2, HO_4, BK158, HB⟩ := hrel
                  cases gk with
                  | zero => exact absurd HA.out (by simp [store_Certs.l1])
                  | succ k2 =>
                    have H := HA.out
                    clear HA
                    simp only [store_Certs.l1] at H
                    by_cases c24 : x38_2 < (((rd_T61 l0 x17_1).f2).length : Int)
                    · rw [if_pos c24] at H
                      have c24b0 : decide (x38_2 < (((rd_T61 l0 x17_1).f2).length : Int)) = true := decide_eq_true c24
                      clear c24
                      by_cases c25 : 0 ≤ x38_2
                      · rw [if_pos c25] at H
                        have c25b0 : decide (0 ≤ x38_2) = true := decide_eq_true c25
                        clear c25
                        by_cases c26 : x38_2 < (((rd_T61 l0 x17_1).f2).length : Int)
                        · rw [if_pos c26] at H
                          have c26b0 : decide (x38_2 < (((rd_T61 l0 x17_1).f2).length : Int)) = true := decide_eq_true c26
                          clear c26
                          replace H := Option.bind_eq_some_iff.mp H
                          obtain ⟨t170, A270, H⟩ := H
                          replace H : (if x38_2 < (((rd_T61 l0 x17_1).f3).length : Int) then ((store_groups.f k2 t170 (rd ((rd_T61 l0 x17_1).f3) x38_2)).bind fun t174 => (store_Certs.l1 k2 t174 l0 (l0.length : Int) x17_1 ((rd_T61 l0 x17_1).f2) (((rd_T61 l0 x17_1).f2).length : Int) (wrap64 (x38_2 + 1)) ((rd_T61 l0 x17_1).f0.f0) ((rd_T61 l0 x17_1).f0.f1) ((rd_T61 l0 x17_1).f1.f0) ((rd_T61 l0 x17_1).f1.f1) ((rd_T61 l0 x17_1).f2) ((rd_T61 l0 x17_1).f3))) else (none)) = some (r1, r2) := H
                          have A27 := Aside0.mk A270
                          clear A270
                          by_cases c28 : x38_2 < (((rd_T61 l0 x17_1).f3).length : Int)
                          · rw [if_pos c28] at H
                            have c28b0 : decide (x38_2 < (((rd_T61 l0 x17_1).f3).length : Int)) = true := decide_eq_true c28
                            clear c28
                            replace H := Option.bind_eq_some_iff.mp H
                            obtain ⟨t174, A290, H⟩ := H
                            replace H : (store_Certs.l1 k2 t174 l0 (l0.length : Int) x17_1 ((rd_T61 l0 x17_1).f2) (((rd_T61 l0 x17_1).f2).length : Int) (wrap64 (x38_2 + 1)) ((rd_T61 l0 x17_1).f0.f0) ((rd_T61 l0 x17_1).f0.f1) ((rd_T61 l0 x17_1).f1.f0) ((rd_T61 l0 x17_1).f1.f1) ((rd_T61 l0 x17_1).f2) ((rd_T61 l0 x17_1).f3)) = some (r1, r2) := H
                            have A29 := Aside0.mk A290
                            clear A290
                            have H' := Aside0.mk H
                            clear H
                            have p169 : 0 ≤ (x38_2 : Int) := of_decide_eq_true (by first | (with_reducible assumption) | assumption)
                            have q169 : x38_2 < (((rd_T61 l0 x17_1).f2).length : Int) := of_decide_eq_true (by first | (with_reducible assumption) | assumption)
                            obtain ⟨ad169, e169, hx169_0⟩ := Kd.at_int HR157_4.out x38_2 p169 q169
                            cases e169
                            replace hx169_0 := (HB.out.cell (World.block_lt_of_cell? w _ hx169_0)).trans hx169_0
                            replace p169 := eq_true p169
                            replace q169 := eq_true q169
                            try go_wp2
                            have n0_ := Aside0.mk (Kd.R_drew HO_4.out)
                            have n1_ := Aside0.mk (blk_drew BK158.out)
                            have n2_ := Aside0.mk (below_drew1 HB.out)
                            clear HO_4
                            clear BK158
                            clear HB
                            have HO_4 := n0_
                            have BK158 := n1_
                            have HB := n2_
                            clear n0_ n1_ n2_
                            have p173 : 0 ≤ (x38_2 : Int) := of_decide_eq_true (by first | (with_reducible assumption) | assumption)
                            have q173 : x38_2 < (((rd_T61 l0 x17_1).f3).length : Int) := of_decide_eq_true (by first | (with_reducible assumption) | assumption)
                            obtain ⟨ad173, e173, hx173_0⟩ := Kd.at_int HR157_5.out x38_2 p173 q173
                            have hw173_0 := hx173_0
                            cases e173
                            replace hx173_0 := (HB.out.cell (World.block_lt_of_cell? w _ hx173_0)).trans hx173_0
                            replace p173 := eq_true p173
                            replace q173 := eq_true q173
                            obtain ⟨Ao31, co31, eo31⟩ := Kd.R_slice HO_4.out
                            (first | subst eo31 | (injection eo31 with f1_ f2_ f3_; have f4_ := f1_.symm; have f5_ := f3_.symm; clear f1_ f2_ f3_; subst f4_; subst f5_))
                            refine start_ (n := 10) (S := fun w' => w'.cell? ⟨gb158, 0, none⟩ = some (.bool ((rd_T61 l0 x17_1).f0.f0)) ∧ w'.cell? ⟨gb158, 1, none⟩ = some (.slice A157_1 ((rd_T61 l0 x17_1).f0.f1).length c157_1) ∧ w'.cell? ⟨gb158, 2, none⟩ = some (.bool ((rd_T61 l0 x17_1).f1.f0)) ∧ w'.cell? ⟨gb158, 3, none⟩ = some (.slice A157_3 ((rd_T61 l0 x17_1).f1.f1).length c157_3) ∧ w'.cell? ⟨gb158, 4, none⟩ = some (.slice (some ad169) ((rd_T61 l0 x17_1).f2).length c157_4) ∧ w'.cell? ⟨gb158, 5, none⟩ = some (.slice (some ad173) ((rd_T61 l0 x17_1).f3).length c157_5) ∧ w'.cell? (ad173.add (x38_2).toNat) = some (.int .i64 (rd ((rd_T61 l0 x17_1).f3) x38_2))) (ds := []) #[false, false, false, false, false, false, false, false, false, false] (by kernel_rfl) rfl rfl ⟨(blk_cell BK158.out 0).trans rfl, (blk_cell BK158.out 1).trans rfl, (blk_cell BK158.out 2).trans rfl, (blk_cell BK158.out 3).trans rfl, (blk_cell BK158.out 4).trans rfl, (blk_cell BK158.out 5).trans rfl, ((HB.out.cell (World.block_lt_of_cell? w _ hw173_0)).trans hw173_0)⟩ (fun hHeld => ?_); refine with_tabW store_Certs.tab13 store_Certs.bits13 (fun HT_ HW_ => ?_)
                            generalize wr.drew = w30 at HO_4 BK158 HB hx173_0 hHeld ⊢
                            refine pure_ (i := 0) (N := some 43) (v := ?_) (a' := ?_) #[true, false, false, false, false, false, false, false, false, false] rfl rfl (any_of HT_.out (by kernel_rfl)) (fun _ _ _ h => h) (Or.inl ⟨by rfl, ?_⟩) ?_ ?_
                            rotate_left
                            · intro w'
                              go_simp
                              with_reducible rfl
                            rotate_left
                            · simp only [Act.put, List.setIfInBounds_toArray, List.set_cons_zero, List.set_cons_succ, i64_w, i32_w]
                              rfl
                            refine pure_ (i := 1) (N := some 44) (v := ?_) (a' := ?_) #[true, true, false, false, false, false, false, false, false, false] rfl rfl (any_of HT_.out (by kernel_rfl)) (fun _ _ _ h => h) (Or.inl ⟨by rfl, ?_⟩) ?_ ?_
                            rotate_left
                            · intro w'
                              go_simp
                              with_reducible rfl
                            rotate_left
                            · simp only [Act.put, List.setIfInBounds_toArray, List.set_cons_zero, List.set_cons_succ, i64_w, i32_w]
                              rfl
                            refine pure_ (i := 3) (N := some 46) (v := ?_) (a' := ?_) #[true, true, false, true, false, false, false, false, false, false] rfl rfl (any_of HT_.out (by kernel_rfl)) (fun _ _ _ h => h) (Or.inl ⟨by rfl, ?_⟩) ?_ ?_
                            rotate_left
                            · intro w'
                              go_simp
                              with_reducible rfl
                            rotate_left
                            · simp only [Act.put, List.setIfInBounds_toArray, List.set_cons_zero, List.set_cons_succ, i64_w, i32_w]
                              rfl
                            refine pure_ (i := 5) (N := some 48) (v := ?_) (a' := ?_) #[true, true, false, true, false, true, false, false, false, false] rfl rfl (any_of HT_.out (by kernel_rfl)) (fun _ _ _ h => h) (Or.inl ⟨by rfl, ?_⟩) ?_ ?_
                            rotate_left
                            · intro w'
                              go_simp
                              with_reducible rfl
                            rotate_left
                            · simp only [Act.put, List.setIfInBounds_toArray, List.set_cons_zero, List.set_cons_succ, i64_w, i32_w]
                              rfl
                            refine take_ (i := 4) (N := some 47) (v := ?_) (a' := ?_) #[true, true, false, true, true, true, false, false, false, false] rfl rfl (take_ofW HT_.out HW_.out (by kernel_rfl)) (fun _ _ _ h => h) (Or.inl ⟨by rfl, ?_⟩) hHeld ?_ ?_
                            rotate_left
                            · rintro w' ⟨s0, s1, s2, s3, s4, s5, s6⟩
                              go_simp
                              with_reducible rfl
                            rotate_left
                            · simp only [Act.put, List.setIfInBounds_toArray, List.set_cons_zero, List.set_cons_succ, i64_w, i32_w]
                              rfl
                            refine pure_ (i := 6) (N := some 49) (v := ?_) (a' := ?_) #[true, true, false, true, true, true, true, false, false, false] rfl rfl (any_of HT_.out (by kernel_rfl)) (fun _ _ _ h => h) (Or.inl ⟨by rfl, ?_⟩) ?_ ?_
                            rotate_left
                            · intro w'
                              go_simp
                              with_reducible rfl
                            rotate_left
                            · simp only [Act.put, List.setIfInBounds_toArray, List.set_cons_zero, List.set_cons_succ, i64_w, i32_w]
                              rfl
                            refine take_ (i := 7) (N := some 50) (v := ?_) (a' := ?_) #[true, true, false, true, true, true, true, true, false, false] rfl rfl (take_ofW HT_.out HW_.out (by kernel_rfl)) (fun _ _ _ h => h) (Or.inl ⟨by rfl, ?_⟩) hHeld ?_ ?_
                            rotate_left
                            · rintro w' ⟨s0, s1, s2, s3, s4, s5, s6⟩
                              go_simp
                              with_reducible rfl
                            rotate_left
                            · simp only [Act.put, List.setIfInBounds_toArray, List.set_cons_zero, List.set_cons_succ, i64_w, i32_w]
                              rfl
                            refine one_ (i := 2) (N := some 45) #[true, true, true, true, true, true, true, true, false, false] rfl rfl (one_of HT_.out (by kernel_rfl)) (by decide) (fun K hK => ?_)
                            refine goes_ Try.func52 (by kernel_rfl) rfl #[.slice Ao31 x4_2.length co31, .int .i64 (rd ((rd_T61 l0 x17_1).f2) x38_2)] (by rfl) rfl rfl (by (try simp only [List.map_toArray, List.map_cons, List.map_nil]); first | done | rfl | (simp only [List.length_drop, List.length_take]; rfl)) ?_
                            with_reducible refine (store_groups.calls k2 (fun k_ => some k_ = (.slice Ao31 x4_2.length co31 : Value).ownBlock) (.slice Ao31 x4_2.length co31) x4_2 (rd ((rd_T61 l0 x17_1).f2) x38_2) t170 w _ ?side1 ?side2 A27.out).mono ?_
                            (case side1 => repeat (first | (with_reducible first | exact HB.out | apply below_alloc | apply pw_below_drewN | apply below_drew1 | refine below_set ?_ GE158.out) | exact HB.out))
                            (case side2 => exact Kd.R_tight rfl HO_4.out)
                            rintro e w32 ⟨v171, rfl, ho0, hb, hkp⟩
                            refine ⟨_, rfl, ?_⟩
                            have n0_ := Aside0.mk (blk_kept (by (with_reducible repeat (first | refine blk_drewN ?_ _ | refine blk_drew ?_ | refine blk_alloc ?_ _)); exact BK158.out) hkp (fun hs_ => (fun e_ => (Kd.R_ne HO_4.out BK158.out (by decide)) e_) hs_))
                            have n1_ := Aside0.mk (Kd.R_mono (ok' := fun k_ => True) ho0 (fun k_ hk_ => trivial))
                            have n2_ := Aside0.mk (hb)
                            clear BK158
                            clear HB
                            clear HO_4
                            have BK158 := n0_
                            have HO172 := n1_
                            have HB := n2_
                            clear n0_ n1_ n2_
                            (try clear hb)
                            (try clear hkp)
                            (try clear ho0)
                            obtain ⟨Ao33, co33, eo33⟩ := Kd.R_slice HO172.out
                            (first | subst eo33 | (injection eo33 with f1_ f2_ f3_; have f4_ := f1_.symm; have f5_ := f3_.symm; clear f1_ f2_ f3_; subst f4_; subst f5_))
                            refine hK.out _ _ ⟨(blk_cell BK158.out 0).trans rfl, (blk_cell BK158.out 1).trans rfl, (blk_cell BK158.out 2).trans rfl, (blk_cell BK158.out 3).trans rfl, (blk_cell BK158.out 4).trans rfl, (blk_cell BK158.out 5).trans rfl, ((HB.out.cell (World.block_lt_of_cell? w _ hw173_0)).trans hw173_0)⟩ (fun hHeld => ?_)
                            clear hK K
                            refine norm_ (a' := ?_) ?_ ?_
                            rotate_left
                            · show Act.put _ (some 45) _ = _
                              simp only [Act.put, List.setIfInBounds_toArray, List.set_cons_zero, List.set_cons_succ, i64_w, i32_w]
                              rfl
                            refine one_ (i := 8) (N := some 51) #[true, true, true, true, true, true, true, true, true, false] rfl rfl (one_of HT_.out (by kernel_rfl)) (by decide) (fun K hK => ?_)
                            refine goes_ Try.func52 (by kernel_rfl) rfl #[.slice Ao33 t170.length co33, .int .i64 (rd ((rd_T61 l0 x17_1).f3) x38_2)] (by rfl) rfl rfl (by (try simp only [List.map_toArray, List.map_cons, List.map_nil]); first | done | rfl | (simp only [List.length_drop, List.length_take]; rfl)) ?_
                            with_reducible refine (store_groups.calls k2 (fun k_ => some k_ = (.slice Ao33 t170.length co33 : Value).ownBlock) (.slice Ao33 t170.length co33) t170 (rd ((rd_T61 l0 x17_1).f3) x38_2) t174 w _ ?side1 ?side2 A29.out).mono ?_
                            (case side1 => repeat (first | (with_reducible first | exact HB.out | apply below_alloc | apply pw_below_drewN | apply below_drew1 | refine below_set ?_ GE158.out) | exact HB.out))
                            (case side2 => exact Kd.R_tight rfl HO172.out)
                            rintro e w34 ⟨v175, rfl, ho0, hb, hkp⟩
                            refine ⟨_, rfl, ?_⟩
                            have n0_ := Aside0.mk (blk_kept (by (with_reducible repeat (first | refine blk_drewN ?_ _ | refine blk_drew ?_ | refine blk_alloc ?_ _)); exact BK158.out) hkp (fun hs_ => (fun e_ => (Kd.R_ne HO172.out BK158.out (by decide)) e_) hs_))
                            have n1_ := Aside0.mk (Kd.R_mono (ok' := fun k_ => True) ho0 (fun k_ hk_ => trivial))
                            have n2_ := Aside0.mk (hb)
                            clear BK158
                            clear HB
                            clear HO172
                            have BK158 := n0_
                            have HO176 := n1_
                            have HB := n2_
                            clear n0_ n1_ n2_
                            (try clear hb)
                            (try clear hkp)
                            (try clear ho0)
                            refine hK.out _ _ ⟨(blk_cell BK158.out 0).trans rfl, (blk_cell BK158.out 1).trans rfl, (blk_cell BK158.out 2).trans rfl, (blk_cell BK158.out 3).trans rfl, (blk_cell BK158.out 4).trans rfl, (blk_cell BK158.out 5).trans rfl, ((HB.out.cell (World.block_lt_of_cell? w _ hw173_0)).trans hw173_0)⟩ (fun hHeld => ?_)
                            clear hK K
                            refine norm_ (a' := ?_) ?_ ?_
                            rotate_left
                            · show Act.put _ (some 51) _ = _
                              simp only [Act.put, List.setIfInBounds_toArray, List.set_cons_zero, List.set_cons_succ, i64_w, i32_w]
                              rfl
                            refine pure_ (i := 9) (N := some 4) (v := ?_) (a' := ?_) #[true, true, true, true, true, true, true, true, true, true] rfl rfl (any_of HT_.out (by kernel_rfl)) (fun _ _ _ h => h) (Or.inl ⟨by rfl, ?_⟩) ?_ ?_
                            rotate_left
                            · intro w'
                              go_simp
                              with_reducible rfl
                            rotate_left
                            · simp only [Act.put, List.setIfInBounds_toArray, List.set_cons_zero, List.set_cons_succ, i64_w, i32_w]
                              rfl
                            refine done_ (done_of HT_.out (by kernel_rfl)) ?_
                            try go_wp2
                            go_roundg k2
                            case measure => have := HK1.out; have := HK2.out; omega
                            case rel => exact ⟨(t174), (wrap64 (x38_2 + 1)), (by first | rfl | (simp; done) | (simp [*]; done)), H', ⟨by have := HK1.out; have := HK2.out; omega⟩, ⟨by (with_reducible repeat (first | apply Kd.R_alloc | apply Kd.R_drewN | apply Kd.R_drew)); exact HO176.out⟩, ⟨by (with_reducible repeat (first | refine blk_drewN ?_ _ | refine blk_drew ?_ | refine blk_alloc ?_ _)); exact BK158.out⟩, ⟨by repeat (first | (with_reducible first | exact HB.out | apply below_alloc | apply pw_below_drewN | apply below_drew1 | refine below_set ?_ GE158.out) | exact HB.out)⟩⟩
                          · rw [if_neg c28] at H
                            exact absurd H (by simp)
                        · rw [if_neg c26] at H
                          exact absurd H (by simp)
                      · rw [if_neg c25] at H
                        exact absurd H (by simp)
                    · rw [if_neg c24] at H
                      have c24b0 : decide (x38_2 < (((rd_T61 l0 x17_1).f2).length : Int)) = false := decide_eq_false c24
                      clear c24
                      have H' := Aside0.mk H
                      clear H
                      go_wp2
                      go_roundg k2
                      case measure => have := HK1.out; have := HK2.out; omega
                      case rel => exact ⟨(x4_2), (wrap64 (x17_1 + 1)), (by first | rfl | (simp; done) | (simp [*]; done)), H', ⟨by have := HK1.out; have := HK2.out; omega⟩, ⟨by (with_reducible repeat (first | apply Kd.R_alloc | apply Kd.R_drewN | apply Kd.R_drew)); exact HO_4.out⟩, ⟨by repeat (first | (with_reducible first | exact HB.out | apply below_alloc | apply pw_below_drewN | apply below_drew1 | refine below_set ?_ GE158.out) | exact HB.out)⟩⟩
              · replace c9 := Bool.eq_false_iff.mpr c9
                subst c9
                have H1 : (some (([] : List Int), 2)) = some (r1, r2) := by rw [if_neg (show ¬ (false = true) by decide)] at H; exact H
                clear H
                have H := H1
                clear H1
                simp only [Option.some.injEq, Prod.mk.injEq] at H
                obtain ⟨rfl, rfl⟩ := H
                have p157 : 0 ≤ (x17_1 : Int) := of_decide_eq_true (by first | (with_reducible assumption) | assumption)
                have q157 : x17_1 < (l0.length : Int) := of_decide_eq_true (by first | (with_reducible assumption) | assumption)
                obtain ⟨ad157, A157_1, c157_1, A157_3, c157_3, A157_4, c157_4, A157_5, c157_5, e157, hx157_0, hx157_1, hx157_2, hx157_3, hx157_4, hx157_5, hl157_1, hi157_1, hl157_3, hi157_3, hl157_4, hi157_4, hl157_5, hi157_5⟩ := at_T61 HR0.out x17_1 p157 q157
                cases e157
                replace hx157_0 := (HB.out.cell (World.block_lt_of_cell? w _ hx157_0)).trans hx157_0
                replace hx157_1 := (HB.out.cell (World.block_lt_of_cell? w _ hx157_1)).trans hx157_1
                replace hx157_2 := (HB.out.cell (World.block_lt_of_cell? w _ hx157_2)).trans hx157_2
                replace hx157_3 := (HB.out.cell (World.block_lt_of_cell? w _ hx157_3)).trans hx157_3
                replace hx157_4 := (HB.out.cell (World.block_lt_of_cell? w _ hx157_4)).trans hx157_4
                replace hx157_5 := (HB.out.cell (World.block_lt_of_cell? w _ hx157_5)).trans hx157_5
                have HR157_1 := Aside0.mk hi157_1
                have HC157_1 := Aside0.mk hl157_1
                clear hi157_1 hl157_1
                have HR157_3 := Aside0.mk hi157_3
                have HC157_3 := Aside0.mk hl157_3
                clear hi157_3 hl157_3
                have HR157_4 := Aside0.mk hi157_4
                have HC157_4 := Aside0.mk hl157_4
                clear hi157_4 hl157_4
                have HR157_5 := Aside0.mk hi157_5
                have HC157_5 := Aside0.mk hl157_5
                clear hi157_5 hl157_5
                replace p157 := eq_true p157
                replace q157 := eq_true q157
                go_wp2_with (first | ((with_reducible refine gate_dst (N := 6) rfl ?_); refine box_event ?hg (N := 6) ?hd (cs := #[.bool false, .slice none 0 0, .bool false, .slice none 0 0, .slice none 0 0, .slice none 0 0]) (t := 61) ?hr ?_; (case hd => rfl); (case hg => rfl); (case hr => first | (go_simp; done) | (go_simp; rfl)); intro gb158 hg w35 hbox hb; have n0_ := Aside0.mk (Kd.R_below (by (with_reducible repeat (first | apply Kd.R_alloc | apply Kd.R_drewN | apply Kd.R_drew)); exact HO_4.out) hb); have n1_ := Aside0.mk (below_step (by repeat (first | (with_reducible first | exact HB.out | apply below_alloc | apply pw_below_drewN | apply below_drew1) | exact HB.out)) hb); have n2_ := Aside0.mk (hbox); have n3_ := Aside0.mk ((by rw [hg]; exact (below_size (by repeat (first | (with_reducible first | exact HB.out | apply below_alloc | apply pw_below_drewN | apply below_drew1) | exact HB.out))) : w.heap.size ≤ gb158)); have n4_ := Aside0.mk ((by rw [hg]; exact (below_size (by repeat (first | (with_reducible first | exact HB.out | apply below_alloc | apply pw_below_drewN | apply below_drew1) | exact HB.out))) : w.heap.size ≤ gb158)); clear HO_4; clear HB; have HO_4 := n0_; have HB := n1_; have BK158 := n2_; have GW158 := n3_; have GE158 := n4_; clear n0_ n1_ n2_ n3_ n4_; clear hb hbox hg; have hcz36_0 : w35.cell? ⟨gb158, 0, none⟩ = some (.bool false) := (blk_cell BK158.out 0).trans rfl; have hcz36_1 : w35.cell? ⟨gb158, 1, none⟩ = some (.slice none 0 0) := (blk_cell BK158.out 1).trans rfl; have hcz36_2 : w35.cell? ⟨gb158, 2, none⟩ = some (.bool false) := (blk_cell BK158.out 2).trans rfl; have hcz36_3 : w35.cell? ⟨gb158, 3, none⟩ = some (.slice none 0 0) := (blk_cell BK158.out 3).trans rfl; have hcz36_4 : w35.cell? ⟨gb158, 4, none⟩ = some (.slice none 0 0) := (blk_cell BK158.out 4).trans rfl; have hcz36_5 : w35.cell? ⟨gb158, 5, none⟩ = some (.slice none 0 0) := (blk_cell BK158.out 5).trans rfl; have hfz36_0 := blk_frozen BK158.out 0; have hfz36_1 := blk_frozen BK158.out 1; have hfz36_2 := blk_frozen BK158.out 2; have hfz36_3 := blk_frozen BK158.out 3; have hfz36_4 := blk_frozen BK158.out 4; have hfz36_5 := blk_frozen BK158.out 5) | ((with_reducible refine gate_callee (f := 53) rfl ?_); refine goesL_ (some 22) rfl rfl Try.func53 (by kernel_rfl) rfl #[.agg #[.bool ((rd_T61 l0 x17_1).f0.f0), .slice A157_1 ((rd_T61 l0 x17_1).f0.f1).length c157_1, .bool ((rd_T61 l0 x17_1).f1.f0), .slice A157_3 ((rd_T61 l0 x17_1).f1.f1).length c157_3, .slice A157_4 ((rd_T61 l0 x17_1).f2).length c157_4, .slice A157_5 ((rd_T61 l0 x17_1).f3).length c157_5]] rfl (by (try simp only [List.map_toArray, List.map_cons, List.map_nil]); first | done | rfl | (simp only [List.length_drop, List.length_take]; rfl)) ?_; (with_reducible refine (store_may.calls k1 ((rd_T61 l0 x17_1).f0.f0) _ _ ((rd_T61 l0 x17_1).f0.f1) ((rd_T61 l0 x17_1).f1.f0) _ _ ((rd_T61 l0 x17_1).f1.f1) _ _ ((rd_T61 l0 x17_1).f2) _ _ ((rd_T61 l0 x17_1).f3) false _ ?side1 ?side2 ?side3 ?side4 ?side5 ?side6 ?side7 ?side8 A8.out).mono ?_); (case side1 => exact Kd.C_below HR157_1.out (by repeat (first | (with_reducible first | exact HB.out | apply below_alloc | apply pw_below_drewN | apply below_drew1 | refine below_set ?_ GE158.out) | exact HB.out))); (case side2 => exact HC157_1.out); (case side3 => exact Kd.C_below HR157_3.out (by repeat (first | (with_reducible first | exact HB.out | apply below_alloc | apply pw_below_drewN | apply below_drew1 | refine below_set ?_ GE158.out) | exact HB.out))); (case side4 => exact HC157_3.out); (case side5 => exact Kd.C_below HR157_4.out (by repeat (first | (with_reducible first | exact HB.out | apply below_alloc | apply pw_below_drewN | apply below_drew1 | refine below_set ?_ GE158.out) | exact HB.out))); (case side6 => exact HC157_4.out); (case side7 => exact Kd.C_below HR157_5.out (by repeat (first | (with_reducible first | exact HB.out | apply below_alloc | apply pw_below_drewN | apply below_drew1 | refine below_set ?_ GE158.out) | exact HB.out))); (case side8 => exact HC157_5.out); rintro e w37 ⟨rfl, hb⟩; refine ⟨_, rfl, ?_⟩; have n0_ := Aside0.mk (Kd.R_below (by (with_reducible repeat (first | apply Kd.R_alloc | apply Kd.R_drewN | apply Kd.R_drew)); exact (Kd.R_mono (Kd.R_far (p := ⟨gb158, 5, none⟩) (Kd.R_far (p := ⟨gb158, 4, none⟩) (Kd.R_far (p := ⟨gb158, 3, none⟩) (Kd.R_far (p := ⟨gb158, 2, none⟩) (Kd.R_far (p := ⟨gb158, 1, none⟩) (Kd.R_far (p := ⟨gb158, 0, none⟩) (Kd.R_types HO_4.out BK158.out (by decide)) (fun _ hk => hk.2) (.bool ((rd_T61 l0 x17_1).f0.f0))) (fun _ hk => hk.2) (.slice A157_1 ((rd_T61 l0 x17_1).f0.f1).length c157_1)) (fun _ hk => hk.2) (.bool ((rd_T61 l0 x17_1).f1.f0))) (fun _ hk => hk.2) (.slice A157_3 ((rd_T61 l0 x17_1).f1.f1).length c157_3)) (fun _ hk => hk.2) (.slice A157_4 ((rd_T61 l0 x17_1).f2).length c157_4)) (fun _ hk => hk.2) (.slice A157_5 ((rd_T61 l0 x17_1).f3).length c157_5)) (fun _ h_ => h_.1))) hb); have n1_ := Aside0.mk (blk_below (g := gb158) (o := .cells #[.bool ((rd_T61 l0 x17_1).f0.f0), .slice A157_1 ((rd_T61 l0 x17_1).f0.f1).length c157_1, .bool ((rd_T61 l0 x17_1).f1.f0), .slice A157_3 ((rd_T61 l0 x17_1).f1.f1).length c157_3, .slice A157_4 ((rd_T61 l0 x17_1).f2).length c157_4, .slice A157_5 ((rd_T61 l0 x17_1).f3).length c157_5] 61 (0, 0)) (by (with_reducible repeat (first | refine blk_drewN ?_ _ | refine blk_drew ?_ | refine blk_alloc ?_ _)); refine blk_put (cs := #[.bool ((rd_T61 l0 x17_1).f0.f0), .slice A157_1 ((rd_T61 l0 x17_1).f0.f1).length c157_1, .bool ((rd_T61 l0 x17_1).f1.f0), .slice A157_3 ((rd_T61 l0 x17_1).f1.f1).length c157_3, .slice A157_4 ((rd_T61 l0 x17_1).f2).length c157_4, .slice none 0 0]) ?_ 5 _ rfl; (with_reducible repeat (first | refine blk_drewN ?_ _ | refine blk_drew ?_ | refine blk_alloc ?_ _)); refine blk_put (cs := #[.bool ((rd_T61 l0 x17_1).f0.f0), .slice A157_1 ((rd_T61 l0 x17_1).f0.f1).length c157_1, .bool ((rd_T61 l0 x17_1).f1.f0), .slice A157_3 ((rd_T61 l0 x17_1).f1.f1).length c157_3, .slice none 0 0, .slice none 0 0]) ?_ 4 _ rfl; (with_reducible repeat (first | refine blk_drewN ?_ _ | refine blk_drew ?_ | refine blk_alloc ?_ _)); refine blk_put (cs := #[.bool ((rd_T61 l0 x17_1).f0.f0), .slice A157_1 ((rd_T61 l0 x17_1).f0.f1).length c157_1, .bool ((rd_T61 l0 x17_1).f1.f0), .slice none 0 0, .slice none 0 0, .slice none 0 0]) ?_ 3 _ rfl; (with_reducible repeat (first | refine blk_drewN ?_ _ | refine blk_drew ?_ | refine blk_alloc ?_ _)); refine blk_put (cs := #[.bool ((rd_T61 l0 x17_1).f0.f0), .slice A157_1 ((rd_T61 l0 x17_1).f0.f1).length c157_1, .bool false, .slice none 0 0, .slice none 0 0, .slice none 0 0]) ?_ 2 _ rfl; (with_reducible repeat (first | refine blk_drewN ?_ _ | refine blk_drew ?_ | refine blk_alloc ?_ _)); refine blk_put (cs := #[.bool ((rd_T61 l0 x17_1).f0.f0), .slice none 0 0, .bool false, .slice none 0 0, .slice none 0 0, .slice none 0 0]) ?_ 1 _ rfl; (with_reducible repeat (first | refine blk_drewN ?_ _ | refine blk_drew ?_ | refine blk_alloc ?_ _)); refine blk_put (cs := #[.bool false, .slice none 0 0, .bool false, .slice none 0 0, .slice none 0 0, .slice none 0 0]) ?_ 0 _ rfl; (with_reducible repeat (first | refine blk_drewN ?_ _ | refine blk_drew ?_ | refine blk_alloc ?_ _)); exact BK158.out) hb); have n2_ := Aside0.mk (below_step (by repeat (first | (with_reducible first | exact HB.out | apply below_alloc | apply pw_below_drewN | apply below_drew1 | refine below_set ?_ GE158.out) | exact HB.out)) hb); clear HO_4; clear BK158; clear HB; have HO_4 := n0_; have BK158 := n1_; have HB := n2_; clear n0_ n1_ n2_; (try clear hb); (try clear hb2); (try clear hk); (try clear hi)))
                go_ret2
                exact ⟨_, by first | rfl | (simp [errW_none, errW_some] <;> rfl) | (simp [*, errW_none, errW_some] <;> rfl), by first | exact Kd.R_nil _ _ _ _ _ | exact Kd.N_nil _ _ _ _ _ | exact Kd.V_nil _ _ _ _ _ | exact Kd.Q_nil _ _ _ _ _ | exact Kd.S_nil _ _ _ _ _, by repeat (first | (with_reducible first | exact HB.out | apply below_alloc | apply pw_below_drewN | apply below_drew1 | refine below_set ?_ GE158.out) | exact HB.out)⟩
            · rw [if_neg c7] at H
              exact absurd H (by simp)
          · rw [if_neg c6] at H
            exact absurd H (by simp)
        · rw [if_neg c5] at H
          have c5b0 : decide (x17_1 < (l0.length : Int)) = false := decide_eq_false c5
          clear c5
          simp only [Option.some.injEq, Prod.mk.injEq] at H
          obtain ⟨rfl, rfl⟩ := H
          go_wp2
          go_ret2
          exact ⟨_, by first | rfl | (simp [errW_none, errW_some] <;> rfl) | (simp [*, errW_none, errW_some] <;> rfl), by (with_reducible repeat (first | apply Kd.R_alloc | apply Kd.R_drewN | apply Kd.R_drew)); exact HO_4.out, by repeat (first | (with_reducible first | exact HB.out | apply below_alloc | apply pw_below_drewN | apply below_drew1) | exact HB.out)⟩

/-! ### rosettekit_CopyBytes: function 37 -/
def rosettekit_CopyBytes.f (l0 : List Int) : Option (List Int) := if ([] : List Int).length + l0.length < 140737488355328 then (some (([] : List Int) ++ l0)) else (none)
set_option maxHeartbeats 8000000 in
set_option maxRecDepth 100000 in
theorem rosettekit_CopyBytes.calls (A0 : Option Addr) (c0 : Nat) (l0 : List Int) (r : List Int) (w : World) (hr0 : Kd.C (Kd.int .u8) w A0 l0.length l0) (hc0 : l0.length ≤ c0) (h : rosettekit_CopyBytes.f l0 = some r) :
    Calls Try.prog 37 #[.slice A0 l0.length c0] w fun e w' => ∃ v0_ : Value, e = .returned (v0_) ∧ Kd.R (Kd.int .u8) 5 w' w.heap.size (fun _ => True) v0_ r ∧ Below w.heap.size w w' := by
  have HR0 := Aside0.mk hr0
  have HC0 := Aside0.mk hc0
  clear hr0 hc0
  have HB := Aside0.mk (Below.refl w.heap.size w)
  have H : (if ([] : List Int).length + l0.length < 140737488355328 then (some (([] : List Int) ++ l0)) else (none)) = some r := h
  clear h
  by_cases c2 : ([] : List Int).length + l0.length < 140737488355328
  · rw [if_pos c2] at H
    have LMc2 := Aside0.mk c2
    clear c2
    obtain ⟨y177, hy177⟩ : ∃ y_ : List Int, y_ = (([] : List Int) ++ l0) := ⟨_, rfl⟩
    replace H : (some y177) = some r := by first | (rw [hy177]; with_reducible exact H) | (have H2_ := (Option.bind_some _ _).symm.trans H; rw [hy177]; with_reducible exact H2_) | (have H2_ := (Option.bind_some _ _).symm.trans H; with_reducible exact H2_) | with_reducible exact H | (rw [hy177]; exact H) | exact H
    have Ny177 := Aside0.mk hy177
    clear hy177
    obtain rfl := Option.some.inj H
    go_enter Try.func37, Try.ntmps37
    go_wp2_with (first | ((with_reducible refine gate_builtin (b := .append) (xs := #[.tmp 4, .tmp 5]) rfl ?_); at_builtin; refine Kd.R_append_rows (Kd.int .u8) (w0 := w) w.heap.size rfl (.tmp 4) (.tmp 5) 25 5 (.int .u8 0) 1 rfl Try.underlying25 info5 rfl (by decide) (by omega) (.slice none 0 0) ([] : List Int) l0 _ _ _ (fun _ => True) (fun _ => False) rfl rfl ?aO ?aR (fun _ _ h => h) (fun _ h => h.elim) ?aF ?aB ?aS ?aL ?_; (case aR => repeat (first | exact HR0.out | (with_reducible refine Kd.C_alloc ?_ _) | (with_reducible refine Kd.C_drewN ?_ _) | (with_reducible refine Kd.C_drew ?_))); (case aB => exact (by repeat (first | (with_reducible first | exact HB.out | apply below_alloc | apply pw_below_drewN | apply below_drew1) | exact HB.out))); (case aF => exact (fun _ _ => trivial)); (case aO => exact ((Kd.R_nil _ _ _ _ (fun _ => True)))); (case aS => exact (below_size (by repeat (first | (with_reducible first | exact HB.out | apply below_alloc | apply pw_below_drewN | apply below_drew1) | exact HB.out)))); (case aL => have := LMc2.out; omega); intro v178 w3 ho hb hg hat; rw [← Ny177.out] at ho; have n0_ := Aside0.mk (hb); have n1_ := Aside0.mk (ho); clear HB; have HB := n0_; have HO179 := n1_; clear n0_ n1_; clear ho hb hg hat))
    go_ret
    exact ⟨_, by first | rfl | (simp [errW_none, errW_some] <;> rfl) | (simp [*, errW_none, errW_some] <;> rfl), by (with_reducible repeat (first | apply Kd.R_alloc | apply Kd.R_drewN | apply Kd.R_drew)); exact HO179.out, by repeat (first | (with_reducible first | exact HB.out | apply below_alloc | apply pw_below_drewN | apply below_drew1) | exact HB.out)⟩
  · rw [if_neg c2] at H
    exact absurd H (by simp)

end Go.Proofs.Ytoheamfnddfgkaa.PB
