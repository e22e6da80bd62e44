/- limb: awake. -/
import Derived.Test.YtlcjnahfahobjaaLbI
import Derived.Deep.RegionWith
import Derived.Deep.RegionHeld3
namespace Go.Proofs.Ytlcjnahfahobjaa.Lb
open Go.RowKit Go.Proofs.YtlcjnahfahobjaaW.PrintWords Go.Proofs.YtlcjnahfahobjaaW.PrintLast Go.Proofs.YtlcjnahfahobjaaW.PrintMore
set_option linter.unusedVariables false
set_option linter.unusedSimpArgs false

theorem ofl_c (s : Bool) (A : Option Addr) (n c : Nat) (w : World) : Calls Try.prog 30 #[.bool s, .slice A n c] w fun e w' => e = .returned (.agg #[.bool s, .slice A n c]) ∧ Aside0 (Below w.heap.size w w') := by
  have hu := Try.underlying24
  go_enter Try.func30, Try.ntmps30
  go_wp2
  exact bodyPost_ret (v := .agg #[.bool s, .slice A n c]) (by simp [results, Try.results30, go_sem]) rfl ⟨rfl, ⟨(Below.refl _ _).alloc (Nat.le_refl _) _⟩⟩
/-- A number of limbs that were laid: as a number's. -/
theorem ofl_z {s : Bool} {A : Option Addr} {n c : Nat} {w : World} {z : Int} (hs : sg z = s) (hl : (lm z).length = n) (hr : RV w A c z) :
    Calls Try.prog 30 #[.bool s, .slice A n c] w fun e w' => e = .returned (.agg #[.bool (sg z), .slice A (lm z).length c]) ∧ Aside0 (RV w' A c z) ∧ Aside0 (Below w.heap.size w w') := by
  subst hs hl
  exact (ofl_c _ A _ c w).mono fun e w' h => ⟨h.1, ⟨hr.below h.2.out⟩, h.2⟩
theorem k1 : lm 18446744073709551615 = [18446744073709551615] := lm_one (by decide) (by decide) _ rfl
theorem k2 : lm 1 = [1] := lm_one (by decide) (by decide) _ rfl
theorem k3 : lm (-5) = [5] := lm_one (by decide) (by decide) _ rfl
theorem k4 : lm (-3) = [3] := lm_one (by decide) (by decide) _ rfl
theorem k5 : lm 18446744073709551616 = [0, 1] := lm_lit (by decide) (.inr (by simp)) (by decide)
theorem lim_lit {l : List Int} {z : Int} (h : lm z = l) (hk : l.length ≤ 4096) : lim 4096 z := by
  have := (length_toL_le (n := z.natAbs) (k := 4096)).1 (by show (lm z).length ≤ 4096; rw [h]; exact hk)
  exact this
theorem lit_RV (w : World) {l : List Int} {z : Int} {g : Nat} {cs : Array Value} {n : Nat} (hl : lm z = l) (hm : l.length ≤ 9223372036854775807) (hg : g = w.heap.size) (hcs : cs = (nums .u64 l).toArray) (hn : l.length = n) : RV (w.alloc (.cells cs 50)) (some ⟨g, 0, none⟩) n z := by
  subst hg
  exact RV.lit hl hm _ hcs _ hn
theorem shx : shZ (-5) (-1) = -3 := by decide
theorem shift_5 (A : Option Addr) (c : Nat) (w : World) (r : RV w A c (-5)) : Calls Try.prog 25 #[.agg #[.bool (sg (-5)), .slice A (lm (-5)).length c], .int .i64 (-1)] w (OutZ w (-3)) := by
  have h := shift_z (-5) (-1) (lim_lit k3 (by decide)) (by decide) (by decide) (by rw [shx]; exact lim_lit k4 (by decide)) (.inr (by decide)) A c w r
  rwa [shx] at h
theorem cmp_53 : cmpZ (-5) (-3) = -1 := by decide
theorem add_5 (A1 A2 : Option Addr) (c1 c2 : Nat) (w : World) (r1 : RV w A1 c1 18446744073709551615) (r2 : RV w A2 c2 1) : Calls Try.prog 13 #[.agg #[.bool (sg 18446744073709551615), .slice A1 (lm 18446744073709551615).length c1], .agg #[.bool (sg 1), .slice A2 (lm 1).length c2]] w (OutZ w 18446744073709551616) := by
  have h := add_z 18446744073709551615 1 (lim_lit k1 (by decide)) (lim_lit k2 (by decide)) (by rw [show (18446744073709551615 : Int) + 1 = 18446744073709551616 by decide]; exact lim_lit k5 (by decide)) A1 A2 c1 c2 w r1 r2
  rwa [show (18446744073709551615 : Int) + 1 = 18446744073709551616 by decide] at h
set_option maxRecDepth 100000 in
set_option maxHeartbeats 1000000 in
theorem awake_c (w : World) : Calls Try.prog 19 #[] w fun e w' => e = .returned (.bool true) ∧ Below w.heap.size w w' := by
  have hu := Try.underlying24
  have hus := Try.underlying22
  go_enter Try.func19, Try.ntmps19
  go_wp2_with fail
  refine (ofl_z (z := 18446744073709551615) rfl (by rw [k1]; rfl) (lit_RV w k1 (by decide) (by first | (simp; done) | rfl) rfl rfl)).mono ?_
  rintro e w1 ⟨rfl, r1, b1⟩
  go_wp2_with fail
  refine (ofl_z (z := 1) rfl (by rw [k2]; rfl) (lit_RV w1 k2 (by decide) (by first | (simp; done) | rfl) rfl rfl)).mono ?_
  rintro e w2 ⟨rfl, r2, b2⟩
  have b12 : Aside0 (Below w1.heap.size w1 w2) := ⟨((Below.refl w1.heap.size w1).alloc (Nat.le_refl _) _).trans (b2.out.mono (by simp))⟩
  go_wp2_with fail
  refine (add_5 _ _ _ _ w2 (r1.out.below b12.out) r2.out).mono ?_
  rintro e w3 ⟨A3, c3, rfl, r3, b3⟩
  have v3 := Aside0.mk (BV.new r3.out)
  go_wp2_with fail
  refine (ofl_z (z := -5) rfl (by rw [k3]; rfl) (lit_RV _ k3 (by decide) (by first | (simp; done) | rfl) rfl rfl)).mono ?_
  rintro e w4 ⟨rfl, r4, b4⟩
  have v4 := Aside0.mk ((v3.out.alloc _).below b4.out)
  go_wp2_with fail
  refine (shift_5 _ _ w4 r4.out).mono ?_
  rintro e w5 ⟨A5, c5, rfl, r5, b5⟩
  have v5 := Aside0.mk (v4.out.below b5.out)
  have y5 := Aside0.mk (BV.new r5.out)
  go_wp2_with fail
  refine (ofl_z (z := -5) rfl (by rw [k3]; rfl) (lit_RV _ k3 (by decide) (by first | (simp; done) | rfl) rfl rfl)).mono ?_
  rintro e w6 ⟨rfl, r6, b6⟩
  have v6 := Aside0.mk (((v5.out.alloc _).alloc _).below b6.out)
  have y6 := Aside0.mk ((y5.out.alloc _).below b6.out)
  go_wp2_with fail
  refine (ofl_z (z := -3) rfl (by rw [k4]; rfl) (lit_RV _ k4 (by decide) (by first | (simp; done) | rfl) rfl rfl)).mono ?_
  rintro e w7 ⟨rfl, r7, b7⟩
  have v7 := Aside0.mk ((v6.out.alloc _).below b7.out)
  have y7 := Aside0.mk ((y6.out.alloc _).below b7.out)
  go_wp2_with fail
  refine (cmp_z (-5) (-3) (lim_lit k3 (by decide)) (lim_lit k4 (by decide)) _ _ _ _ w7 ((r6.out.alloc _).below b7.out) r7.out).mono ?_
  rintro e w8 ⟨rfl, b8⟩
  have v8 := Aside0.mk (v7.out.below b8.out)
  have y8 := Aside0.mk (y7.out.below b8.out)
  rw [cmp_53]
  have HBB : Aside0 (Below w.heap.size w w8) := ⟨by
    have a1 : Below w.heap.size w w1 := ((Below.refl w.heap.size w).alloc (Nat.le_refl _) _).trans (b1.out.mono (by simp))
    have a2 := below_then a1 a1.size (((Below.refl w1.heap.size w1).alloc (Nat.le_refl _) _).trans (b2.out.mono (by simp)))
    have a3 := below_then a2 a2.size b3.out
    have a4 := below_then a3 a3.size ((((Below.refl w3.heap.size w3).alloc (Nat.le_refl _) _).alloc (by simp) _).trans (b4.out.mono (by simp; omega)))
    have a5 := below_then a4 a4.size b5.out
    have a6 := below_then a5 a5.size ((((Below.refl w5.heap.size w5).alloc (Nat.le_refl _) _).alloc (by simp) _).trans (b6.out.mono (by simp; omega)))
    have a7 := below_then a6 a6.size (((Below.refl w6.heap.size w6).alloc (Nat.le_refl _) _).trans (b7.out.mono (by simp)))
    exact below_then a7 a7.size b8.out⟩
  clear r1 r2 b1 b2 b12 r3 b3 v3 r4 b4 v4 r5 b5 v5 y5 r6 b6 v6 y6 r7 b7 v7 y7 b8
  obtain ⟨vc0, vc1, vlt⟩ := v8.out.cells
  obtain ⟨yc0, yc1, ylt⟩ := y8.out.cells
  go_wp2_with fail
  go_region_held3 (fun w' => (w'.cell? ⟨w3.heap.size, 0, none⟩ = some (.bool (sg 18446744073709551616)) ∧ w'.cell? ⟨w3.heap.size, 1, none⟩ = some (.slice A3 (lm 18446744073709551616).length c3)) ∧ (w'.cell? ⟨w5.heap.size, 0, none⟩ = some (.bool (sg (-3))) ∧ w'.cell? ⟨w5.heap.size, 1, none⟩ = some (.slice A5 (lm (-3)).length c5))) (go_keep) (first | (go_at_call_of 30 (Value.bool false); refine (ofl_z (z := 18446744073709551616) rfl (by rw [k5]; rfl) (lit_RV w8 k5 (by decide) rfl rfl rfl).drew).mono ?_; rintro e w9 ⟨rfl, r9, b9⟩; have v9 := Aside0.mk ((v8.out.alloc _).drew.below b9.out); have y9 := Aside0.mk ((y8.out.alloc _).drew.below b9.out); obtain ⟨vc2, vc3, vlt2⟩ := v9.out.cells; obtain ⟨yc2, yc3, ylt2⟩ := y9.out.cells) | (go_at_call_of 17 (Value.agg #[.bool (sg 18446744073709551616), .slice A3 (lm 18446744073709551616).length c3]); refine (is_z 18446744073709551616 18446744073709551616 0 0 (lim_lit k5 (by decide)) _ _ _ _ w9 v9.out.rv r9.out true (by decide)).mono ?_; rintro e w10 ⟨rfl, b10⟩; have y10 := Aside0.mk (y9.out.below b10.out); have v10 := Aside0.mk (v9.out.below b10.out); obtain ⟨vc4, vc5, vlt4⟩ := v10.out.cells; obtain ⟨yc4, yc5, ylt4⟩ := y10.out.cells) | (go_at_call_of 30 (Value.bool true); refine (ofl_z (z := -3) rfl (by rw [k4]; rfl) (lit_RV _ k4 (by decide) (by first | (simp; done) | rfl) rfl rfl)).mono ?_; rintro e w11 ⟨rfl, r11, b11⟩; have y11 := Aside0.mk ((y10.out.alloc _).below b11.out); have v11 := Aside0.mk ((v10.out.alloc _).below b11.out); obtain ⟨vc6, vc7, vlt6⟩ := v11.out.cells; obtain ⟨yc6, yc7, ylt6⟩ := y11.out.cells) | (go_at_call 17; refine (is_z (-3) (-3) 0 0 (lim_lit k4 (by decide)) _ _ _ _ w11 y11.out.rv r11.out true (by decide)).mono ?_; rintro e w12 ⟨rfl, b12⟩; have v12 := Aside0.mk (v11.out.below b12.out); have y12 := Aside0.mk (y11.out.below b12.out); obtain ⟨vc8, vc9, vlt8⟩ := v12.out.cells; obtain ⟨yc8, yc9, ylt8⟩ := y12.out.cells))
  go_wp2
  go_ret
  refine ⟨rfl, ?_⟩
  have a9 := below_then HBB.out HBB.out.size ((((Below.refl w8.heap.size w8).alloc (Nat.le_refl _) _).drew).trans (b9.out.mono (by show w8.heap.size ≤ (w8.alloc _).heap.size; simp)))
  have a10 := below_then a9 a9.size b10.out
  have a11 := below_then a10 a10.size (((Below.refl w10.heap.size w10).alloc (Nat.le_refl _) _).trans (b11.out.mono (by simp)))
  exact below_then a11 a11.size b12.out
end Go.Proofs.Ytlcjnahfahobjaa.Lb
