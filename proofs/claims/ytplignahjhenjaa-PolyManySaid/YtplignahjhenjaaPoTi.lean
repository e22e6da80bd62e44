/- poly: Times. -/
import Derived.Test.YtplignahjhenjaaPoTc
namespace Go.Proofs.Ytplignahjhenjaa.Lb
open Go.RowKit Go.Proofs.YtplignahjhenjaaW.PrintWords Go.Proofs.YtplignahjhenjaaW.PrintLast Go.Proofs.YtplignahjhenjaaW.PrintMore
open Go.Proofs.Ytplignahjhenjaa.Po (trm trm_of_tight tight_trm trm_len tight_iff ev csum csum_skip csum_more)
set_option linter.unusedVariables false
set_option linter.unusedSimpArgs false

theorem mul_nil_r : ∀ p : List Int, trm (Po.mul p []) = []
  | [] => rfl
  | a :: p => by
    have ih := mul_nil_r p
    show trm (Po.add (Po.scale a []) (0 :: Po.mul p [])) = []
    show trm (0 :: Po.mul p []) = []
    rw [trm, if_pos ⟨ih, rfl⟩]
theorem cell1 {W : World} {g : Nat} {v : Value} {t : Nat} (h : W.heap[g]? = some (.cells #[v] t (0, 0))) : W.cell? ⟨g, 0, none⟩ = some v := by simp [World.cell?, h]
set_option maxRecDepth 100000 in
set_option maxHeartbeats 8000000 in
theorem times_pz (p q : List Int) (hp : ∀ x ∈ p, lim 1000 x) (hq : ∀ x ∈ q, lim 1000 x) (hmin : ∀ x ∈ p, ∀ y ∈ q, min (lm x).length (lm y).length < 24) (hsp : p.length ≤ 4096) (hsq : q.length ≤ 4096) (hpq : p.length + q.length ≤ 4097) (tp : Po.tight p) (tq : Po.tight q) (A1 A2 : Option Addr) (c1 c2 : Nat) (w : World) (r1 : PL w A1 p) (r2 : PL w A2 q) :
    Calls Try.prog 25 #[.slice A1 p.length c1, .slice A2 q.length c2] w (OutLE w (trm (Po.mul p q)) 0) := by
  have hu := Try.underlying25
  have hu60 := Try.underlying60
  have hmf : ∀ (fn : Fn) (first cap : Array Value) (w : World), (Instr.makeFunc fn first cap).run Try.prog w = .ok (.func fn first cap) w := fun _ _ _ _ => rfl
  have R1 := Aside0.mk r1
  have R2 := Aside0.mk r2
  have HP := Aside0.mk hp
  have HQ := Aside0.mk hq
  have HMIN := Aside0.mk hmin
  have TP := Aside0.mk tp
  have TQ := Aside0.mk tq
  have HPQ := Aside0.mk hpq
  obtain ⟨g3, hg3⟩ : ∃ g3, w.heap.size = g3 := ⟨_, rfl⟩
  obtain ⟨X, hX⟩ : ∃ X, (w.alloc (.cells #[.slice A1 p.length c1] 22)).alloc (.cells #[.slice A2 q.length c2] 22) = X := ⟨_, rfl⟩
  have HBX : Aside0 (Below g3 w X) := ⟨by rw [← hX, ← hg3]; exact ((Below.refl _ _).alloc (Nat.le_refl _) _).alloc (by simp) _⟩
  have HPX : Aside0 (X.heap[g3]? = some (.cells #[.slice A1 p.length c1] 22 (0, 0))) := ⟨by
    rw [← hX, ← hg3, Below.heap_alloc _ _ _ (by simp)]
    exact heap_alloc_new w _⟩
  have HQX : Aside0 (X.heap[g3 + 1]? = some (.cells #[.slice A2 q.length c2] 22 (0, 0))) := ⟨by
    rw [← hX, ← hg3]
    have := heap_alloc_new (w.alloc (.cells #[.slice A1 p.length c1] 22)) (.cells #[.slice A2 q.length c2] 22)
    simpa using this⟩
  have hBwX : Below w.heap.size w X := by rw [hg3]; exact HBX.out
  have HBWX := Aside0.mk hBwX
  have HG3 := Aside0.mk hg3
  have HXX := Aside0.mk hX
  clear r1 r2 hp hq hmin tp tq hX hg3 hBwX
  go_enter Try.func25, Try.ntmps25
  go_wp2_with fail
  rw [HXX.out]
  refine (right_pz p (fun z hz => lim_le (HP.out z hz) (by omega)) hsp TP.out A1 c1 X (R1.out.below HBWX.out)).mono ?_
  rintro e w1 ⟨rfl, hB1⟩
  have HB1 : Aside0 (Below w.heap.size w w1) := ⟨HBWX.out.trans (hB1.out.mono HBWX.out.size)⟩
  have HP1 : Aside0 (w1.heap[g3]? = some (.cells #[.slice A1 p.length c1] 22 (0, 0))) := ⟨(hB1.out.block _ (Array.getElem?_eq_some_iff.1 HPX.out).1).trans HPX.out⟩
  have HQ1 : Aside0 (w1.heap[g3 + 1]? = some (.cells #[.slice A2 q.length c2] 22 (0, 0))) := ⟨(hB1.out.block _ (Array.getElem?_eq_some_iff.1 HQX.out).1).trans HQX.out⟩
  clear hB1
  have k1 := cell1 HP1.out
  have k2 := cell1 HQ1.out
  rw [← HG3.out] at k1 k2
  go_wp2_with fail
  refine (right_pz q (fun z hz => lim_le (HQ.out z hz) (by omega)) hsq TQ.out A2 c2 w1 (R2.out.below HB1.out)).mono ?_
  rintro e w2 ⟨rfl, hB2⟩
  have HB2 : Aside0 (Below w.heap.size w w2) := ⟨HB1.out.trans (hB2.out.mono HB1.out.size)⟩
  have HP2 : Aside0 (w2.heap[g3]? = some (.cells #[.slice A1 p.length c1] 22 (0, 0))) := ⟨(hB2.out.block _ (Array.getElem?_eq_some_iff.1 HP1.out).1).trans HP1.out⟩
  have HQ2 : Aside0 (w2.heap[g3 + 1]? = some (.cells #[.slice A2 q.length c2] 22 (0, 0))) := ⟨(hB2.out.block _ (Array.getElem?_eq_some_iff.1 HQ1.out).1).trans HQ1.out⟩
  clear hB2 k1 k2
  have k1 := cell1 HP2.out
  have k2 := cell1 HQ2.out
  rw [← HG3.out] at k1 k2
  by_cases hp0 : p.length = 0
  · obtain rfl : p = [] := List.eq_nil_of_length_eq_zero hp0
    have hm : Aside0 (trm (Po.mul [] q) = []) := ⟨rfl⟩
    clear hp0
    go_wp2_with fail
    go_ret2
    exact ⟨none, 0, by rw [hm.out]; rfl, by rw [hm.out]; exact Nat.le_refl _, ⟨by rw [hm.out]; exact PL.nil _ _⟩, HB2⟩
  · have hp1 : ((p.length : Int) == 0) = false := by simp; intro h; rw [h] at hp0; simp at hp0
    by_cases hq0 : q.length = 0
    · obtain rfl : q = [] := List.eq_nil_of_length_eq_zero hq0
      have hm : Aside0 (trm (Po.mul p []) = []) := ⟨mul_nil_r p⟩
      clear hq0
      go_wp2_with fail
      all_goals
        go_ret2
        exact ⟨none, 0, by rw [hm.out]; rfl, by rw [hm.out]; exact Nat.le_refl _, ⟨by rw [hm.out]; exact PL.nil _ _⟩, HB2⟩
    · have hq1 : ((q.length : Int) == 0) = false := by simp; intro h; rw [h] at hq0; simp at hq0
      go_upto_region 8 with fail
      obtain ⟨gs, hgs⟩ : ∃ gs, w2.heap.size = gs := ⟨_, rfl⟩
      obtain ⟨Y, hY⟩ : ∃ Y, (w2.alloc (.cells #[.int .i64 0] 60)).alloc (.cells #[.pointer (some ⟨w2.heap.size, 0, none⟩)] 58) = Y := ⟨_, rfl⟩
      have HBY : Aside0 (Below w2.heap.size w2 Y) := ⟨by rw [← hY]; exact ((Below.refl _ _).alloc (Nat.le_refl _) _).alloc (by simp) _⟩
      have HSY : Aside0 (SB Y gs) := ⟨by rw [← hY, ← hgs]; exact SB.below (w := w2.alloc (.cells #[.int .i64 0] 60)) (heap_alloc_new w2 _) ((Below.refl _ _).alloc (Nat.le_refl _) _)⟩
      have HVY : Aside0 (Y.heap[gs + 1]? = some (.cells #[.pointer (some ⟨gs, 0, none⟩)] 58 (0, 0))) := ⟨by
        rw [← hY, hgs]
        have := heap_alloc_new (w2.alloc (.cells #[.int .i64 0] 60)) (.cells #[.pointer (some ⟨gs, 0, none⟩)] 58)
        rw [show (w2.alloc (.cells #[.int .i64 0] 60)).heap.size = gs + 1 by simp [hgs]] at this
        exact this⟩
      rw [hY, HG3.out]
      first | rw [hgs] | skip
      have HBWY : Aside0 (Below w.heap.size w Y) := ⟨HB2.out.trans (HBY.out.mono HB2.out.size)⟩
      clear k1 k2 hY hgs
      have k1 := pw_cell_below HBY.out (cell1 HP2.out)
      have k2 := pw_cell_below HBY.out (cell1 HQ2.out)
      have k3 := cell1 HVY.out
      obtain ⟨T, hT⟩ : ∃ T, p.length + q.length = T := ⟨_, rfl⟩
      obtain ⟨N, hN⟩ : ∃ N, T - 1 = N := ⟨_, rfl⟩
      have hTi : (p.length : Int) + (q.length : Int) = (T : Int) := by omega
      have hTw : IntKind.i64.wrap (T : Int) = (T : Int) := by rw [IntKind.wrap_i64]; omega
      have hNi : (T : Int) - 1 = (N : Int) := by omega
      have hNw : IntKind.i64.wrap (N : Int) = (N : Int) := by rw [IntKind.wrap_i64]; omega
      have PR := Lib.hid (fun W' (hW' : Below Y.heap.size Y W') => product_z N (by omega) (fun k => csum p q k (k + 1)) g3 (g3 + 1) (gs + 1) W' (fun k hk W'' hW'' => tc_z p q k HP.out HQ.out HMIN.out hsp hsq (by omega) A1 A2 c1 c2 g3 (g3 + 1) (gs + 1) gs W'' ((R1.out.below HBWY.out).below (hW'.trans (hW''.mono hW'.size))) ((R2.out.below HBWY.out).below (hW'.trans (hW''.mono hW'.size))) (pw_cell_below hW'' (pw_cell_below hW' k1)) (pw_cell_below hW'' (pw_cell_below hW' k2)) (pw_cell_below hW'' (pw_cell_below hW' k3)) ((HSY.out.below hW').below hW'')))
      obtain ⟨ZS, hZS⟩ : ∃ ZS, (List.range N).map (fun k => csum p q k (k + 1)) = ZS := ⟨_, rfl⟩
      have hpne : p ≠ [] := fun h => hp0 (by rw [h]; rfl)
      have hqne : q ≠ [] := fun h => hq0 (by rw [h]; rfl)
      have HTZ : Aside0 (trm (Po.mul p q) = trm ZS) := ⟨by rw [← Po.trm_prod p q hpne hqne, ← hZS, ← hN, ← hT]; rfl⟩
      have HZN : Aside0 (ZS.length = N) := ⟨by rw [← hZS]; simp⟩
      have HZL : Aside0 (ZS.length ≤ 8796093022207) := ⟨by rw [HZN.out]; omega⟩
      have HZM : Aside0 (ZS.length ≤ 4611686018427387904) := ⟨by rw [HZN.out]; omega⟩
      rw [hZS] at PR
      clear hZS hpne hqne hT hN
      -- REGION (mkti.py)
      refine start_ (n := 14) (S := fun w' => Below Y.heap.size Y w') (ds := []) #[false, false, false, false, false, false, false, false, false, false, false, false, false, false] (by kernel_rfl) rfl rfl (Below.refl _ _).drew (fun hHeld => ?_)
      generalize Y.drew = WD at hHeld ⊢
      refine take_ (i := 0) (N := some 35) (v := ?_) (a' := ?_) #[true, false, false, false, false, false, false, false, false, false, false, false, false, false] rfl rfl (by kernel_rfl) (fun _ _ _ h => h) (Or.inl ⟨by rfl, ?_⟩) hHeld ?_ ?_
      rotate_left
      · intro w' s0
        have e0 := pw_cell_below s0 k1
        have e1 := pw_cell_below s0 k2
        have e2 := pw_cell_below s0 k3
        go_simp
        with_reducible rfl
      rotate_left
      · simp only [Act.put, List.setIfInBounds_toArray, List.set_cons_zero, List.set_cons_succ, i64_w, i32_w]
        rfl
      refine take_ (i := 1) (N := some 36) (v := ?_) (a' := ?_) #[true, true, false, false, false, false, false, false, false, false, false, false, false, false] rfl rfl (by kernel_rfl) (fun _ _ _ h => h) (Or.inl ⟨by rfl, ?_⟩) hHeld ?_ ?_
      rotate_left
      · intro w' s0
        have e0 := pw_cell_below s0 k1
        have e1 := pw_cell_below s0 k2
        have e2 := pw_cell_below s0 k3
        go_simp
        with_reducible rfl
      rotate_left
      · simp only [Act.put, List.setIfInBounds_toArray, List.set_cons_zero, List.set_cons_succ, i64_w, i32_w]
        rfl
      refine pure_ (i := 2) (N := some 37) (v := ?_) (a' := ?_) #[true, true, true, false, false, false, false, false, false, false, false, false, false, false] rfl rfl (by kernel_rfl) (fun _ _ _ h => h) (Or.inl ⟨by rfl, ?_⟩) ?_ ?_
      rotate_left
      · intro w'
        go_simp
        with_reducible rfl
      rotate_left
      · simp only [Act.put, List.setIfInBounds_toArray, List.set_cons_zero, List.set_cons_succ, i64_w, i32_w]
        rfl
      refine take_ (i := 3) (N := some 38) (v := ?_) (a' := ?_) #[true, true, true, true, false, false, false, false, false, false, false, false, false, false] rfl rfl (by kernel_rfl) (fun _ _ _ h => h) (Or.inl ⟨by rfl, ?_⟩) hHeld ?_ ?_
      rotate_left
      · intro w' s0
        have e0 := pw_cell_below s0 k1
        have e1 := pw_cell_below s0 k2
        have e2 := pw_cell_below s0 k3
        go_simp
        with_reducible rfl
      rotate_left
      · simp only [Act.put, List.setIfInBounds_toArray, List.set_cons_zero, List.set_cons_succ, i64_w, i32_w]
        rfl
      refine pure_ (i := 4) (N := some 39) (v := ?_) (a' := ?_) #[true, true, true, true, true, false, false, false, false, false, false, false, false, false] rfl rfl (by kernel_rfl) (fun _ _ _ h => h) (Or.inl ⟨by rfl, ?_⟩) ?_ ?_
      rotate_left
      · intro w'
        go_simp
        with_reducible rfl
      rotate_left
      · simp only [Act.put, List.setIfInBounds_toArray, List.set_cons_zero, List.set_cons_succ, i64_w, i32_w]
        rfl
      refine pure_ (i := 5) (N := some 40) (v := ?_) (a' := ?_) #[true, true, true, true, true, true, false, false, false, false, false, false, false, false] rfl rfl (by kernel_rfl) (fun _ _ _ h => h) (Or.inl ⟨by rfl, ?_⟩) ?_ ?_
      rotate_left
      · intro w'
        go_simp
        with_reducible rfl
      rotate_left
      · simp only [Act.put, List.setIfInBounds_toArray, List.set_cons_zero, List.set_cons_succ, i64_w, i32_w]
        rfl
      refine pure_ (i := 6) (N := some 41) (v := ?_) (a' := ?_) #[true, true, true, true, true, true, true, false, false, false, false, false, false, false] rfl rfl (by kernel_rfl) (fun _ _ _ h => h) (Or.inl ⟨by rfl, ?_⟩) ?_ ?_
      rotate_left
      · intro w'
        go_simp
        with_reducible rfl
      rotate_left
      · simp only [Act.put, List.setIfInBounds_toArray, List.set_cons_zero, List.set_cons_succ, i64_w, i32_w]
        rfl
      refine pure_ (i := 7) (N := some 42) (v := ?_) (a' := ?_) #[true, true, true, true, true, true, true, true, false, false, false, false, false, false] rfl rfl (by kernel_rfl) (fun _ _ _ h => h) (Or.inl ⟨by rfl, ?_⟩) ?_ ?_
      rotate_left
      · intro w'
        go_simp
        with_reducible rfl
      rotate_left
      · simp only [Act.put, List.setIfInBounds_toArray, List.set_cons_zero, List.set_cons_succ, i64_w, i32_w]
        rfl
      refine one_ (i := 8) (N := some 43) #[true, true, true, true, true, true, true, true, true, false, false, false, false, false] rfl rfl (by kernel_rfl) (by decide) (fun K hK => ?_)
      refine goes_ Try.func54 (by kernel_rfl) rfl #[.int .i64 (N : Int), .func (.func 55) #[] #[.pointer (some ⟨g3 + 1, 0, none⟩), .pointer (some ⟨g3, 0, none⟩), .pointer (some ⟨gs + 1, 0, none⟩)]] (by rfl) rfl rfl (by (try simp only [List.map_toArray, List.map_cons, List.map_nil]); first | done | rfl) ?_
      refine (PR.out _ hHeld).mono ?_
      rintro e w4 ⟨g, rfl, hgg, HO4, hBw4⟩
      refine ⟨_, rfl, ?_⟩
      have HB4 : Aside0 (Below Y.heap.size Y w4) := ⟨hHeld.trans (hBw4.out.mono hHeld.size)⟩
      refine hK.out _ _ HB4.out ?_
      clear hHeld hK K
      intro hHeld
      refine norm_ (a' := ?_) ?_ ?_
      rotate_left
      · show Act.put _ (some 43) _ = _
        simp only [Act.put, List.setIfInBounds_toArray, List.set_cons_zero, List.set_cons_succ, i64_w, i32_w]
        rfl
      refine one_ (i := 9) (N := some 44) #[true, true, true, true, true, true, true, true, true, true, false, false, false, false] rfl rfl (by kernel_rfl) (by decide) (fun K hK => ?_)
      refine goes_ Try.func45 (by kernel_rfl) rfl #[.pointer (some ⟨gs, 0, none⟩), .slice (some ⟨g, 0, none⟩) N N] (by rfl) rfl rfl (by (try simp only [List.map_toArray, List.map_cons, List.map_nil]); first | done | rfl) ?_
      refine (out_pz ZS HZL.out (some ⟨g, 0, none⟩) N N gs HZN.out (Nat.le_refl _) w4 (HO4.out.PL HZM.out) (HSY.out.below hHeld)).mono ?_
      rintro e w5 ⟨k, rfl, hkk, HK, hw5⟩
      refine ⟨_, rfl, ?_⟩
      have HB5 : Aside0 (Below Y.heap.size Y w5) := ⟨by rw [← hw5]; exact hHeld⟩
      refine hK.out _ _ HB5.out ?_
      clear hHeld hK K
      intro hHeld
      refine norm_ (a' := ?_) ?_ ?_
      rotate_left
      · show Act.put _ (some 44) _ = _
        simp only [Act.put, List.setIfInBounds_toArray, List.set_cons_zero, List.set_cons_succ, i64_w, i32_w]
        rfl
      refine pure_ (i := 10) (N := some 45) (v := ?_) (a' := ?_) #[true, true, true, true, true, true, true, true, true, true, true, false, false, false] rfl rfl (by kernel_rfl) (fun _ _ _ h => h) (Or.inl ⟨by rfl, ?_⟩) ?_ ?_
      rotate_left
      · intro w'
        go_simp
        with_reducible rfl
      rotate_left
      · simp only [Act.put, List.setIfInBounds_toArray, List.set_cons_zero, List.set_cons_succ, i64_w, i32_w]
        rfl
      refine pure_ (i := 11) (N := some 46) (v := ?_) (a' := ?_) #[true, true, true, true, true, true, true, true, true, true, true, true, false, false] rfl rfl (by kernel_rfl) (fun _ _ _ h => h) (Or.inl ⟨by rfl, ?_⟩) ?_ ?_
      rotate_left
      · intro w'
        go_simp
        with_reducible rfl
      rotate_left
      · simp only [Act.put, List.setIfInBounds_toArray, List.set_cons_zero, List.set_cons_succ, i64_w, i32_w]
        rfl
      refine pure_ (i := 12) (N := some 4) (v := ?_) (a' := ?_) #[true, true, true, true, true, true, true, true, true, true, true, true, true, false] rfl rfl (by kernel_rfl) (fun _ _ _ h => h) (Or.inl ⟨by rfl, ?_⟩) ?_ ?_
      rotate_left
      · intro w'
        go_simp
        with_reducible rfl
      rotate_left
      · simp only [Act.put, List.setIfInBounds_toArray, List.set_cons_zero, List.set_cons_succ, i64_w, i32_w]
        rfl
      refine pure_ (i := 13) (N := some 5) (v := ?_) (a' := ?_) #[true, true, true, true, true, true, true, true, true, true, true, true, true, true] rfl rfl (by kernel_rfl) (fun _ _ _ h => h) (Or.inl ⟨by rfl, ?_⟩) ?_ ?_
      rotate_left
      · intro w'
        go_simp
        with_reducible rfl
      rotate_left
      · simp only [Act.put, List.setIfInBounds_toArray, List.set_cons_zero, List.set_cons_succ, i64_w, i32_w]
        rfl
      refine done_ (by kernel_rfl) ?_
      -- END
      subst hw5
      have hkl : Aside0 ((trm ZS).length = k) := ⟨by rw [← HK.out, List.length_take, HZN.out]; omega⟩
      have HB5 : Aside0 (Below w.heap.size w w4) := ⟨HBWY.out.trans (HB4.out.mono HBWY.out.size)⟩
      clear hTi hTw hNi hNw
      go_wp2_with fail
      go_ret2
      refine ⟨some ⟨g, 0, none⟩, N, ?_, ?_, ⟨?_⟩, HB5⟩
      · rw [HTZ.out, hkl.out]; rfl
      · rw [HTZ.out, hkl.out]; exact hkk
      · rw [HTZ.out, ← HK.out]
        exact (HO4.out.PL HZM.out).take k
end Go.Proofs.Ytplignahjhenjaa.Lb
