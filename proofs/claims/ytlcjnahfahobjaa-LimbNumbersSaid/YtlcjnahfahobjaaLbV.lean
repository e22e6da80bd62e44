/- limb: Shift. -/
import Derived.Test.YtlcjnahfahobjaaLbU
namespace Go.Proofs.Ytlcjnahfahobjaa.Lb
open Go.RowKit Go.Proofs.YtlcjnahfahobjaaW.PrintWords Go.Proofs.YtlcjnahfahobjaaW.PrintLast Go.Proofs.YtlcjnahfahobjaaW.PrintMore
set_option linter.unusedVariables false
set_option linter.unusedSimpArgs false

theorem bits_c (s : Bool) (A : Option Addr) (c : Nat) (l : List Int) (hc : l.length ≤ c) (ho : okL l) (hm : l.length ≤ 9223372036854775807) (w : World) (hr : u64.C w A l.length l) :
    Calls Try.prog 27 #[.agg #[.bool s, .slice A l.length c]] w fun e w' => e = .returned (.tuple #[.int .i64 (if rightB s l then ((bitN (nv l) : Nat) : Int) else 0), .int .i64 (if rightB s l then 0 else 2)]) ∧ Below w.heap.size w w' :=
  PA.limb_Bits.calls s A c l _ _ w hr hc (bits_f s l ho hm)
theorem down_n (A : Option Addr) (c : Nat) (l : List Int) (hc : l.length ≤ c) (ho : okL l) (hm : l.length ≤ 4096) (by_ : Nat) (hby : by_ / 64 < l.length) (w : World) (hr : u64.C w A l.length l) :
    Calls Try.prog 56 #[.slice A l.length c, .int .i64 (by_ : Int)] w fun e w' => ∃ A' c', ∃ q : List Int, ∃ lost : Bool, e = .returned (.tuple #[.slice A' q.length c', .bool lost]) ∧ lost = decide (nv l % 2 ^ by_ ≠ 0) ∧ u64.R 50 w' w.heap.size (fun k => w.heap.size ≤ k) (.slice A' q.length c') q ∧ okL q ∧ q.length ≤ 4097 ∧ nv q = nv l / 2 ^ by_ ∧ Below w.heap.size w w' := by
  obtain ⟨ad, hA, _⟩ := read_at hr 0 (by omega)
  subst hA
  refine (down_c ad c l hc ho hm by_ hby w hr).mono ?_
  rintro e w' ⟨A', c', q, h1, h2, h3, h4, h5, h6⟩
  exact ⟨A', c', q, _, h1, rfl, h2, h3, h4, h5, h6⟩
set_option maxRecDepth 100000 in
set_option maxHeartbeats 2000000 in
theorem shift_c (s : Bool) (A : Option Addr) (c : Nat) (l : List Int) (b : Int) (hc : l.length ≤ c) (ho : okL l) (hm : l.length ≤ 9223372036854775807) (hb0 : -9223372036854775808 ≤ b) (hb1 : b ≤ 9223372036854775807) (w : World) (hr : u64.C w A l.length l) :
    Calls Try.prog 25 #[.agg #[.bool s, .slice A l.length c], .int .i64 b] w fun e w' => ∃ v, e = .returned (.tuple #[.agg #[.bool (shiftS s l b).1, v], .int .i64 (shiftS s l b).2.2]) ∧ Kd.V u64 50 w' w.heap.size (fun k_ => (w.heap.size ≤ k_)) v (shiftS s l b).2.1 ∧ Below w.heap.size w w' := by
  have hu := Try.underlying24
  have hus := Try.underlying22
  have HR := Aside0.mk hr
  have HO := Aside0.mk ho
  obtain ⟨W, hW⟩ : ∃ W, (w.alloc (.cells #[.bool s, .slice A l.length c] 24)).alloc (.cells #[.bool false, .slice none 0 0] 24) = W := ⟨_, rfl⟩
  have HB0 : Aside0 (Below w.heap.size w W) := ⟨by rw [← hW]; exact ((Below.refl _ _).alloc (Nat.le_refl _) _).alloc (by simp) _⟩
  have HG0 : Aside0 (W.heap[w.heap.size]? = some (.cells #[.bool s, .slice A l.length c] 24 (0, 0))) := ⟨by
    rw [← hW, Below.heap_alloc _ _ _ (by simp)]
    exact heap_alloc_new w _⟩
  have HG1 : Aside0 (W.heap[w.heap.size + 1]? = some (.cells #[.bool false, .slice none 0 0] 24 (0, 0))) := ⟨by
    rw [← hW]
    have := heap_alloc_new (w.alloc (.cells #[.bool s, .slice A l.length c] 24)) (.cells #[.bool false, .slice none 0 0] 24)
    simpa using this⟩
  have HZ0 : Aside0 (W.heap.size = w.heap.size + 2) := ⟨by rw [← hW]; simp⟩
  have HW := Aside0.mk hW
  have HM := Aside0.mk hm
  clear hr ho hW
  go_enter Try.func25, Try.ntmps25
  go_wp2_with fail
  rw [HW.out]
  refine (bits_c s A c l hc HO.out HM.out W (Kd.C_below HR.out HB0.out)).mono ?_
  rintro e w1 ⟨rfl, hb⟩
  have HB1 : Aside0 (Below w.heap.size w w1) := ⟨HB0.out.trans (hb.mono (by rw [HZ0.out]; omega))⟩
  have hs1 := hb.size
  rw [HZ0.out] at hs1
  have HH0 : Aside0 (w1.heap[w.heap.size]? = some (.cells #[.bool s, .slice A l.length c] 24 (0, 0))) := ⟨(hb.block _ (by rw [HZ0.out]; omega)).trans HG0.out⟩
  have HH1 : Aside0 (w1.heap[w.heap.size + 1]? = some (.cells #[.bool false, .slice none 0 0] 24 (0, 0))) := ⟨(hb.block _ (by rw [HZ0.out]; omega)).trans HG1.out⟩
  obtain ⟨c0, c1, f0, f1, z0⟩ := two_cells hb HG0.out
  obtain ⟨d0, d1, g0, g1, z1⟩ := two_cells hb HG1.out
  clear hb
  by_cases hrt : rightB s l = true
  · rw [if_pos hrt, if_pos hrt]
    have bl4 := right_len hrt
    by_cases hz : nv l = 0
    · have hS : Aside0 (shiftS s l b = (false, [], 0)) := ⟨by unfold shiftS; rw [if_pos hrt, if_pos hz]⟩
      rw [hz, bitN_zero]
      clear hz
      go_wp2
      refine bodyPost_ret (v := .tuple #[.agg #[.bool false, .slice none 0 0], .int .i64 0]) (by simp [results, Try.results25, go_sem, d0, d1, g0, g1, z1]) rfl ⟨.slice none 0 0, ?_, ?_, ?_⟩
      · rw [hS.out]
      · rw [hS.out]; exact Kd.V_nil _ _ _ _ _
      · exact ((HB1.out.setCell (by simp) _).setCell (by simp) _)
    · have hn0 : bitN (nv l) ≠ 0 := by obtain ⟨k, hk, _⟩ := bitN_pos hz; omega
      have hn1 : bitN (nv l) ≤ 262144 := by have := bits_len HO.out; omega
      obtain ⟨n, hn⟩ : ∃ n, bitN (nv l) = n := ⟨_, rfl⟩
      rw [hn] at hn0 hn1 ⊢
      have HN := Aside0.mk hn
      have HZ := Aside0.mk hz
      clear hn hz
      by_cases h1 : 262144 - (n : Int) < b
      · have hS : Aside0 (shiftS s l b = (false, [], 3)) := ⟨by unfold shiftS; rw [if_pos hrt, if_neg HZ.out, if_pos (by rw [HN.out]; exact h1)]⟩
        go_wp2
        refine bodyPost_ret (v := .tuple #[.agg #[.bool false, .slice none 0 0], .int .i64 3]) (by simp [results, Try.results25, go_sem, d0, d1, g0, g1, z1]) rfl ⟨.slice none 0 0, ?_, ?_, ?_⟩
        · rw [hS.out]
        · rw [hS.out]; exact Kd.V_nil _ _ _ _ _
        · exact ((HB1.out.setCell (by simp) _).setCell (by simp) _)
      · by_cases h2 : 0 ≤ b
        · obtain ⟨B, rfl⟩ := Int.eq_ofNat_of_zero_le h2
          have hS : Aside0 (shiftS s l (B : Int) = toldS s (nv l * 2 ^ B)) := ⟨shift_up hrt HZ.out (by rw [HN.out]; exact h1)⟩
          have HUP := Lib.hid (fun W' (h : Below w1.heap.size w1 W') => up_c A c l hc HO.out bl4 B (by omega) W' (Kd.C_below HR.out (HB1.out.trans (h.mono (by omega)))))
          have BB : Hid (Below w.heap.size w w1.drew) := Lib.hid HB1.out.drew
          have HD0 : Aside0 (w1.drew.heap[w.heap.size + 1]? = some (.cells #[.bool false, .slice none 0 0] 24 (0, 0))) := HH1
          have HE0 : Aside0 (w1.drew.heap[w.heap.size]? = some (.cells #[.bool s, .slice A l.length c] 24 (0, 0))) := HH0
          have hzz : w1.drew.heap.size = w1.heap.size := rfl
          have HZZ := Aside0.mk hzz
          have HS1 := Aside0.mk hs1
          clear hzz
          go_wp2
          go_region_with (first | (go_at_call 55; refine (HUP.out _ ?_).mono ?_; (first | exact Below.refl _ _ | exact (Below.refl _ _).drew); rintro e w2 ⟨A2, c2, q, rfl, hR2, hok2, hlen2, hnv2, hb2⟩; have HR2 := Aside0.mk hR2; have HB2 := Aside0.mk hb2; have HOK2 := Aside0.mk hok2; have HNV2 := Aside0.mk hnv2; obtain ⟨e0, e1, i0, i1, y1⟩ := two_cells hb2 HD0.out; obtain ⟨o0, o1, p0, p1, q1⟩ := two_cells hb2 HE0.out; clear hR2 hb2 hok2 hnv2) | (go_at_call 47; refine (told_n s _ _ _ q rfl (R_C HR2.out).2.1 HOK2.out (by omega) _ (R_C HR2.out).1).mono ?_; rintro e w3 ⟨ht, hb3⟩; obtain ⟨A3, c3, rfl, HV⟩ := told_out ht HR2.out hb3; have HB3 := Aside0.mk hb3; obtain ⟨e0', e1', i0', i1', y1'⟩ := two_cells hb3 ((HB2.out.block _ (by rw [HZZ.out]; have := HS1.out; omega)).trans HD0.out); obtain ⟨o0', o1', p0', p1', q1'⟩ := two_cells hb3 ((HB2.out.block _ (by rw [HZZ.out]; have := HS1.out; omega)).trans HE0.out); clear ht hb3))
          all_goals (go_wp2; refine bodyPost_ret (v := .tuple #[.agg #[.bool (toldS s (nv q)).1, .slice A3 (toldS s (nv q)).2.1.length c3], .int .i64 (toldS s (nv q)).2.2]) (by simp [results, Try.results25, go_sem, Act.put, e0', e1', i0', i1', y1']) (by first | rfl | simp [Act.put]) ⟨.slice A3 (toldS s (nv q)).2.1.length c3, ?_, ?_, ?_⟩; (rw [hS.out, HNV2.out]); (rw [hS.out, ← HNV2.out]; exact Kd.V_mono (Kd.V_far (Kd.V_far (HV.out w.heap.size) (fun k hk => by show k ≠ w.heap.size + 1; have := HS1.out; have := HZZ.out; omega) _) (fun k hk => by show k ≠ w.heap.size + 1; have := HS1.out; have := HZZ.out; omega) _) (fun k hk => by have := HS1.out; have := HZZ.out; omega)); exact ((((BB.out.trans (HB2.out.mono (by have := HS1.out; have := HZZ.out; omega))).trans (HB3.out.mono (by have := HB2.out.size; have := HS1.out; have := HZZ.out; omega))).setCell (by simp) _).setCell (by simp) _))
        · obtain ⟨B, hB⟩ : ∃ B : Nat, b = -(B : Int) := ⟨(-b).toNat, by omega⟩
          subst hB
          have hB0 : 0 < B := by omega
          by_cases h3 : n ≤ B
          · have hn3 : (-(B : Int) ≤ -(n : Int)) := by omega
            cases s with
            | true =>
              have hS : Aside0 (shiftS true l (-(B : Int)) = ((ofS (-1)).1, (ofS (-1)).2, 0)) := ⟨shift_low_neg HO.out hrt HZ.out (by rw [HN.out]; exact h3) (by rw [HN.out]; exact h1) hB0⟩
              go_wp2_with fail
              refine (of_c (-1) (by decide) (by decide) w1).mono ?_
              rintro e w2 ⟨v2, rfl, hV2, hb2⟩
              obtain ⟨A2, c2, rfl⟩ := Kd.V_slice hV2
              have HB2 := Aside0.mk hb2
              have HV2 := Aside0.mk hV2
              obtain ⟨e0, e1, i0, i1, y1⟩ := two_cells hb2 HH1.out
              clear hb2 hV2
              go_wp2
              refine bodyPost_ret (v := .tuple #[.agg #[.bool (ofS (-1)).1, .slice A2 (ofS (-1)).2.length c2], .int .i64 0]) (by simp [results, Try.results25, go_sem, e0, e1, i0, i1, y1]) rfl ⟨.slice A2 (ofS (-1)).2.length c2, ?_, ?_, ?_⟩
              · rw [hS.out]
              · rw [hS.out]; exact Kd.V_mono (Kd.V_far (Kd.V_far (Kd.V_map (base' := w.heap.size) HV2.out (fun _ hf => hf)) (fun k hk => by show k ≠ w.heap.size + 1; omega) _) (fun k hk => by show k ≠ w.heap.size + 1; omega) _) (fun k hk => by omega)
              · exact (((HB1.out.trans (HB2.out.mono (by omega))).setCell (by simp) _).setCell (by simp) _)
            | false =>
              have hS : Aside0 (shiftS false l (-(B : Int)) = (false, [], 0)) := ⟨shift_low_pos HO.out hrt HZ.out (by rw [HN.out]; exact h3) (by rw [HN.out]; exact h1) hB0⟩
              go_wp2
              refine bodyPost_ret (v := .tuple #[.agg #[.bool false, .slice none 0 0], .int .i64 0]) (by simp [results, Try.results25, go_sem, d0, d1, g0, g1, z1]) rfl ⟨.slice none 0 0, ?_, ?_, ?_⟩
              · rw [hS.out]
              · rw [hS.out]; exact Kd.V_nil _ _ _ _ _
              · exact ((HB1.out.setCell (by simp) _).setCell (by simp) _)
          · have hne0 : nv l / 2 ^ B < B64 ^ 4096 := Nat.lt_of_le_of_lt (Nat.div_le_self _ _) (nv_small hrt HO.out)
            have HT := Aside0.mk (toldS_iv s _ hne0)
            have HSD := Aside0.mk (shift_down (s := s) (k := B) HO.out hrt HZ.out hB0)
            clear hne0
            go_wp2_with fail
            refine (down_n A c l hc HO.out bl4 B (by have := bits_len HO.out; have := HN.out; omega) w1 (Kd.C_below HR.out HB1.out)).mono ?_
            rintro e w2 ⟨A2, c2, q, lost, rfl, hlost, hR2, hok2, hlen2, hnv2, hb2⟩
            have HR2 := Aside0.mk hR2
            have HB2 := Aside0.mk hb2
            have HOK2 := Aside0.mk hok2
            have HNV2 := Aside0.mk hnv2
            have HL := Aside0.mk hlost
            have hs2 := hb2.size
            have HI0 : Aside0 (w2.heap[w.heap.size]? = some (.cells #[.bool s, .slice A l.length c] 24 (0, 0))) := ⟨(hb2.block _ (by omega)).trans HH0.out⟩
            have HI1 : Aside0 (w2.heap[w.heap.size + 1]? = some (.cells #[.bool false, .slice none 0 0] 24 (0, 0))) := ⟨(hb2.block _ (by omega)).trans HH1.out⟩
            obtain ⟨e0, e1, i0, i1, y1⟩ := two_cells hb2 HH0.out
            obtain ⟨o0, o1, p0, p1, q1⟩ := two_cells hb2 HH1.out
            clear hR2 hb2 hok2 hnv2 hlost
            obtain ⟨T, hT0⟩ : ∃ T, toldS s (nv q) = T := ⟨_, rfl⟩
            have hTT := Aside0.mk hT0
            clear hT0
            go_wp2_with fail
            refine (told_n s _ _ _ q rfl (R_C HR2.out).2.1 HOK2.out (by omega) _ (R_C HR2.out).1).mono ?_
            rintro e w3 ⟨ht, hb3⟩
            rw [hTT.out] at ht
            obtain ⟨A3, c3, rfl, HV⟩ := told_out ht HR2.out hb3
            have HB3 := Aside0.mk hb3
            have hs3 := hb3.size
            have HJ1 : Aside0 (w3.heap[w.heap.size + 1]? = some (.cells #[.bool false, .slice none 0 0] 24 (0, 0))) := ⟨(hb3.block _ (by omega)).trans HI1.out⟩
            obtain ⟨e0', e1', i0', i1', y1'⟩ := two_cells hb3 HI0.out
            obtain ⟨o0', o1', p0', p1', q1'⟩ := two_cells hb3 HI1.out
            have HB13 : Aside0 (Below w.heap.size w w3) := ⟨(HB1.out.trans (HB2.out.mono (by omega))).trans (HB3.out.mono (by omega))⟩
            clear ht hb3
            by_cases hlt : (lost && s) = true
            · rw [Bool.and_eq_true] at hlt
              obtain ⟨rfl, rfl⟩ := hlt
              have hm2 : nv l % 2 ^ B ≠ 0 := by have := HL.out; simpa using this.symm
              have hS : Aside0 (shiftS true l (-(B : Int)) = subS T.1 T.2.1 (ofS 1).1 (ofS 1).2) := ⟨by rw [shift_sub HO.out hrt HZ.out hB0 hm2, ← hTT.out, HNV2.out]⟩
              clear hm2
              have HTo : Aside0 (okL T.2.1 ∧ T.2.1.length ≤ 4096) := ⟨by rw [← hTT.out]; exact ⟨toldS_ok _ _, toldS_len _ _⟩⟩
              have HW4 : Aside0 ((w3.alloc (.cells #[.bool T.1, .slice A3 T.2.1.length c3] 24)).heap[w3.heap.size]? = some (.cells #[.bool T.1, .slice A3 T.2.1.length c3] 24 (0, 0))) := ⟨heap_alloc_new w3 _⟩
              have HJ2 : Aside0 ((w3.alloc (.cells #[.bool T.1, .slice A3 T.2.1.length c3] 24)).heap[w.heap.size + 1]? = some (.cells #[.bool false, .slice none 0 0] 24 (0, 0))) := ⟨by rw [Below.heap_alloc _ _ _ (by omega)]; exact HJ1.out⟩
              have HB14 : Aside0 (Below w.heap.size w (w3.alloc (.cells #[.bool T.1, .slice A3 T.2.1.length c3] 24))) := ⟨HB13.out.alloc (by omega) _⟩
              have HC4 : Aside0 (T.2.1.length ≤ c3 ∧ u64.C (w3.alloc (.cells #[.bool T.1, .slice A3 T.2.1.length c3] 24)) A3 T.2.1.length T.2.1) := ⟨(Kd.V_reads' (HV.out 0)).2.1, Kd.C_alloc (Kd.V_reads' (HV.out 0)).2.2 _⟩
              have HS3 := Aside0.mk hs3
              have HS2 := Aside0.mk hs2
              have HS1 := Aside0.mk hs1
              go_wp2_with fail
              obtain ⟨W4, hW4⟩ : ∃ W4, w3.alloc (.cells #[.bool T.1, .slice A3 T.2.1.length c3] 24) = W4 := ⟨_, rfl⟩
              have hz4 : W4.heap.size = w3.heap.size + 1 := by rw [← hW4]; simp
              rw [hW4] at HW4 HJ2 HB14 HC4 ⊢
              have HZ4 := Aside0.mk hz4
              clear hW4
              obtain ⟨qa0, qa1, qf0, qf1, qz⟩ := two_cells (Below.refl W4.heap.size W4) HW4.out
              have HX4 : Aside0 (W4.drew.heap[w3.heap.size]? = some (.cells #[.bool T.1, .slice A3 T.2.1.length c3] 24 (0, 0))) := HW4
              have HJ4 : Aside0 (W4.drew.heap[w.heap.size + 1]? = some (.cells #[.bool false, .slice none 0 0] 24 (0, 0))) := HJ2
              clear hz4
              go_region_with (first | (go_at_call 26; refine (of_c 1 (by decide) (by decide) _).mono ?_; rintro e w5 ⟨v5, rfl, hV5, hb5⟩; obtain ⟨A5, c5, rfl⟩ := Kd.V_slice hV5; have HV5 := Aside0.mk hV5; have HB5 := Aside0.mk hb5; obtain ⟨ra0, ra1, rf0, rf1, rz⟩ := two_cells hb5 HX4.out; have HJ5 := Aside0.mk ((hb5.block _ (by show w.heap.size + 1 < W4.heap.size; have := HZ4.out; have := HS3.out; have := HS2.out; have := HS1.out; omega)).trans HJ4.out); clear hV5 hb5) | (go_at_call 15; refine (sub_c T.1 (ofS 1).1 A3 A5 c3 c5 T.2.1 (ofS 1).2 HC4.out.1 (Kd.V_reads' HV5.out).2.1 HTo.out.1 (okL_toL _) (by have := HTo.out.2; omega) (by have := of_len 1 (by decide) (by decide); omega) _ (Kd.C_below (Kd.C_drew HC4.out.2) HB5.out) (Kd.V_reads' HV5.out).2.2).mono ?_; rintro e w6 ⟨v6, rfl, hV6, hb6⟩; obtain ⟨A6, c6, rfl⟩ := Kd.V_slice hV6; have HV6 := Aside0.mk hV6; have HB6 := Aside0.mk hb6; obtain ⟨sa0, sa1, sf0, sf1, sz⟩ := two_cells hb6 HJ5.out; clear hV6 hb6))
              all_goals (have hz5 := HZ4.out; have hz6 := HB5.out.size; have hz7 := HB6.out.size; have hz8 : W4.drew.heap.size = W4.heap.size := rfl; have hz9 := HS3.out; have hz10 := HS2.out; have hz11 := HS1.out; have HZA := Aside0.mk (show w.heap.size + 2 ≤ W4.drew.heap.size ∧ W4.drew.heap.size ≤ w5.heap.size ∧ w5.heap.size ≤ w6.heap.size by omega); clear hz5 hz6 hz7 hz8 hz9 hz10 hz11)
              all_goals (go_wp2; refine bodyPost_ret (v := .tuple #[.agg #[.bool (subS T.1 T.2.1 (ofS 1).1 (ofS 1).2).1, .slice A6 (subS T.1 T.2.1 (ofS 1).1 (ofS 1).2).2.1.length c6], .int .i64 (subS T.1 T.2.1 (ofS 1).1 (ofS 1).2).2.2]) (by simp [results, Try.results25, go_sem, Act.put, sa0, sa1, sf0, sf1, sz]) (by first | rfl | simp [Act.put]) ⟨.slice A6 (subS T.1 T.2.1 (ofS 1).1 (ofS 1).2).2.1.length c6, ?_, ?_, ?_⟩; (rw [hS.out]); (rw [hS.out]; exact Kd.V_mono (Kd.V_far (Kd.V_far (Kd.V_map (base' := w.heap.size) HV6.out (fun _ hf => hf)) (fun k hk => by show k ≠ w.heap.size + 1; have := HZA.out; omega) _) (fun k hk => by show k ≠ w.heap.size + 1; have := HZA.out; omega) _) (fun k hk => by have := HZA.out; omega)); exact ((((HB14.out.drew).trans (HB5.out.mono (by have := HZA.out; omega))).trans (HB6.out.mono (by have := HZA.out; omega))).setCell (by simp) _).setCell (by simp) _)
            · have hS : Aside0 (shiftS s l (-(B : Int)) = T) := ⟨by
                rw [HSD.out, ← hTT.out, HNV2.out]
                have : (s && decide (nv l % 2 ^ B ≠ 0)) = false := by rw [← HL.out, Bool.and_comm]; simpa using hlt
                rw [this]; rfl⟩
              have hE : Aside0 (T.2.2 = 0) := ⟨by rw [← hTT.out, HNV2.out]; exact HT.out.1⟩
              cases lost <;> cases s <;> simp only [Bool.and_true, Bool.and_false, Bool.true_and, Bool.false_and, not_true_eq_false, not_false_eq_true, Bool.false_eq_true] at hlt
              all_goals (go_wp2; refine bodyPost_ret (v := .tuple #[.agg #[.bool T.1, .slice A3 T.2.1.length c3], .int .i64 0]) (by simp [results, Try.results25, go_sem, o0', o1', p0', p1', q1']) rfl ⟨.slice A3 T.2.1.length c3, ?_, ?_, ?_⟩; (rw [hS.out, hE.out]); (rw [hS.out]; exact Kd.V_mono (Kd.V_alloc (Kd.V_far (Kd.V_far (HV.out w.heap.size) (fun k hk => by show k ≠ w.heap.size + 1; omega) _) (fun k hk => by show k ≠ w.heap.size + 1; omega) _) _) (fun k hk => by omega)); exact ((HB13.out.setCell (by simp) _).setCell (by simp) _).alloc (by simp; omega) _)
  · have hrt : rightB s l = false := by simpa using hrt
    rw [hrt]
    simp only [Bool.false_eq_true, if_false]
    have hS : Aside0 (shiftS s l b = (false, [], 2)) := ⟨by unfold shiftS; rw [hrt]; rfl⟩
    go_wp2
    refine bodyPost_ret (v := .tuple #[.agg #[.bool false, .slice none 0 0], .int .i64 2]) (by simp [results, Try.results25, go_sem, d0, d1, g0, g1, z1]) rfl ⟨.slice none 0 0, ?_, ?_, ?_⟩
    · rw [hS.out]
    · rw [hS.out]; exact Kd.V_nil _ _ _ _ _
    · exact ((HB1.out.setCell (by simp) _).setCell (by simp) _)
end Go.Proofs.Ytlcjnahfahobjaa.Lb
