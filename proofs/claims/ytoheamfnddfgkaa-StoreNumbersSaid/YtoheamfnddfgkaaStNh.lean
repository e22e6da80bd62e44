/- store: StoreNumbers: the walk. -/
import Derived.Test.YtoheamfnddfgkaaStNt
namespace Go.Proofs.Ytoheamfnddfgkaa.St
open Go.RowKit Go.Proofs.YtoheamfnddfgkaaW.PrintWords Go.Proofs.YtoheamfnddfgkaaW.PrintLast Go.Proofs.YtoheamfnddfgkaaW.PrintMore Go.Proofs.Ytoheamfnddfgkaa.PB
set_option linter.unusedVariables false
set_option linter.unusedSimpArgs false
set_option maxRecDepth 100000 in
set_option maxHeartbeats 8000000 in
theorem numbers_c (w : World) (N M K : Nat) (HN : Aside0 (N = 4096)) (HM : Aside0 (M = 4097)) (HK : Aside0 (K = 4095)) (P : List Int) (HPF : Aside0 (putS true (fullL K) = (P, 0))) (HPL : Aside0 (P.length = 32770)) (HPB : Aside0 (okB P)) (HP0 : Aside0 (P[0]? = some 129)) (HP1 : Aside0 (P[1]? = some 64)) (HGF : Aside0 (getS (P ++ [7]) = (true, fullL K, 32770, 0))) (HGS : Aside0 (getS (P.take 32769) = (false, [], 0, 400))) (c64 : List Int) (HC64 : Aside0 (certsT (List.replicate 64 z61) = (c64, 0))) (HCL : Aside0 (c64.length = 193)) (l64 : List Int) (HL64 : Aside0 (certsT [zc 64] = (l64, 0))) :
  Calls Try.prog 7 #[] w fun e w' => e = .returned (.bool true) ∧ Below w.heap.size w w' := by
 have hu := Try.underlying24
 have hu61 := Try.underlying61
 have hub := Try.underlying25
 have hus := Try.underlying22
 have hmk8 : ∀ w' : World, (Instr.makeSlice 25 (.int .i64 8) (.int .i64 8)).run Try.prog w' = .ok (.slice (some ⟨w'.heap.size, 0, none⟩) 8 8) (w'.alloc (.cells (madeCells #[.int .u8 0] 8) 5)) := print_make 25 5 .u8 1 hub (by kernel_rfl) (by decide) 8 (by decide)
 go_enter Try.func7, Try.ntmps7
 go_upto_region 2 with fail
 have H8 : Aside0 (u8C (w.alloc (.cells (madeCells #[.int .u8 0] 8) 5)) (some ⟨w.heap.size, 0, none⟩) 8 (List.replicate 8 0)) := ⟨zero_row w 8 _ .u8 (by decide)⟩
 have HB : Aside0 (Below w.heap.size w (w.alloc (.cells (madeCells #[.int .u8 0] 8) 5))) := ⟨(Below.refl _ _).alloc (Nat.le_refl _) _⟩
 clear hmk8
 generalize hWW : (w.alloc (.cells (madeCells #[.int .u8 0] 8) 5)) = WW at H8 HB ⊢
 clear hWW
 go_cut [2] (fun y1 wx => ∃ g, y1 = .slice (some ⟨g, 0, none⟩) 13 13 ∧ Aside0 (∀ j, j < 13 → Eb wx g j) ∧ Aside0 (Below WW.heap.size WW wx))
 case first =>
  obtain ⟨Fr, hFr, r0_, q0_, p0_, r1_, q1_, p1_, r2_, q2_, p2_, r3_, q3_, p3_, r4_, q4_, p4_, r5_, q5_, p5_, r6_, q6_, p6_, r7_, q7_, p7_, r8_, q8_, p8_, r9_, q9_, p9_, r10_, q10_, p10_, r11_, q11_, p11_, r12_, q12_, p12_, r13_, q13_, p13_, r14_, q14_, p14_, r15_, q15_, p15_, r16_, q16_, p16_, r17_, q17_, p17_, c1_, d1_⟩ : ∃ Fr : (Nat → Value) → Act, (∀ f, Fr f = { tmps := #[.bool false, .slice (some ⟨w.heap.size, 0, none⟩) 8 8, (f 17), undef, undef, undef, undef, undef, undef, undef, undef, undef, undef, undef, undef, undef, undef, undef, undef, undef, undef, undef, undef, undef, undef, undef, undef, undef, undef, undef, undef, undef, undef, .slice (some ⟨w.heap.size, 0, none⟩) 8 8, (f 0), (f 1), (f 2), (f 3), (f 4), (f 5), (f 6), (f 7), (f 8), (f 9), (f 10), (f 11), (f 12), (f 13), (f 14), (f 15), (f 16), undef, undef, undef, undef, undef, undef, undef, undef, undef, undef, undef, undef, undef, undef, undef, undef, undef, undef, undef, undef, undef, undef, undef, undef, undef, undef, undef, undef, undef, undef, undef, undef, undef, undef, undef, undef, undef, undef, undef, undef, undef, undef, undef, undef, undef, undef, undef, undef, undef, undef, undef, undef, undef, undef, undef, undef, undef, undef, undef, undef, undef, undef, undef, undef, undef, undef, undef, undef, undef, undef, undef, undef, undef, undef, undef, undef, undef, undef, undef, undef, undef, undef, undef, undef, undef, undef, undef, undef, undef, undef, undef, undef, undef, undef, undef, undef, undef, undef, undef, undef, undef, undef, undef, undef, undef, undef, undef, undef, undef, undef, undef, undef, undef, undef, undef, undef, undef, undef, undef, undef, undef, undef, undef, undef, undef, undef, undef, undef, undef, undef, undef, undef, undef, undef, undef, undef, undef, undef, undef, undef, undef, undef, undef, undef, undef, undef, undef, undef, undef, undef, undef, undef, undef, undef, undef, undef, undef, undef, undef, undef, undef, undef, undef, undef, undef, undef, undef, undef, undef, undef, undef, undef, undef, undef, undef, undef, undef, undef, undef, undef, undef, undef, undef, undef, undef, undef, undef, undef, undef, undef, undef, undef, undef, undef, undef, undef, undef, undef, undef, undef, undef, undef, undef, undef, undef, undef, undef, undef, undef, undef, undef, undef, undef, undef, undef, undef, undef, undef, undef, undef, undef, undef, undef, undef, undef], defers := [] }) ∧ (∀ f, (Fr f).tmps.getD 34 undef = f 0) ∧ (∀ f, (Fr f).tmps[34]?.getD undef = f 0) ∧ (∀ f v, (Fr f).put (some 34) v = Fr (Gr.upd f 0 v)) ∧ (∀ f, (Fr f).tmps.getD 35 undef = f 1) ∧ (∀ f, (Fr f).tmps[35]?.getD undef = f 1) ∧ (∀ f v, (Fr f).put (some 35) v = Fr (Gr.upd f 1 v)) ∧ (∀ f, (Fr f).tmps.getD 36 undef = f 2) ∧ (∀ f, (Fr f).tmps[36]?.getD undef = f 2) ∧ (∀ f v, (Fr f).put (some 36) v = Fr (Gr.upd f 2 v)) ∧ (∀ f, (Fr f).tmps.getD 37 undef = f 3) ∧ (∀ f, (Fr f).tmps[37]?.getD undef = f 3) ∧ (∀ f v, (Fr f).put (some 37) v = Fr (Gr.upd f 3 v)) ∧ (∀ f, (Fr f).tmps.getD 38 undef = f 4) ∧ (∀ f, (Fr f).tmps[38]?.getD undef = f 4) ∧ (∀ f v, (Fr f).put (some 38) v = Fr (Gr.upd f 4 v)) ∧ (∀ f, (Fr f).tmps.getD 39 undef = f 5) ∧ (∀ f, (Fr f).tmps[39]?.getD undef = f 5) ∧ (∀ f v, (Fr f).put (some 39) v = Fr (Gr.upd f 5 v)) ∧ (∀ f, (Fr f).tmps.getD 40 undef = f 6) ∧ (∀ f, (Fr f).tmps[40]?.getD undef = f 6) ∧ (∀ f v, (Fr f).put (some 40) v = Fr (Gr.upd f 6 v)) ∧ (∀ f, (Fr f).tmps.getD 41 undef = f 7) ∧ (∀ f, (Fr f).tmps[41]?.getD undef = f 7) ∧ (∀ f v, (Fr f).put (some 41) v = Fr (Gr.upd f 7 v)) ∧ (∀ f, (Fr f).tmps.getD 42 undef = f 8) ∧ (∀ f, (Fr f).tmps[42]?.getD undef = f 8) ∧ (∀ f v, (Fr f).put (some 42) v = Fr (Gr.upd f 8 v)) ∧ (∀ f, (Fr f).tmps.getD 43 undef = f 9) ∧ (∀ f, (Fr f).tmps[43]?.getD undef = f 9) ∧ (∀ f v, (Fr f).put (some 43) v = Fr (Gr.upd f 9 v)) ∧ (∀ f, (Fr f).tmps.getD 44 undef = f 10) ∧ (∀ f, (Fr f).tmps[44]?.getD undef = f 10) ∧ (∀ f v, (Fr f).put (some 44) v = Fr (Gr.upd f 10 v)) ∧ (∀ f, (Fr f).tmps.getD 45 undef = f 11) ∧ (∀ f, (Fr f).tmps[45]?.getD undef = f 11) ∧ (∀ f v, (Fr f).put (some 45) v = Fr (Gr.upd f 11 v)) ∧ (∀ f, (Fr f).tmps.getD 46 undef = f 12) ∧ (∀ f, (Fr f).tmps[46]?.getD undef = f 12) ∧ (∀ f v, (Fr f).put (some 46) v = Fr (Gr.upd f 12 v)) ∧ (∀ f, (Fr f).tmps.getD 47 undef = f 13) ∧ (∀ f, (Fr f).tmps[47]?.getD undef = f 13) ∧ (∀ f v, (Fr f).put (some 47) v = Fr (Gr.upd f 13 v)) ∧ (∀ f, (Fr f).tmps.getD 48 undef = f 14) ∧ (∀ f, (Fr f).tmps[48]?.getD undef = f 14) ∧ (∀ f v, (Fr f).put (some 48) v = Fr (Gr.upd f 14 v)) ∧ (∀ f, (Fr f).tmps.getD 49 undef = f 15) ∧ (∀ f, (Fr f).tmps[49]?.getD undef = f 15) ∧ (∀ f v, (Fr f).put (some 49) v = Fr (Gr.upd f 15 v)) ∧ (∀ f, (Fr f).tmps.getD 50 undef = f 16) ∧ (∀ f, (Fr f).tmps[50]?.getD undef = f 16) ∧ (∀ f v, (Fr f).put (some 50) v = Fr (Gr.upd f 16 v)) ∧ (∀ f, (Fr f).tmps.getD 2 undef = f 17) ∧ (∀ f, (Fr f).tmps[2]?.getD undef = f 17) ∧ (∀ f v, (Fr f).put (some 2) v = Fr (Gr.upd f 17 v)) ∧ (∀ f, (Fr f).tmps.getD 1 undef = .slice (some ⟨w.heap.size, 0, none⟩) 8 8) ∧ (∀ f, (Fr f).tmps[1]?.getD undef = .slice (some ⟨w.heap.size, 0, none⟩) 8 8) := ⟨fun f => { tmps := #[.bool false, .slice (some ⟨w.heap.size, 0, none⟩) 8 8, (f 17), undef, undef, undef, undef, undef, undef, undef, undef, undef, undef, undef, undef, undef, undef, undef, undef, undef, undef, undef, undef, undef, undef, undef, undef, undef, undef, undef, undef, undef, undef, .slice (some ⟨w.heap.size, 0, none⟩) 8 8, (f 0), (f 1), (f 2), (f 3), (f 4), (f 5), (f 6), (f 7), (f 8), (f 9), (f 10), (f 11), (f 12), (f 13), (f 14), (f 15), (f 16), undef, undef, undef, undef, undef, undef, undef, undef, undef, undef, undef, undef, undef, undef, undef, undef, undef, undef, undef, undef, undef, undef, undef, undef, undef, undef, undef, undef, undef, undef, undef, undef, undef, undef, undef, undef, undef, undef, undef, undef, undef, undef, undef, undef, undef, undef, undef, undef, undef, undef, undef, undef, undef, undef, undef, undef, undef, undef, undef, undef, undef, undef, undef, undef, undef, undef, undef, undef, undef, undef, undef, undef, undef, undef, undef, undef, undef, undef, undef, undef, undef, undef, undef, undef, undef, undef, undef, undef, undef, undef, undef, undef, undef, undef, undef, undef, undef, undef, undef, undef, undef, undef, undef, undef, undef, undef, undef, undef, undef, undef, undef, undef, undef, undef, undef, undef, undef, undef, undef, undef, undef, undef, undef, undef, undef, undef, undef, undef, undef, undef, undef, undef, undef, undef, undef, undef, undef, undef, undef, undef, undef, undef, undef, undef, undef, undef, undef, undef, undef, undef, undef, undef, undef, undef, undef, undef, undef, undef, undef, undef, undef, undef, undef, undef, undef, undef, undef, undef, undef, undef, undef, undef, undef, undef, undef, undef, undef, undef, undef, undef, undef, undef, undef, undef, undef, undef, undef, undef, undef, undef, undef, undef, undef, undef, undef, undef, undef, undef, undef, undef, undef, undef, undef, undef, undef, undef, undef, undef, undef, undef, undef, undef, undef, undef, undef, undef, undef, undef, undef, undef, undef, undef, undef, undef, undef], defers := [] }, fun _ => rfl, fun _ => rfl, fun _ => rfl, fun _ _ => rfl, fun _ => rfl, fun _ => rfl, fun _ _ => rfl, fun _ => rfl, fun _ => rfl, fun _ _ => rfl, fun _ => rfl, fun _ => rfl, fun _ _ => rfl, fun _ => rfl, fun _ => rfl, fun _ _ => rfl, fun _ => rfl, fun _ => rfl, fun _ _ => rfl, fun _ => rfl, fun _ => rfl, fun _ _ => rfl, fun _ => rfl, fun _ => rfl, fun _ _ => rfl, fun _ => rfl, fun _ => rfl, fun _ _ => rfl, fun _ => rfl, fun _ => rfl, fun _ _ => rfl, fun _ => rfl, fun _ => rfl, fun _ _ => rfl, fun _ => rfl, fun _ => rfl, fun _ _ => rfl, fun _ => rfl, fun _ => rfl, fun _ _ => rfl, fun _ => rfl, fun _ => rfl, fun _ _ => rfl, fun _ => rfl, fun _ => rfl, fun _ _ => rfl, fun _ => rfl, fun _ => rfl, fun _ _ => rfl, fun _ => rfl, fun _ => rfl, fun _ _ => rfl, fun _ => rfl, fun _ => rfl, fun _ _ => rfl, fun _ => rfl, fun _ => rfl⟩
  suffices hS : Code.wp Try.prog _ _ (Fr (fun i => [undef, undef, undef, undef, undef, undef, undef, undef, undef, undef, undef, undef, undef, undef, undef, undef, undef, undef].getD i undef)) WW by
   rw [hFr] at hS
   exact hS
  refine Gr.list_grow 18 rfl (fun w' => u8C w' (some ⟨w.heap.size, 0, none⟩) 8 [0, 0, 0, 0, 0, 0, 0, 0] ∧ Below WW.heap.size WW w') (fun _ _ h hb => ⟨Kd.C_below h.1 hb, below_then h.2 h.2.size hb⟩) (fun i => Kn.ok (([.S [0], .S [0, 255], .S [2, 1], .S [128, 0], .S [1], .S [2], .S [0, 0, 0, 0, 0, 0, 0, 0], .S [2, 0, 0, 0, 0, 0, 0, 0, 0], .S [130, 0], .S [1, 0, 0, 0, 0, 0, 0, 0], .S [130, 0, 1, 0, 0, 0, 0, 0, 0, 0], .S [131, 64], .S [129, 64], .S [3, 0, 0, 0, 0, 0, 0, 0, 128], .S [128], .S [128, 128, 128, 128, 128, 128, 1], .G 13, .G 13] : List Kn).getD i (.G 0))) (fun i _ _ _ h hb => Kn.ok_below h hb) Fr ?step ?fin (fun i => [undef, undef, undef, undef, undef, undef, undef, undef, undef, undef, undef, undef, undef, undef, undef, undef, undef, undef].getD i undef) WW ⟨H8.out, Below.refl _ _⟩
  case step =>
   clear hFr
   intro i hi f w' K' hJ hn hK
   match i, hi with
   | 0, _ => exact wpOp_step rfl (fun K2 hK2 => value_ (v := .slice (some ⟨w'.heap.size, 0, none⟩) 1 1) (w1 := w'.alloc (.cells #[.int .u8 0] 5)) rfl rfl (by go_simp) (by have h := hK2 _ _ (hK _ _ ⟨_, _, _, rfl, rfl, Nat.le_refl _, litB w' [0] #[.int .u8 0] rfl (by decide)⟩ ((Below.refl _ _).alloc (Nat.le_refl _) _)); rw [← p0_] at h; exact h))
   | 1, _ => exact wpOp_step rfl (fun K2 hK2 => value_ (v := .slice (some ⟨w'.heap.size, 0, none⟩) 2 2) (w1 := w'.alloc (.cells #[.int .u8 0, .int .u8 255] 5)) rfl rfl (by go_simp) (by have h := hK2 _ _ (hK _ _ ⟨_, _, _, rfl, rfl, Nat.le_refl _, litB w' [0, 255] #[.int .u8 0, .int .u8 255] rfl (by decide)⟩ ((Below.refl _ _).alloc (Nat.le_refl _) _)); rw [← p1_] at h; exact h))
   | 2, _ => exact wpOp_step rfl (fun K2 hK2 => value_ (v := .slice (some ⟨w'.heap.size, 0, none⟩) 2 2) (w1 := w'.alloc (.cells #[.int .u8 2, .int .u8 1] 5)) rfl rfl (by go_simp) (by have h := hK2 _ _ (hK _ _ ⟨_, _, _, rfl, rfl, Nat.le_refl _, litB w' [2, 1] #[.int .u8 2, .int .u8 1] rfl (by decide)⟩ ((Below.refl _ _).alloc (Nat.le_refl _) _)); rw [← p2_] at h; exact h))
   | 3, _ => exact wpOp_step rfl (fun K2 hK2 => value_ (v := .slice (some ⟨w'.heap.size, 0, none⟩) 2 2) (w1 := w'.alloc (.cells #[.int .u8 128, .int .u8 0] 5)) rfl rfl (by go_simp) (by have h := hK2 _ _ (hK _ _ ⟨_, _, _, rfl, rfl, Nat.le_refl _, litB w' [128, 0] #[.int .u8 128, .int .u8 0] rfl (by decide)⟩ ((Below.refl _ _).alloc (Nat.le_refl _) _)); rw [← p3_] at h; exact h))
   | 4, _ => exact wpOp_step rfl (fun K2 hK2 => value_ (v := .slice (some ⟨w'.heap.size, 0, none⟩) 1 1) (w1 := w'.alloc (.cells #[.int .u8 1] 5)) rfl rfl (by go_simp) (by have h := hK2 _ _ (hK _ _ ⟨_, _, _, rfl, rfl, Nat.le_refl _, litB w' [1] #[.int .u8 1] rfl (by decide)⟩ ((Below.refl _ _).alloc (Nat.le_refl _) _)); rw [← p4_] at h; exact h))
   | 5, _ => exact wpOp_step rfl (fun K2 hK2 => value_ (v := .slice (some ⟨w'.heap.size, 0, none⟩) 1 1) (w1 := w'.alloc (.cells #[.int .u8 2] 5)) rfl rfl (by go_simp) (by have h := hK2 _ _ (hK _ _ ⟨_, _, _, rfl, rfl, Nat.le_refl _, litB w' [2] #[.int .u8 2] rfl (by decide)⟩ ((Below.refl _ _).alloc (Nat.le_refl _) _)); rw [← p5_] at h; exact h))
   | 6, _ => exact wpOp_step rfl (fun K2 hK2 => value_ (v := .slice (some ⟨w.heap.size, 0, none⟩) 8 8) (w1 := w') rfl rfl (by unfold execOp; simp [Act.eval, go_sem, c1_, d1_]) (by have h := hK2 _ _ (hK _ _ ⟨_, _, _, rfl, rfl, Nat.le_refl _, hJ.1⟩ (Below.refl _ _)); rw [← p6_] at h; exact h))
   | 7, _ =>
    obtain ⟨A, n, c, e0, hl, hc, hr⟩ : Kn.ok (.S [2]) w' (f 5) := hn 5 (by decide)
    obtain ⟨B, k, d, e1, hm, hd, hq⟩ : Kn.ok (.S [0, 0, 0, 0, 0, 0, 0, 0]) w' (f 6) := hn 6 (by decide)
    refine wpOp_step rfl (fun K2 hK2 => call_ 34 #[.slice A n c, .slice B k d] rfl rfl (by have he := enters_ Try.func34 (by kernel_rfl) rfl #[.slice A n c, .slice B k d] w'; unfold execOp; simp [resolve, Deferred.ofValue, invoke, Act.eval, he, e0, e1, r5_, q5_, r6_, q6_]) ((tail_n A B n k 9 c d [2] [0, 0, 0, 0, 0, 0, 0, 0] hl hm rfl hc hd (by decide) w' (by rw [← hl]; exact hr) (by rw [← hm]; exact hq)).mono fun e w2 ho => ?_))
    obtain ⟨A', c', rfl, hR, hb⟩ := ho
    exact ⟨_, rfl, by have h := hK2 _ _ (hK _ _ ⟨A', _, c', rfl, rfl, hR.out.1, hR.out.2⟩ hb.out); rw [← p7_] at h; exact h⟩
   | 8, _ => exact wpOp_step rfl (fun K2 hK2 => value_ (v := .slice (some ⟨w'.heap.size, 0, none⟩) 2 2) (w1 := w'.alloc (.cells #[.int .u8 130, .int .u8 0] 5)) rfl rfl (by go_simp) (by have h := hK2 _ _ (hK _ _ ⟨_, _, _, rfl, rfl, Nat.le_refl _, litB w' [130, 0] #[.int .u8 130, .int .u8 0] rfl (by decide)⟩ ((Below.refl _ _).alloc (Nat.le_refl _) _)); rw [← p8_] at h; exact h))
   | 9, _ => exact wpOp_step rfl (fun K2 hK2 => value_ (v := .slice (some ⟨w'.heap.size, 0, none⟩) 8 8) (w1 := w'.alloc (.cells #[.int .u8 1, .int .u8 0, .int .u8 0, .int .u8 0, .int .u8 0, .int .u8 0, .int .u8 0, .int .u8 0] 5)) rfl rfl (by go_simp) (by have h := hK2 _ _ (hK _ _ ⟨_, _, _, rfl, rfl, Nat.le_refl _, litB w' [1, 0, 0, 0, 0, 0, 0, 0] #[.int .u8 1, .int .u8 0, .int .u8 0, .int .u8 0, .int .u8 0, .int .u8 0, .int .u8 0, .int .u8 0] rfl (by decide)⟩ ((Below.refl _ _).alloc (Nat.le_refl _) _)); rw [← p9_] at h; exact h))
   | 10, _ =>
    obtain ⟨A, n, c, e0, hl, hc, hr⟩ : Kn.ok (.S [130, 0]) w' (f 8) := hn 8 (by decide)
    obtain ⟨B, k, d, e1, hm, hd, hq⟩ : Kn.ok (.S [1, 0, 0, 0, 0, 0, 0, 0]) w' (f 9) := hn 9 (by decide)
    refine wpOp_step rfl (fun K2 hK2 => call_ 34 #[.slice A n c, .slice B k d] rfl rfl (by have he := enters_ Try.func34 (by kernel_rfl) rfl #[.slice A n c, .slice B k d] w'; unfold execOp; simp [resolve, Deferred.ofValue, invoke, Act.eval, he, e0, e1, r8_, q8_, r9_, q9_]) ((tail_n A B n k 10 c d [130, 0] [1, 0, 0, 0, 0, 0, 0, 0] hl hm rfl hc hd (by decide) w' (by rw [← hl]; exact hr) (by rw [← hm]; exact hq)).mono fun e w2 ho => ?_))
    obtain ⟨A', c', rfl, hR, hb⟩ := ho
    exact ⟨_, rfl, by have h := hK2 _ _ (hK _ _ ⟨A', _, c', rfl, rfl, hR.out.1, hR.out.2⟩ hb.out); rw [← p10_] at h; exact h⟩
   | 11, _ => exact wpOp_step rfl (fun K2 hK2 => value_ (v := .slice (some ⟨w'.heap.size, 0, none⟩) 2 2) (w1 := w'.alloc (.cells #[.int .u8 131, .int .u8 64] 5)) rfl rfl (by go_simp) (by have h := hK2 _ _ (hK _ _ ⟨_, _, _, rfl, rfl, Nat.le_refl _, litB w' [131, 64] #[.int .u8 131, .int .u8 64] rfl (by decide)⟩ ((Below.refl _ _).alloc (Nat.le_refl _) _)); rw [← p11_] at h; exact h))
   | 12, _ => exact wpOp_step rfl (fun K2 hK2 => value_ (v := .slice (some ⟨w'.heap.size, 0, none⟩) 2 2) (w1 := w'.alloc (.cells #[.int .u8 129, .int .u8 64] 5)) rfl rfl (by go_simp) (by have h := hK2 _ _ (hK _ _ ⟨_, _, _, rfl, rfl, Nat.le_refl _, litB w' [129, 64] #[.int .u8 129, .int .u8 64] rfl (by decide)⟩ ((Below.refl _ _).alloc (Nat.le_refl _) _)); rw [← p12_] at h; exact h))
   | 13, _ => exact wpOp_step rfl (fun K2 hK2 => value_ (v := .slice (some ⟨w'.heap.size, 0, none⟩) 9 9) (w1 := w'.alloc (.cells #[.int .u8 3, .int .u8 0, .int .u8 0, .int .u8 0, .int .u8 0, .int .u8 0, .int .u8 0, .int .u8 0, .int .u8 128] 5)) rfl rfl (by go_simp) (by have h := hK2 _ _ (hK _ _ ⟨_, _, _, rfl, rfl, Nat.le_refl _, litB w' [3, 0, 0, 0, 0, 0, 0, 0, 128] #[.int .u8 3, .int .u8 0, .int .u8 0, .int .u8 0, .int .u8 0, .int .u8 0, .int .u8 0, .int .u8 0, .int .u8 128] rfl (by decide)⟩ ((Below.refl _ _).alloc (Nat.le_refl _) _)); rw [← p13_] at h; exact h))
   | 14, _ => exact wpOp_step rfl (fun K2 hK2 => value_ (v := .slice (some ⟨w'.heap.size, 0, none⟩) 1 1) (w1 := w'.alloc (.cells #[.int .u8 128] 5)) rfl rfl (by go_simp) (by have h := hK2 _ _ (hK _ _ ⟨_, _, _, rfl, rfl, Nat.le_refl _, litB w' [128] #[.int .u8 128] rfl (by decide)⟩ ((Below.refl _ _).alloc (Nat.le_refl _) _)); rw [← p14_] at h; exact h))
   | 15, _ => exact wpOp_step rfl (fun K2 hK2 => value_ (v := .slice (some ⟨w'.heap.size, 0, none⟩) 7 7) (w1 := w'.alloc (.cells #[.int .u8 128, .int .u8 128, .int .u8 128, .int .u8 128, .int .u8 128, .int .u8 128, .int .u8 1] 5)) rfl rfl (by go_simp) (by have h := hK2 _ _ (hK _ _ ⟨_, _, _, rfl, rfl, Nat.le_refl _, litB w' [128, 128, 128, 128, 128, 128, 1] #[.int .u8 128, .int .u8 128, .int .u8 128, .int .u8 128, .int .u8 128, .int .u8 128, .int .u8 1] rfl (by decide)⟩ ((Below.refl _ _).alloc (Nat.le_refl _) _)); rw [← p15_] at h; exact h))
   | 16, _ =>
    obtain ⟨A1, n1, c1, q1, hl1, hc1, hr1⟩ : Kn.ok (.S [0]) w' (f 0) := hn 0 (by decide)
    obtain ⟨A2, n2, c2, q2, hl2, hc2, hr2⟩ : Kn.ok (.S [0, 255]) w' (f 1) := hn 1 (by decide)
    obtain ⟨A3, n3, c3, q3, hl3, hc3, hr3⟩ : Kn.ok (.S [2, 1]) w' (f 2) := hn 2 (by decide)
    obtain ⟨A4, n4, c4, q4, hl4, hc4, hr4⟩ : Kn.ok (.S [128, 0]) w' (f 3) := hn 3 (by decide)
    obtain ⟨A5, n5, c5, q5, hl5, hc5, hr5⟩ : Kn.ok (.S [1]) w' (f 4) := hn 4 (by decide)
    obtain ⟨A6, n6, c6, q6, hl6, hc6, hr6⟩ : Kn.ok (.S [2, 0, 0, 0, 0, 0, 0, 0, 0]) w' (f 7) := hn 7 (by decide)
    obtain ⟨A7, n7, c7, q7, hl7, hc7, hr7⟩ : Kn.ok (.S [130, 0, 1, 0, 0, 0, 0, 0, 0, 0]) w' (f 10) := hn 10 (by decide)
    obtain ⟨A8, n8, c8, q8, hl8, hc8, hr8⟩ : Kn.ok (.S [131, 64]) w' (f 11) := hn 11 (by decide)
    obtain ⟨A9, n9, c9, q9, hl9, hc9, hr9⟩ : Kn.ok (.S [129, 64]) w' (f 12) := hn 12 (by decide)
    obtain ⟨A10, n10, c10, q10, hl10, hc10, hr10⟩ : Kn.ok (.S [3, 0, 0, 0, 0, 0, 0, 0, 128]) w' (f 13) := hn 13 (by decide)
    obtain ⟨A11, n11, c11, q11, hl11, hc11, hr11⟩ : Kn.ok (.S [128]) w' (f 14) := hn 14 (by decide)
    obtain ⟨A12, n12, c12, q12, hl12, hc12, hr12⟩ : Kn.ok (.S [128, 128, 128, 128, 128, 128, 1]) w' (f 15) := hn 15 (by decide)
    have hb := (Below.refl w'.heap.size w').alloc (Nat.le_refl _) (.cells #[.slice none 0 0, .slice A1 n1 c1, .slice A2 n2 c2, .slice A3 n3 c3, .slice A4 n4 c4, .slice A5 n5 c5, .slice A6 n6 c6, .slice A7 n7 c7, .slice A8 n8 c8, .slice A9 n9 c9, .slice A10 n10 c10, .slice A11 n11 c11, .slice A12 n12 c12] 25)
    have hkk := heap_alloc_new w' (.cells #[.slice none 0 0, .slice A1 n1 c1, .slice A2 n2 c2, .slice A3 n3 c3, .slice A4 n4 c4, .slice A5 n5 c5, .slice A6 n6 c6, .slice A7 n7 c7, .slice A8 n8 c8, .slice A9 n9 c9, .slice A10 n10 c10, .slice A11 n11 c11, .slice A12 n12 c12] 25)
    exact wpOp_step rfl (fun K2 hK2 => value_ (v := .slice (some ⟨w'.heap.size, 0, none⟩) 13 13) (w1 := w'.alloc (.cells #[.slice none 0 0, .slice A1 n1 c1, .slice A2 n2 c2, .slice A3 n3 c3, .slice A4 n4 c4, .slice A5 n5 c5, .slice A6 n6 c6, .slice A7 n7 c7, .slice A8 n8 c8, .slice A9 n9 c9, .slice A10 n10 c10, .slice A11 n11 c11, .slice A12 n12 c12] 25)) rfl rfl (by unfold execOp; simp [Act.eval, go_sem, q1, r0_, q0_, q2, r1_, q1_, q3, r2_, q2_, q4, r3_, q3_, q5, r4_, q4_, q6, r7_, q7_, q7, r10_, q10_, q8, r11_, q11_, q9, r12_, q12_, q10, r13_, q13_, q11, r14_, q14_, q12, r15_, q15_]) (by
     have h := hK2 _ _ (hK (.slice (some ⟨w'.heap.size, 0, none⟩) 13 13) _ ⟨w'.heap.size, rfl, fun j hj => by
     match j, hj with
     | 0, _ => exact ⟨none, 0, 0, [], cell_of hkk rfl, rfl, Nat.le_refl _, empty_row _ _ _, (fun x hx => nomatch hx), (by decide)⟩
     | 1, _ => exact ⟨A1, n1, c1, [0], cell_of hkk rfl, hl1, hc1, Kd.C_below hr1 hb, (by decide), (by decide)⟩
     | 2, _ => exact ⟨A2, n2, c2, [0, 255], cell_of hkk rfl, hl2, hc2, Kd.C_below hr2 hb, (by decide), (by decide)⟩
     | 3, _ => exact ⟨A3, n3, c3, [2, 1], cell_of hkk rfl, hl3, hc3, Kd.C_below hr3 hb, (by decide), (by decide)⟩
     | 4, _ => exact ⟨A4, n4, c4, [128, 0], cell_of hkk rfl, hl4, hc4, Kd.C_below hr4 hb, (by decide), (by decide)⟩
     | 5, _ => exact ⟨A5, n5, c5, [1], cell_of hkk rfl, hl5, hc5, Kd.C_below hr5 hb, (by decide), (by decide)⟩
     | 6, _ => exact ⟨A6, n6, c6, [2, 0, 0, 0, 0, 0, 0, 0, 0], cell_of hkk rfl, hl6, hc6, Kd.C_below hr6 hb, (by decide), (by decide)⟩
     | 7, _ => exact ⟨A7, n7, c7, [130, 0, 1, 0, 0, 0, 0, 0, 0, 0], cell_of hkk rfl, hl7, hc7, Kd.C_below hr7 hb, (by decide), (by decide)⟩
     | 8, _ => exact ⟨A8, n8, c8, [131, 64], cell_of hkk rfl, hl8, hc8, Kd.C_below hr8 hb, (by decide), (by decide)⟩
     | 9, _ => exact ⟨A9, n9, c9, [129, 64], cell_of hkk rfl, hl9, hc9, Kd.C_below hr9 hb, (by decide), (by decide)⟩
     | 10, _ => exact ⟨A10, n10, c10, [3, 0, 0, 0, 0, 0, 0, 0, 128], cell_of hkk rfl, hl10, hc10, Kd.C_below hr10 hb, (by decide), (by decide)⟩
     | 11, _ => exact ⟨A11, n11, c11, [128], cell_of hkk rfl, hl11, hc11, Kd.C_below hr11 hb, (by decide), (by decide)⟩
     | 12, _ => exact ⟨A12, n12, c12, [128, 128, 128, 128, 128, 128, 1], cell_of hkk rfl, hl12, hc12, Kd.C_below hr12 hb, (by decide), (by decide)⟩
     | j + 13, h => exact absurd h (by omega)⟩ hb)
     rw [← p16_] at h
     exact h))
   | 17, _ =>
    obtain ⟨g, e, hg⟩ : Kn.ok (.G 13) w' (f 16) := hn 16 (by decide)
    exact wpOp_step rfl (fun K2 hK2 => value_ (v := .slice (some ⟨g, 0, none⟩) 13 13) (w1 := w') rfl rfl (by unfold execOp; simp [Act.eval, e, go_sem, r16_, q16_]) (by have h := hK2 _ _ (hK _ _ ⟨g, rfl, hg⟩ (Below.refl _ _)); rw [← p17_] at h; exact h))
   | n + 18, h => exact absurd h (by omega)
  case fin =>
   intro f w' hJ hn
   obtain ⟨g, e0, hg⟩ : Kn.ok (.G 13) w' (f 17) := hn 17 (by decide)
   have hb := hJ.2
   clear hn
   rw [hFr]
   go_wp2_with fail
   go_meet
   exact ⟨g, by first | rfl | exact e0, ⟨hg⟩, ⟨hb⟩⟩
 case rest =>
  obtain ⟨gt, rfl, HEL, bc⟩ := hcut
  rename World => wy
  replace HB := Aside0.mk (below_then HB.out HB.out.size bc.out)
  clear bc H8
  go_wp2
  go_loopw [3] (fun v1 wr => ∃ j : Nat, v1 = .int .i64 j ∧ j ≤ 13 ∧ Aside0 (Below wy.heap.size wy wr)) (fun v1 _ => 13 - (intOf v1).toNat)
  case atStart => exact ⟨0, rfl, by decide, ⟨Below.refl _ _⟩⟩
  case round =>
   obtain ⟨j, rfl, hj, HBR⟩ := hrel
   by_cases hlt : j < 13
   ·obtain ⟨A, n, c, l, h0, h1, h2, h3, h4, h5⟩ := (HEL.out j hlt).below HBR.out
    have hj1 : (j : Int) < 13 := by omega
    have H1 := Aside0.mk h1
    have H2 := Aside0.mk h2
    have H3 := Aside0.mk h3
    have H4 := Aside0.mk h4
    have H5 := Aside0.mk h5
    clear h1 h2 h3 h4 h5
    go_wp2_with fail
    refine (puts_t A n c l H1.out H2.out H4.out H5.out _ H3.out).mono ?_
    rintro e w1_ ⟨rfl, bq⟩
    have HB1 : Aside0 (Below wy.heap.size wy w1_) := ⟨below_then HBR.out HBR.out.size bq.out⟩
    clear bq
    go_wp2
    go_roundw
    case rel => exact ⟨j + 1, by go_num, by omega, HB1⟩
    case measure => simp [intOf]; omega
   ·obtain rfl : j = 13 := by omega
    clear hlt hj HEL
    replace HB := Aside0.mk (below_then HB.out HB.out.size HBR.out)
    clear HBR
    have hmkN : ∀ w' : World, (Instr.makeSlice 22 (.int .i64 4096) (.int .i64 4096)).run Try.prog w' = .ok (.slice (some ⟨w'.heap.size, 0, none⟩) N N) (w'.alloc (.cells (madeCells #[.int .u64 0] N) 58)) := fun w' => by
     have := print_make (P := Try.prog) 22 58 .u64 8 hus (by kernel_rfl) (by decide) N (by have := HN.out; omega) w'
     rwa [show ((N : Nat) : Int) = 4096 by have := HN.out; omega] at this
    go_upto_region 9 with fail
    clear hmkN
    have hNi : (4095 : Int) < (N : Int) := by have := HN.out; omega
    have p0 : ((wr.alloc (.cells (madeCells #[.int .u64 0] N) 58)).alloc (.cells #[.bool true, .slice (some ⟨wr.heap.size, 0, none⟩) N N] 24)).cell? ⟨wr.heap.size, 4095, none⟩ = some (.int .u64 0) := ((Bk.new wr (madeCells #[.int .u64 0] N) 58).alloc _).cell (made1_at _ N 4095 (by have := HN.out; omega))
    have p1 : ((wr.alloc (.cells (madeCells #[.int .u64 0] N) 58)).alloc (.cells #[.bool true, .slice (some ⟨wr.heap.size, 0, none⟩) N N] 24)).frozen? ⟨wr.heap.size, 4095, none⟩ = false := ((Bk.new wr (madeCells #[.int .u64 0] N) 58).alloc _).frozen _
    go_wp2_with fail
    refine (put_n true _ N _ (fullL K) P 32770 0 HPF.out (by rw [fullL_len]; have := HN.out; have := HK.out; omega) HPL.out (Nat.le_refl _) (fullL_ok K) (by have := HN.out; omega) _ (full_C K N HK.out HN.out wr _)).mono ?_
    rintro e y1 ⟨A1, c1, rfl, R1, b1⟩
    have HFU : Aside0 (u64C y1 (some ⟨wr.heap.size, 0, none⟩) N (fullL K)) := ⟨Kd.C_below (full_C K N HK.out HN.out wr _) b1.out⟩
    have HFB : Aside0 (Bk y1 (wr.heap.size + 1) #[.bool true, .slice (some ⟨wr.heap.size, 0, none⟩) N N] 24) := ⟨by
     have h0 := Bk.new (wr.alloc (.cells ((madeCells #[.int .u64 0] N).setIfInBounds 4095 (.int .u64 9223372036854775808)) 58)) #[.bool true, .slice (some ⟨wr.heap.size, 0, none⟩) N N] 24
     rw [show (wr.alloc (.cells ((madeCells #[.int .u64 0] N).setIfInBounds 4095 (.int .u64 9223372036854775808)) 58)).heap.size = wr.heap.size + 1 from by simp] at h0
     exact h0.below b1.out⟩
    replace HB := Aside0.mk (below_then ((HB.out.alloc HB.out.size _).alloc (HB.out.alloc HB.out.size _).size _) ((HB.out.alloc HB.out.size _).alloc (HB.out.alloc HB.out.size _).size _).size b1.out)
    clear b1 p0 p1 hNi
    have hlF : (fullL K).length = N := by rw [fullL_len]; have := HN.out; have := HK.out; omega
    have HLF := Aside0.mk hlF
    clear hlF
    obtain ⟨ad, rfl, hx⟩ := byte_at R1.out.2 HP0.out
    clear hx
    have hz0 : ad.add 0 = ad := by simp [Addr.add]
    have hc1 : (32769 : Int) ≤ (c1 : Int) := by have := R1.out.1; omega
    have hc2 : 32769 ≤ c1 := by have := R1.out.1; omega
    go_wp2_with fail
    refine (tail_n (some ad) _ 32770 1 32771 c1 1 P [7] HPL.out rfl (by rw [List.length_append, HPL.out]; rfl) R1.out.1 (Nat.le_refl _) (by decide) _ (Kd.C_alloc R1.out.2 _) (row_block (heap_alloc_new y1 _) rfl rfl (by decide))).mono ?_
    rintro e y2 ⟨A2, c2, rfl, R2, b2⟩
    replace HFU := Aside0.mk (Kd.C_below (Kd.C_alloc HFU.out _) b2.out)
    replace HFB := Aside0.mk ((HFB.out.alloc _).below b2.out)
    replace R1 := Aside0.mk (And.intro R1.out.1 (Kd.C_below (Kd.C_alloc R1.out.2 _) b2.out))
    replace HB := Aside0.mk (below_then (HB.out.alloc HB.out.size _) (HB.out.alloc HB.out.size _).size b2.out)
    clear b2
    go_wp2_with fail
    refine (get_n A2 32771 c2 (P ++ [7]) true (fullL K) N 32770 0 HGF.out (by rw [List.length_append, HPL.out]; rfl) HLF.out R2.out.1 (okB_app HPB.out (by decide)) (by decide) _ R2.out.2).mono ?_
    rintro e y3 ⟨A3, c3, rfl, R3, b3⟩
    clear R2
    replace HFU := Aside0.mk (Kd.C_below HFU.out b3.out)
    replace HFB := Aside0.mk (HFB.out.below b3.out)
    replace R1 := Aside0.mk (And.intro R1.out.1 (Kd.C_below R1.out.2 b3.out))
    replace HB := Aside0.mk (below_then HB.out HB.out.size b3.out)
    clear b3
    go_wp2_with fail
    have hR1t : u8C y3 (some ad) 32769 (P.take 32769) := by
     have h := R1.out.2
     rw [← HPL.out] at h
     exact take_row h 32769 (by rw [HPL.out]; decide)
    have HR1t := Aside0.mk hR1t
    clear hR1t
    refine (get_n (some ad) 32769 c1 (P.take 32769) false [] 0 0 400 HGS.out (by rw [List.length_take, HPL.out]; rfl) rfl hc2 (okB_take HPB.out _) (by decide) _ (Kd.C_alloc HR1t.out _)).mono ?_
    rintro e y4 ⟨A4, c4, rfl, R4, b4⟩
    have HX : Aside0 (Bk y4 y3.heap.size #[.bool true, .slice A3 N c3] 24) := ⟨(Bk.new y3 _ _).below b4.out⟩
    clear HR1t R4
    replace HFU := Aside0.mk (Kd.C_below (Kd.C_alloc HFU.out _) b4.out)
    replace HFB := Aside0.mk ((HFB.out.alloc _).below b4.out)
    replace R1 := Aside0.mk (And.intro R1.out.1 (Kd.C_below (Kd.C_alloc R1.out.2 _) b4.out))
    replace R3 := Aside0.mk (And.intro R3.out.1 (Kd.C_below (Kd.C_alloc R3.out.2 _) b4.out))
    replace HB := Aside0.mk (below_then (HB.out.alloc HB.out.size _) (HB.out.alloc HB.out.size _).size b4.out)
    clear b4 hc1 hc2
    have hmkM : ∀ w' : World, (Instr.makeSlice 22 (.int .i64 4097) (.int .i64 4097)).run Try.prog w' = .ok (.slice (some ⟨w'.heap.size, 0, none⟩) M M) (w'.alloc (.cells (madeCells #[.int .u64 0] M) 58)) := fun w' => by
     have := print_make (P := Try.prog) 22 58 .u64 8 hus (by kernel_rfl) (by decide) M (by have := HM.out; omega) w'
     rwa [show ((M : Nat) : Int) = 4097 by have := HM.out; omega] at this
    go_wp2_with fail
    clear hmkM
    have HZM : Aside0 (u64C ((y4.alloc (.cells #[.bool false, .slice A4 0 c4] 24)).alloc (.cells (madeCells #[.int .u64 0] M) 58)) (some ⟨y4.heap.size + 1, 0, none⟩) M (List.replicate M 0)) := ⟨by
     have h := zero_row (y4.alloc (.cells #[.bool false, .slice A4 0 c4] 24)) M 58 .u64 (by have := HM.out; omega)
     rwa [show (y4.alloc (.cells #[.bool false, .slice A4 0 c4] 24)).heap.size = y4.heap.size + 1 from by simp] at h⟩
    refine (put_n false _ M M (List.replicate M 0) [] 0 2 (put_long M HM.out) List.length_replicate rfl (Nat.le_refl _) (zeros_ok M) (by have := HM.out; omega) _ HZM.out).mono ?_
    rintro e y5 ⟨A5, c5, rfl, R5, b5⟩
    clear HZM R5
    replace HFU := Aside0.mk (Kd.C_below (Kd.C_alloc (Kd.C_alloc HFU.out _) _) b5.out)
    replace HFB := Aside0.mk (((HFB.out.alloc _).alloc _).below b5.out)
    replace R1 := Aside0.mk (And.intro R1.out.1 (Kd.C_below (Kd.C_alloc (Kd.C_alloc R1.out.2 _) _) b5.out))
    replace R3 := Aside0.mk (And.intro R3.out.1 (Kd.C_below (Kd.C_alloc (Kd.C_alloc R3.out.2 _) _) b5.out))
    replace HX := Aside0.mk (((HX.out.alloc _).alloc _).below b5.out)
    replace HB := Aside0.mk (below_then ((HB.out.alloc HB.out.size _).alloc (HB.out.alloc HB.out.size _).size _) ((HB.out.alloc HB.out.size _).alloc (HB.out.alloc HB.out.size _).size _).size b5.out)
    clear b5
    obtain ⟨x0, x1, x2, x3, x4⟩ := two_of HX.out
    obtain ⟨f0, f1, f2, f3, f4⟩ := two_of HFB.out
    obtain ⟨ad', e', hb0⟩ := byte_at R1.out.2 HP0.out
    obtain rfl := Option.some.inj e'
    obtain ⟨ad', e', hb1⟩ := byte_at R1.out.2 HP1.out
    obtain rfl := Option.some.inj e'
    rw [hz0] at hb0
    have hb2 : y5.cell? ⟨ad.block, ad.off + 1, none⟩ = some (.int .u8 64) := by simpa [Addr.add] using hb1
    clear hb1
    go_wp2_with fail
    refine (sameInt_n true A3 _ N c3 N (fullL K) 32770 0 HLF.out R3.out.1 (Nat.le_refl _) (by have := HN.out; omega) _ R3.out.2 HFU.out).mono ?_
    rintro e y6 ⟨rfl, b6⟩
    clear HFU
    clear HFB
    clear R1
    clear R3
    clear HX
    replace HB := Aside0.mk (below_then HB.out HB.out.size b6.out)
    clear b6 x0 x1 x2 x3 x4 f0 f1 f2 f3 f4 hb0 hb2 hz0 HLF
    generalize wr.heap.size = gf0
    go_upto_region 16 with fail
    go_cut [15] (fun y1 wx => ∃ g, y1 = .slice (some ⟨g, 0, none⟩) 18 18 ∧ Aside0 (∀ j, j < 18 → Eb wx g j) ∧ Aside0 (Below y6.heap.size y6 wx))
    case first =>
     obtain ⟨Fr, hFr, r0_, q0_, p0_, r1_, q1_, p1_, r2_, q2_, p2_, r3_, q3_, p3_, r4_, q4_, p4_, r5_, q5_, p5_, r6_, q6_, p6_, r7_, q7_, p7_, r8_, q8_, p8_, r9_, q9_, p9_, r10_, q10_, p10_, r11_, q11_, p11_, r12_, q12_, p12_, r13_, q13_, p13_, r14_, q14_, p14_, r15_, q15_, p15_, r16_, q16_, p16_, r17_, q17_, p17_, r18_, q18_, p18_⟩ : ∃ Fr : (Nat → Value) → Act, (∀ f, Fr f = { tmps := #[u0, Value.slice (some { block := w.heap.size, off := 0 }) 8 8, Value.slice (some { block := gt, off := 0 }) 13 13, Value.int IntKind.i64 13, Value.pointer (some { block := gf0 + 1, off := 0 }), Value.slice (some ad) 32770 c1, Value.int IntKind.i64 0, Value.pointer (some { block := y3.heap.size, off := 0 }), Value.int IntKind.i64 32770, Value.int IntKind.i64 0, Value.pointer (some { block := y4.heap.size, off := 0 }), Value.int IntKind.i64 0, Value.int IntKind.i64 400, Value.slice A5 0 c5, Value.int IntKind.i64 2, (f 18), undef, undef, undef, undef, undef, undef, undef, undef, undef, undef, undef, undef, undef, undef, undef, undef, undef, u33, u34, u35, u36, u37, u38, u39, u40, u41, u42, u43, u44, u45, u46, u47, u48, u49, u50, Value.int IntKind.i64 13, Value.slice (some { block := gt, off := 0 }) 13 13, Value.int IntKind.i64 13, Value.bool false, u55, u56, u57, u58, u59, u60, u61, u62, u63, Value.slice (some { block := gf0, off := 0 }) N N, Value.agg #[Value.bool true, Value.slice (some { block := gf0, off := 0 }) N N], Value.pointer (some { block := gf0 + 1, off := 1 }), Value.slice (some { block := gf0, off := 0 }) N N, Value.pointer (some { block := gf0, off := 4095 }), Value.tuple #[Value.slice (some ad) 32770 c1, Value.int IntKind.i64 0], Value.agg #[Value.bool true, Value.slice (some { block := gf0, off := 0 }) N N], Value.tuple #[Value.slice (some ad) 32770 c1, Value.int IntKind.i64 0], Value.slice (some ad) 32770 c1, Value.int IntKind.i64 0, Value.tuple #[Value.agg #[Value.bool true, Value.slice A3 N c3], Value.int IntKind.i64 32770, Value.int IntKind.i64 0], Value.slice (some ad) 32770 c1, Value.slice (some { block := y1.heap.size, off := 0 }) 1 1, Value.slice A2 32771 c2, Value.tuple #[Value.agg #[Value.bool true, Value.slice A3 N c3], Value.int IntKind.i64 32770, Value.int IntKind.i64 0], Value.agg #[Value.bool true, Value.slice A3 N c3], Value.int IntKind.i64 32770, Value.int IntKind.i64 0, Value.tuple #[Value.agg #[Value.bool false, Value.slice A4 0 c4], Value.int IntKind.i64 0, Value.int IntKind.i64 400], Value.slice (some ad) 32770 c1, Value.slice (some ad) 32770 c1, Value.int IntKind.i64 32770, Value.int IntKind.i64 32769, Value.slice (some ad) 32769 c1, Value.tuple #[Value.agg #[Value.bool false, Value.slice A4 0 c4], Value.int IntKind.i64 0, Value.int IntKind.i64 400], Value.agg #[Value.bool false, Value.slice A4 0 c4], Value.int IntKind.i64 0, Value.int IntKind.i64 400, Value.tuple #[Value.slice A5 0 c5, Value.int IntKind.i64 2], Value.slice (some { block := y4.heap.size + 1, off := 0 }) M M, Value.agg #[Value.bool false, Value.slice (some { block := y4.heap.size + 1, off := 0 }) M M], Value.tuple #[Value.slice A5 0 c5, Value.int IntKind.i64 2], Value.slice A5 0 c5, Value.int IntKind.i64 2, Value.int IntKind.i64 0, Value.bool false, Value.bool false, Value.slice (some ad) 32770 c1, Value.int IntKind.i64 32770, Value.bool false, Value.bool false, Value.bool false, Value.slice (some ad) 32770 c1, Value.pointer (some ad), Value.int IntKind.u8 129, Value.bool false, Value.bool false, Value.bool false, Value.slice (some ad) 32770 c1, Value.pointer (some { block := ad.block, off := ad.off + 1 }), Value.int IntKind.u8 64, Value.bool false, Value.bool false, Value.bool false, Value.agg #[Value.bool true, Value.slice A3 N c3], Value.int IntKind.i64 32770, Value.int IntKind.i64 0, Value.agg #[Value.bool true, Value.slice (some { block := gf0, off := 0 }) N N], Value.slice (some ad) 32770 c1, Value.int IntKind.i64 32770, Value.bool true, Value.bool false, Value.bool false, Value.bool false, Value.int IntKind.i64 400, Value.bool false, Value.bool false, Value.bool false, Value.int IntKind.i64 2, Value.bool false, Value.bool false, (f 0), (f 1), (f 2), (f 3), (f 4), (f 5), (f 6), (f 7), (f 8), (f 9), (f 10), (f 11), (f 12), (f 13), (f 14), (f 15), (f 16), (f 17), u153, u154, u155, u156, u157, u158, u159, u160, u161, u162, u163, u164, u165, u166, u167, u168, u169, u170, u171, u172, u173, u174, u175, u176, u177, u178, u179, u180, u181, u182, u183, u184, u185, u186, u187, u188, u189, u190, u191, u192, u193, u194, u195, u196, u197, u198, u199, u200, u201, u202, u203, u204, u205, u206, u207, u208, u209, u210, u211, u212, u213, u214, u215, u216, u217, u218, u219, u220, u221, u222, u223, u224, u225, u226, u227, u228, u229, u230, u231, u232, u233, u234, u235, u236, u237, u238, u239, u240, u241, u242, u243, u244, u245, u246, u247, u248, u249, u250, u251, u252, u253, u254, u255, u256, u257, u258, u259, u260, u261, u262, u263, u264, u265, u266, u267, u268, u269, u270, u271, u272, u273, u274, u275], defers := [] }) ∧ (∀ f, (Fr f).tmps.getD 135 undef = f 0) ∧ (∀ f, (Fr f).tmps[135]?.getD undef = f 0) ∧ (∀ f v, (Fr f).put (some 135) v = Fr (Gr.upd f 0 v)) ∧ (∀ f, (Fr f).tmps.getD 136 undef = f 1) ∧ (∀ f, (Fr f).tmps[136]?.getD undef = f 1) ∧ (∀ f v, (Fr f).put (some 136) v = Fr (Gr.upd f 1 v)) ∧ (∀ f, (Fr f).tmps.getD 137 undef = f 2) ∧ (∀ f, (Fr f).tmps[137]?.getD undef = f 2) ∧ (∀ f v, (Fr f).put (some 137) v = Fr (Gr.upd f 2 v)) ∧ (∀ f, (Fr f).tmps.getD 138 undef = f 3) ∧ (∀ f, (Fr f).tmps[138]?.getD undef = f 3) ∧ (∀ f v, (Fr f).put (some 138) v = Fr (Gr.upd f 3 v)) ∧ (∀ f, (Fr f).tmps.getD 139 undef = f 4) ∧ (∀ f, (Fr f).tmps[139]?.getD undef = f 4) ∧ (∀ f v, (Fr f).put (some 139) v = Fr (Gr.upd f 4 v)) ∧ (∀ f, (Fr f).tmps.getD 140 undef = f 5) ∧ (∀ f, (Fr f).tmps[140]?.getD undef = f 5) ∧ (∀ f v, (Fr f).put (some 140) v = Fr (Gr.upd f 5 v)) ∧ (∀ f, (Fr f).tmps.getD 141 undef = f 6) ∧ (∀ f, (Fr f).tmps[141]?.getD undef = f 6) ∧ (∀ f v, (Fr f).put (some 141) v = Fr (Gr.upd f 6 v)) ∧ (∀ f, (Fr f).tmps.getD 142 undef = f 7) ∧ (∀ f, (Fr f).tmps[142]?.getD undef = f 7) ∧ (∀ f v, (Fr f).put (some 142) v = Fr (Gr.upd f 7 v)) ∧ (∀ f, (Fr f).tmps.getD 143 undef = f 8) ∧ (∀ f, (Fr f).tmps[143]?.getD undef = f 8) ∧ (∀ f v, (Fr f).put (some 143) v = Fr (Gr.upd f 8 v)) ∧ (∀ f, (Fr f).tmps.getD 144 undef = f 9) ∧ (∀ f, (Fr f).tmps[144]?.getD undef = f 9) ∧ (∀ f v, (Fr f).put (some 144) v = Fr (Gr.upd f 9 v)) ∧ (∀ f, (Fr f).tmps.getD 145 undef = f 10) ∧ (∀ f, (Fr f).tmps[145]?.getD undef = f 10) ∧ (∀ f v, (Fr f).put (some 145) v = Fr (Gr.upd f 10 v)) ∧ (∀ f, (Fr f).tmps.getD 146 undef = f 11) ∧ (∀ f, (Fr f).tmps[146]?.getD undef = f 11) ∧ (∀ f v, (Fr f).put (some 146) v = Fr (Gr.upd f 11 v)) ∧ (∀ f, (Fr f).tmps.getD 147 undef = f 12) ∧ (∀ f, (Fr f).tmps[147]?.getD undef = f 12) ∧ (∀ f v, (Fr f).put (some 147) v = Fr (Gr.upd f 12 v)) ∧ (∀ f, (Fr f).tmps.getD 148 undef = f 13) ∧ (∀ f, (Fr f).tmps[148]?.getD undef = f 13) ∧ (∀ f v, (Fr f).put (some 148) v = Fr (Gr.upd f 13 v)) ∧ (∀ f, (Fr f).tmps.getD 149 undef = f 14) ∧ (∀ f, (Fr f).tmps[149]?.getD undef = f 14) ∧ (∀ f v, (Fr f).put (some 149) v = Fr (Gr.upd f 14 v)) ∧ (∀ f, (Fr f).tmps.getD 150 undef = f 15) ∧ (∀ f, (Fr f).tmps[150]?.getD undef = f 15) ∧ (∀ f v, (Fr f).put (some 150) v = Fr (Gr.upd f 15 v)) ∧ (∀ f, (Fr f).tmps.getD 151 undef = f 16) ∧ (∀ f, (Fr f).tmps[151]?.getD undef = f 16) ∧ (∀ f v, (Fr f).put (some 151) v = Fr (Gr.upd f 16 v)) ∧ (∀ f, (Fr f).tmps.getD 152 undef = f 17) ∧ (∀ f, (Fr f).tmps[152]?.getD undef = f 17) ∧ (∀ f v, (Fr f).put (some 152) v = Fr (Gr.upd f 17 v)) ∧ (∀ f, (Fr f).tmps.getD 15 undef = f 18) ∧ (∀ f, (Fr f).tmps[15]?.getD undef = f 18) ∧ (∀ f v, (Fr f).put (some 15) v = Fr (Gr.upd f 18 v)) := ⟨fun f => { tmps := #[u0, Value.slice (some { block := w.heap.size, off := 0 }) 8 8, Value.slice (some { block := gt, off := 0 }) 13 13, Value.int IntKind.i64 13, Value.pointer (some { block := gf0 + 1, off := 0 }), Value.slice (some ad) 32770 c1, Value.int IntKind.i64 0, Value.pointer (some { block := y3.heap.size, off := 0 }), Value.int IntKind.i64 32770, Value.int IntKind.i64 0, Value.pointer (some { block := y4.heap.size, off := 0 }), Value.int IntKind.i64 0, Value.int IntKind.i64 400, Value.slice A5 0 c5, Value.int IntKind.i64 2, (f 18), undef, undef, undef, undef, undef, undef, undef, undef, undef, undef, undef, undef, undef, undef, undef, undef, undef, u33, u34, u35, u36, u37, u38, u39, u40, u41, u42, u43, u44, u45, u46, u47, u48, u49, u50, Value.int IntKind.i64 13, Value.slice (some { block := gt, off := 0 }) 13 13, Value.int IntKind.i64 13, Value.bool false, u55, u56, u57, u58, u59, u60, u61, u62, u63, Value.slice (some { block := gf0, off := 0 }) N N, Value.agg #[Value.bool true, Value.slice (some { block := gf0, off := 0 }) N N], Value.pointer (some { block := gf0 + 1, off := 1 }), Value.slice (some { block := gf0, off := 0 }) N N, Value.pointer (some { block := gf0, off := 4095 }), Value.tuple #[Value.slice (some ad) 32770 c1, Value.int IntKind.i64 0], Value.agg #[Value.bool true, Value.slice (some { block := gf0, off := 0 }) N N], Value.tuple #[Value.slice (some ad) 32770 c1, Value.int IntKind.i64 0], Value.slice (some ad) 32770 c1, Value.int IntKind.i64 0, Value.tuple #[Value.agg #[Value.bool true, Value.slice A3 N c3], Value.int IntKind.i64 32770, Value.int IntKind.i64 0], Value.slice (some ad) 32770 c1, Value.slice (some { block := y1.heap.size, off := 0 }) 1 1, Value.slice A2 32771 c2, Value.tuple #[Value.agg #[Value.bool true, Value.slice A3 N c3], Value.int IntKind.i64 32770, Value.int IntKind.i64 0], Value.agg #[Value.bool true, Value.slice A3 N c3], Value.int IntKind.i64 32770, Value.int IntKind.i64 0, Value.tuple #[Value.agg #[Value.bool false, Value.slice A4 0 c4], Value.int IntKind.i64 0, Value.int IntKind.i64 400], Value.slice (some ad) 32770 c1, Value.slice (some ad) 32770 c1, Value.int IntKind.i64 32770, Value.int IntKind.i64 32769, Value.slice (some ad) 32769 c1, Value.tuple #[Value.agg #[Value.bool false, Value.slice A4 0 c4], Value.int IntKind.i64 0, Value.int IntKind.i64 400], Value.agg #[Value.bool false, Value.slice A4 0 c4], Value.int IntKind.i64 0, Value.int IntKind.i64 400, Value.tuple #[Value.slice A5 0 c5, Value.int IntKind.i64 2], Value.slice (some { block := y4.heap.size + 1, off := 0 }) M M, Value.agg #[Value.bool false, Value.slice (some { block := y4.heap.size + 1, off := 0 }) M M], Value.tuple #[Value.slice A5 0 c5, Value.int IntKind.i64 2], Value.slice A5 0 c5, Value.int IntKind.i64 2, Value.int IntKind.i64 0, Value.bool false, Value.bool false, Value.slice (some ad) 32770 c1, Value.int IntKind.i64 32770, Value.bool false, Value.bool false, Value.bool false, Value.slice (some ad) 32770 c1, Value.pointer (some ad), Value.int IntKind.u8 129, Value.bool false, Value.bool false, Value.bool false, Value.slice (some ad) 32770 c1, Value.pointer (some { block := ad.block, off := ad.off + 1 }), Value.int IntKind.u8 64, Value.bool false, Value.bool false, Value.bool false, Value.agg #[Value.bool true, Value.slice A3 N c3], Value.int IntKind.i64 32770, Value.int IntKind.i64 0, Value.agg #[Value.bool true, Value.slice (some { block := gf0, off := 0 }) N N], Value.slice (some ad) 32770 c1, Value.int IntKind.i64 32770, Value.bool true, Value.bool false, Value.bool false, Value.bool false, Value.int IntKind.i64 400, Value.bool false, Value.bool false, Value.bool false, Value.int IntKind.i64 2, Value.bool false, Value.bool false, (f 0), (f 1), (f 2), (f 3), (f 4), (f 5), (f 6), (f 7), (f 8), (f 9), (f 10), (f 11), (f 12), (f 13), (f 14), (f 15), (f 16), (f 17), u153, u154, u155, u156, u157, u158, u159, u160, u161, u162, u163, u164, u165, u166, u167, u168, u169, u170, u171, u172, u173, u174, u175, u176, u177, u178, u179, u180, u181, u182, u183, u184, u185, u186, u187, u188, u189, u190, u191, u192, u193, u194, u195, u196, u197, u198, u199, u200, u201, u202, u203, u204, u205, u206, u207, u208, u209, u210, u211, u212, u213, u214, u215, u216, u217, u218, u219, u220, u221, u222, u223, u224, u225, u226, u227, u228, u229, u230, u231, u232, u233, u234, u235, u236, u237, u238, u239, u240, u241, u242, u243, u244, u245, u246, u247, u248, u249, u250, u251, u252, u253, u254, u255, u256, u257, u258, u259, u260, u261, u262, u263, u264, u265, u266, u267, u268, u269, u270, u271, u272, u273, u274, u275], defers := [] }, fun _ => rfl, fun _ => rfl, fun _ => rfl, fun _ _ => rfl, fun _ => rfl, fun _ => rfl, fun _ _ => rfl, fun _ => rfl, fun _ => rfl, fun _ _ => rfl, fun _ => rfl, fun _ => rfl, fun _ _ => rfl, fun _ => rfl, fun _ => rfl, fun _ _ => rfl, fun _ => rfl, fun _ => rfl, fun _ _ => rfl, fun _ => rfl, fun _ => rfl, fun _ _ => rfl, fun _ => rfl, fun _ => rfl, fun _ _ => rfl, fun _ => rfl, fun _ => rfl, fun _ _ => rfl, fun _ => rfl, fun _ => rfl, fun _ _ => rfl, fun _ => rfl, fun _ => rfl, fun _ _ => rfl, fun _ => rfl, fun _ => rfl, fun _ _ => rfl, fun _ => rfl, fun _ => rfl, fun _ _ => rfl, fun _ => rfl, fun _ => rfl, fun _ _ => rfl, fun _ => rfl, fun _ => rfl, fun _ _ => rfl, fun _ => rfl, fun _ => rfl, fun _ _ => rfl, fun _ => rfl, fun _ => rfl, fun _ _ => rfl, fun _ => rfl, fun _ => rfl, fun _ _ => rfl, fun _ => rfl, fun _ => rfl, fun _ _ => rfl⟩
     suffices hS : Code.wp Try.prog _ _ (Fr (fun i => [u135, u136, u137, u138, u139, u140, u141, u142, u143, u144, u145, u146, u147, u148, u149, u150, u151, u152, undef].getD i undef)) y6 by
      rw [hFr] at hS
      exact hS
     refine Gr.list_grow 19 rfl (fun w' => Below y6.heap.size y6 w') (fun _ _ h hb => below_then h h.size hb) (fun i => Kn.ok (([.S [0], .S [0, 0], .S [1], .S [65], .S [64], .S [128, 0], .S [1, 0], .S [1, 0, 0], .S [1, 0, 0, 0], .S [1, 0, 0, 0, 0], .S [1, 0, 0, 65], .S [1, 0, 0, 1, 128, 128, 128, 128, 8, 0], .S [1, 0, 0, 1, 255, 255, 255, 255, 7, 255, 255, 255, 255, 7], .S [1, 0, 0, 1, 0], .S [1, 1, 0, 0], .S [1, 0, 1, 0], .S [2, 0, 0, 0, 0, 0, 1, 5], .G 18, .G 18] : List Kn).getD i (.G 0))) (fun i _ _ _ h hb => Kn.ok_below h hb) Fr ?step ?fin (fun i => [u135, u136, u137, u138, u139, u140, u141, u142, u143, u144, u145, u146, u147, u148, u149, u150, u151, u152, undef].getD i undef) y6 (Below.refl _ _)
     case step =>
      clear hFr
      intro i hi f w' K' hJ hn hK
      match i, hi with
      | 0, _ => exact wpOp_step rfl (fun K2 hK2 => value_ (v := .slice (some ⟨w'.heap.size, 0, none⟩) 1 1) (w1 := w'.alloc (.cells #[.int .u8 0] 5)) rfl rfl (by go_simp) (by have h := hK2 _ _ (hK _ _ ⟨_, _, _, rfl, rfl, Nat.le_refl _, litB w' [0] #[.int .u8 0] rfl (by decide)⟩ ((Below.refl _ _).alloc (Nat.le_refl _) _)); rw [← p0_] at h; exact h))
      | 1, _ => exact wpOp_step rfl (fun K2 hK2 => value_ (v := .slice (some ⟨w'.heap.size, 0, none⟩) 2 2) (w1 := w'.alloc (.cells #[.int .u8 0, .int .u8 0] 5)) rfl rfl (by go_simp) (by have h := hK2 _ _ (hK _ _ ⟨_, _, _, rfl, rfl, Nat.le_refl _, litB w' [0, 0] #[.int .u8 0, .int .u8 0] rfl (by decide)⟩ ((Below.refl _ _).alloc (Nat.le_refl _) _)); rw [← p1_] at h; exact h))
      | 2, _ => exact wpOp_step rfl (fun K2 hK2 => value_ (v := .slice (some ⟨w'.heap.size, 0, none⟩) 1 1) (w1 := w'.alloc (.cells #[.int .u8 1] 5)) rfl rfl (by go_simp) (by have h := hK2 _ _ (hK _ _ ⟨_, _, _, rfl, rfl, Nat.le_refl _, litB w' [1] #[.int .u8 1] rfl (by decide)⟩ ((Below.refl _ _).alloc (Nat.le_refl _) _)); rw [← p2_] at h; exact h))
      | 3, _ => exact wpOp_step rfl (fun K2 hK2 => value_ (v := .slice (some ⟨w'.heap.size, 0, none⟩) 1 1) (w1 := w'.alloc (.cells #[.int .u8 65] 5)) rfl rfl (by go_simp) (by have h := hK2 _ _ (hK _ _ ⟨_, _, _, rfl, rfl, Nat.le_refl _, litB w' [65] #[.int .u8 65] rfl (by decide)⟩ ((Below.refl _ _).alloc (Nat.le_refl _) _)); rw [← p3_] at h; exact h))
      | 4, _ => exact wpOp_step rfl (fun K2 hK2 => value_ (v := .slice (some ⟨w'.heap.size, 0, none⟩) 1 1) (w1 := w'.alloc (.cells #[.int .u8 64] 5)) rfl rfl (by go_simp) (by have h := hK2 _ _ (hK _ _ ⟨_, _, _, rfl, rfl, Nat.le_refl _, litB w' [64] #[.int .u8 64] rfl (by decide)⟩ ((Below.refl _ _).alloc (Nat.le_refl _) _)); rw [← p4_] at h; exact h))
      | 5, _ => exact wpOp_step rfl (fun K2 hK2 => value_ (v := .slice (some ⟨w'.heap.size, 0, none⟩) 2 2) (w1 := w'.alloc (.cells #[.int .u8 128, .int .u8 0] 5)) rfl rfl (by go_simp) (by have h := hK2 _ _ (hK _ _ ⟨_, _, _, rfl, rfl, Nat.le_refl _, litB w' [128, 0] #[.int .u8 128, .int .u8 0] rfl (by decide)⟩ ((Below.refl _ _).alloc (Nat.le_refl _) _)); rw [← p5_] at h; exact h))
      | 6, _ => exact wpOp_step rfl (fun K2 hK2 => value_ (v := .slice (some ⟨w'.heap.size, 0, none⟩) 2 2) (w1 := w'.alloc (.cells #[.int .u8 1, .int .u8 0] 5)) rfl rfl (by go_simp) (by have h := hK2 _ _ (hK _ _ ⟨_, _, _, rfl, rfl, Nat.le_refl _, litB w' [1, 0] #[.int .u8 1, .int .u8 0] rfl (by decide)⟩ ((Below.refl _ _).alloc (Nat.le_refl _) _)); rw [← p6_] at h; exact h))
      | 7, _ => exact wpOp_step rfl (fun K2 hK2 => value_ (v := .slice (some ⟨w'.heap.size, 0, none⟩) 3 3) (w1 := w'.alloc (.cells #[.int .u8 1, .int .u8 0, .int .u8 0] 5)) rfl rfl (by go_simp) (by have h := hK2 _ _ (hK _ _ ⟨_, _, _, rfl, rfl, Nat.le_refl _, litB w' [1, 0, 0] #[.int .u8 1, .int .u8 0, .int .u8 0] rfl (by decide)⟩ ((Below.refl _ _).alloc (Nat.le_refl _) _)); rw [← p7_] at h; exact h))
      | 8, _ => exact wpOp_step rfl (fun K2 hK2 => value_ (v := .slice (some ⟨w'.heap.size, 0, none⟩) 4 4) (w1 := w'.alloc (.cells #[.int .u8 1, .int .u8 0, .int .u8 0, .int .u8 0] 5)) rfl rfl (by go_simp) (by have h := hK2 _ _ (hK _ _ ⟨_, _, _, rfl, rfl, Nat.le_refl _, litB w' [1, 0, 0, 0] #[.int .u8 1, .int .u8 0, .int .u8 0, .int .u8 0] rfl (by decide)⟩ ((Below.refl _ _).alloc (Nat.le_refl _) _)); rw [← p8_] at h; exact h))
      | 9, _ => exact wpOp_step rfl (fun K2 hK2 => value_ (v := .slice (some ⟨w'.heap.size, 0, none⟩) 5 5) (w1 := w'.alloc (.cells #[.int .u8 1, .int .u8 0, .int .u8 0, .int .u8 0, .int .u8 0] 5)) rfl rfl (by go_simp) (by have h := hK2 _ _ (hK _ _ ⟨_, _, _, rfl, rfl, Nat.le_refl _, litB w' [1, 0, 0, 0, 0] #[.int .u8 1, .int .u8 0, .int .u8 0, .int .u8 0, .int .u8 0] rfl (by decide)⟩ ((Below.refl _ _).alloc (Nat.le_refl _) _)); rw [← p9_] at h; exact h))
      | 10, _ => exact wpOp_step rfl (fun K2 hK2 => value_ (v := .slice (some ⟨w'.heap.size, 0, none⟩) 4 4) (w1 := w'.alloc (.cells #[.int .u8 1, .int .u8 0, .int .u8 0, .int .u8 65] 5)) rfl rfl (by go_simp) (by have h := hK2 _ _ (hK _ _ ⟨_, _, _, rfl, rfl, Nat.le_refl _, litB w' [1, 0, 0, 65] #[.int .u8 1, .int .u8 0, .int .u8 0, .int .u8 65] rfl (by decide)⟩ ((Below.refl _ _).alloc (Nat.le_refl _) _)); rw [← p10_] at h; exact h))
      | 11, _ => exact wpOp_step rfl (fun K2 hK2 => value_ (v := .slice (some ⟨w'.heap.size, 0, none⟩) 10 10) (w1 := w'.alloc (.cells #[.int .u8 1, .int .u8 0, .int .u8 0, .int .u8 1, .int .u8 128, .int .u8 128, .int .u8 128, .int .u8 128, .int .u8 8, .int .u8 0] 5)) rfl rfl (by go_simp) (by have h := hK2 _ _ (hK _ _ ⟨_, _, _, rfl, rfl, Nat.le_refl _, litB w' [1, 0, 0, 1, 128, 128, 128, 128, 8, 0] #[.int .u8 1, .int .u8 0, .int .u8 0, .int .u8 1, .int .u8 128, .int .u8 128, .int .u8 128, .int .u8 128, .int .u8 8, .int .u8 0] rfl (by decide)⟩ ((Below.refl _ _).alloc (Nat.le_refl _) _)); rw [← p11_] at h; exact h))
      | 12, _ => exact wpOp_step rfl (fun K2 hK2 => value_ (v := .slice (some ⟨w'.heap.size, 0, none⟩) 14 14) (w1 := w'.alloc (.cells #[.int .u8 1, .int .u8 0, .int .u8 0, .int .u8 1, .int .u8 255, .int .u8 255, .int .u8 255, .int .u8 255, .int .u8 7, .int .u8 255, .int .u8 255, .int .u8 255, .int .u8 255, .int .u8 7] 5)) rfl rfl (by go_simp) (by have h := hK2 _ _ (hK _ _ ⟨_, _, _, rfl, rfl, Nat.le_refl _, litB w' [1, 0, 0, 1, 255, 255, 255, 255, 7, 255, 255, 255, 255, 7] #[.int .u8 1, .int .u8 0, .int .u8 0, .int .u8 1, .int .u8 255, .int .u8 255, .int .u8 255, .int .u8 255, .int .u8 7, .int .u8 255, .int .u8 255, .int .u8 255, .int .u8 255, .int .u8 7] rfl (by decide)⟩ ((Below.refl _ _).alloc (Nat.le_refl _) _)); rw [← p12_] at h; exact h))
      | 13, _ => exact wpOp_step rfl (fun K2 hK2 => value_ (v := .slice (some ⟨w'.heap.size, 0, none⟩) 5 5) (w1 := w'.alloc (.cells #[.int .u8 1, .int .u8 0, .int .u8 0, .int .u8 1, .int .u8 0] 5)) rfl rfl (by go_simp) (by have h := hK2 _ _ (hK _ _ ⟨_, _, _, rfl, rfl, Nat.le_refl _, litB w' [1, 0, 0, 1, 0] #[.int .u8 1, .int .u8 0, .int .u8 0, .int .u8 1, .int .u8 0] rfl (by decide)⟩ ((Below.refl _ _).alloc (Nat.le_refl _) _)); rw [← p13_] at h; exact h))
      | 14, _ => exact wpOp_step rfl (fun K2 hK2 => value_ (v := .slice (some ⟨w'.heap.size, 0, none⟩) 4 4) (w1 := w'.alloc (.cells #[.int .u8 1, .int .u8 1, .int .u8 0, .int .u8 0] 5)) rfl rfl (by go_simp) (by have h := hK2 _ _ (hK _ _ ⟨_, _, _, rfl, rfl, Nat.le_refl _, litB w' [1, 1, 0, 0] #[.int .u8 1, .int .u8 1, .int .u8 0, .int .u8 0] rfl (by decide)⟩ ((Below.refl _ _).alloc (Nat.le_refl _) _)); rw [← p14_] at h; exact h))
      | 15, _ => exact wpOp_step rfl (fun K2 hK2 => value_ (v := .slice (some ⟨w'.heap.size, 0, none⟩) 4 4) (w1 := w'.alloc (.cells #[.int .u8 1, .int .u8 0, .int .u8 1, .int .u8 0] 5)) rfl rfl (by go_simp) (by have h := hK2 _ _ (hK _ _ ⟨_, _, _, rfl, rfl, Nat.le_refl _, litB w' [1, 0, 1, 0] #[.int .u8 1, .int .u8 0, .int .u8 1, .int .u8 0] rfl (by decide)⟩ ((Below.refl _ _).alloc (Nat.le_refl _) _)); rw [← p15_] at h; exact h))
      | 16, _ => exact wpOp_step rfl (fun K2 hK2 => value_ (v := .slice (some ⟨w'.heap.size, 0, none⟩) 8 8) (w1 := w'.alloc (.cells #[.int .u8 2, .int .u8 0, .int .u8 0, .int .u8 0, .int .u8 0, .int .u8 0, .int .u8 1, .int .u8 5] 5)) rfl rfl (by go_simp) (by have h := hK2 _ _ (hK _ _ ⟨_, _, _, rfl, rfl, Nat.le_refl _, litB w' [2, 0, 0, 0, 0, 0, 1, 5] #[.int .u8 2, .int .u8 0, .int .u8 0, .int .u8 0, .int .u8 0, .int .u8 0, .int .u8 1, .int .u8 5] rfl (by decide)⟩ ((Below.refl _ _).alloc (Nat.le_refl _) _)); rw [← p16_] at h; exact h))
      | 17, _ =>
       obtain ⟨A1, n1, c1, q1, hl1, hc1, hr1⟩ : Kn.ok (.S [0]) w' (f 0) := hn 0 (by decide)
       obtain ⟨A2, n2, c2, q2, hl2, hc2, hr2⟩ : Kn.ok (.S [0, 0]) w' (f 1) := hn 1 (by decide)
       obtain ⟨A3, n3, c3, q3, hl3, hc3, hr3⟩ : Kn.ok (.S [1]) w' (f 2) := hn 2 (by decide)
       obtain ⟨A4, n4, c4, q4, hl4, hc4, hr4⟩ : Kn.ok (.S [65]) w' (f 3) := hn 3 (by decide)
       obtain ⟨A5, n5, c5, q5, hl5, hc5, hr5⟩ : Kn.ok (.S [64]) w' (f 4) := hn 4 (by decide)
       obtain ⟨A6, n6, c6, q6, hl6, hc6, hr6⟩ : Kn.ok (.S [128, 0]) w' (f 5) := hn 5 (by decide)
       obtain ⟨A7, n7, c7, q7, hl7, hc7, hr7⟩ : Kn.ok (.S [1, 0]) w' (f 6) := hn 6 (by decide)
       obtain ⟨A8, n8, c8, q8, hl8, hc8, hr8⟩ : Kn.ok (.S [1, 0, 0]) w' (f 7) := hn 7 (by decide)
       obtain ⟨A9, n9, c9, q9, hl9, hc9, hr9⟩ : Kn.ok (.S [1, 0, 0, 0]) w' (f 8) := hn 8 (by decide)
       obtain ⟨A10, n10, c10, q10, hl10, hc10, hr10⟩ : Kn.ok (.S [1, 0, 0, 0, 0]) w' (f 9) := hn 9 (by decide)
       obtain ⟨A11, n11, c11, q11, hl11, hc11, hr11⟩ : Kn.ok (.S [1, 0, 0, 65]) w' (f 10) := hn 10 (by decide)
       obtain ⟨A12, n12, c12, q12, hl12, hc12, hr12⟩ : Kn.ok (.S [1, 0, 0, 1, 128, 128, 128, 128, 8, 0]) w' (f 11) := hn 11 (by decide)
       obtain ⟨A13, n13, c13, q13, hl13, hc13, hr13⟩ : Kn.ok (.S [1, 0, 0, 1, 255, 255, 255, 255, 7, 255, 255, 255, 255, 7]) w' (f 12) := hn 12 (by decide)
       obtain ⟨A14, n14, c14, q14, hl14, hc14, hr14⟩ : Kn.ok (.S [1, 0, 0, 1, 0]) w' (f 13) := hn 13 (by decide)
       obtain ⟨A15, n15, c15, q15, hl15, hc15, hr15⟩ : Kn.ok (.S [1, 1, 0, 0]) w' (f 14) := hn 14 (by decide)
       obtain ⟨A16, n16, c16, q16, hl16, hc16, hr16⟩ : Kn.ok (.S [1, 0, 1, 0]) w' (f 15) := hn 15 (by decide)
       obtain ⟨A17, n17, c17, q17, hl17, hc17, hr17⟩ : Kn.ok (.S [2, 0, 0, 0, 0, 0, 1, 5]) w' (f 16) := hn 16 (by decide)
       have hb := (Below.refl w'.heap.size w').alloc (Nat.le_refl _) (.cells #[.slice none 0 0, .slice A1 n1 c1, .slice A2 n2 c2, .slice A3 n3 c3, .slice A4 n4 c4, .slice A5 n5 c5, .slice A6 n6 c6, .slice A7 n7 c7, .slice A8 n8 c8, .slice A9 n9 c9, .slice A10 n10 c10, .slice A11 n11 c11, .slice A12 n12 c12, .slice A13 n13 c13, .slice A14 n14 c14, .slice A15 n15 c15, .slice A16 n16 c16, .slice A17 n17 c17] 25)
       have hkk := heap_alloc_new w' (.cells #[.slice none 0 0, .slice A1 n1 c1, .slice A2 n2 c2, .slice A3 n3 c3, .slice A4 n4 c4, .slice A5 n5 c5, .slice A6 n6 c6, .slice A7 n7 c7, .slice A8 n8 c8, .slice A9 n9 c9, .slice A10 n10 c10, .slice A11 n11 c11, .slice A12 n12 c12, .slice A13 n13 c13, .slice A14 n14 c14, .slice A15 n15 c15, .slice A16 n16 c16, .slice A17 n17 c17] 25)
       exact wpOp_step rfl (fun K2 hK2 => value_ (v := .slice (some ⟨w'.heap.size, 0, none⟩) 18 18) (w1 := w'.alloc (.cells #[.slice none 0 0, .slice A1 n1 c1, .slice A2 n2 c2, .slice A3 n3 c3, .slice A4 n4 c4, .slice A5 n5 c5, .slice A6 n6 c6, .slice A7 n7 c7, .slice A8 n8 c8, .slice A9 n9 c9, .slice A10 n10 c10, .slice A11 n11 c11, .slice A12 n12 c12, .slice A13 n13 c13, .slice A14 n14 c14, .slice A15 n15 c15, .slice A16 n16 c16, .slice A17 n17 c17] 25)) rfl rfl (by unfold execOp; simp [Act.eval, go_sem, q1, r0_, q0_, q2, r1_, q1_, q3, r2_, q2_, q4, r3_, q3_, q5, r4_, q4_, q6, r5_, q5_, q7, r6_, q6_, q8, r7_, q7_, q9, r8_, q8_, q10, r9_, q9_, q11, r10_, q10_, q12, r11_, q11_, q13, r12_, q12_, q14, r13_, q13_, q15, r14_, q14_, q16, r15_, q15_, q17, r16_, q16_]) (by
        have h := hK2 _ _ (hK (.slice (some ⟨w'.heap.size, 0, none⟩) 18 18) _ ⟨w'.heap.size, rfl, fun j hj => by
        match j, hj with
        | 0, _ => exact ⟨none, 0, 0, [], cell_of hkk rfl, rfl, Nat.le_refl _, empty_row _ _ _, (fun x hx => nomatch hx), (by decide)⟩
        | 1, _ => exact ⟨A1, n1, c1, [0], cell_of hkk rfl, hl1, hc1, Kd.C_below hr1 hb, (by decide), (by decide)⟩
        | 2, _ => exact ⟨A2, n2, c2, [0, 0], cell_of hkk rfl, hl2, hc2, Kd.C_below hr2 hb, (by decide), (by decide)⟩
        | 3, _ => exact ⟨A3, n3, c3, [1], cell_of hkk rfl, hl3, hc3, Kd.C_below hr3 hb, (by decide), (by decide)⟩
        | 4, _ => exact ⟨A4, n4, c4, [65], cell_of hkk rfl, hl4, hc4, Kd.C_below hr4 hb, (by decide), (by decide)⟩
        | 5, _ => exact ⟨A5, n5, c5, [64], cell_of hkk rfl, hl5, hc5, Kd.C_below hr5 hb, (by decide), (by decide)⟩
        | 6, _ => exact ⟨A6, n6, c6, [128, 0], cell_of hkk rfl, hl6, hc6, Kd.C_below hr6 hb, (by decide), (by decide)⟩
        | 7, _ => exact ⟨A7, n7, c7, [1, 0], cell_of hkk rfl, hl7, hc7, Kd.C_below hr7 hb, (by decide), (by decide)⟩
        | 8, _ => exact ⟨A8, n8, c8, [1, 0, 0], cell_of hkk rfl, hl8, hc8, Kd.C_below hr8 hb, (by decide), (by decide)⟩
        | 9, _ => exact ⟨A9, n9, c9, [1, 0, 0, 0], cell_of hkk rfl, hl9, hc9, Kd.C_below hr9 hb, (by decide), (by decide)⟩
        | 10, _ => exact ⟨A10, n10, c10, [1, 0, 0, 0, 0], cell_of hkk rfl, hl10, hc10, Kd.C_below hr10 hb, (by decide), (by decide)⟩
        | 11, _ => exact ⟨A11, n11, c11, [1, 0, 0, 65], cell_of hkk rfl, hl11, hc11, Kd.C_below hr11 hb, (by decide), (by decide)⟩
        | 12, _ => exact ⟨A12, n12, c12, [1, 0, 0, 1, 128, 128, 128, 128, 8, 0], cell_of hkk rfl, hl12, hc12, Kd.C_below hr12 hb, (by decide), (by decide)⟩
        | 13, _ => exact ⟨A13, n13, c13, [1, 0, 0, 1, 255, 255, 255, 255, 7, 255, 255, 255, 255, 7], cell_of hkk rfl, hl13, hc13, Kd.C_below hr13 hb, (by decide), (by decide)⟩
        | 14, _ => exact ⟨A14, n14, c14, [1, 0, 0, 1, 0], cell_of hkk rfl, hl14, hc14, Kd.C_below hr14 hb, (by decide), (by decide)⟩
        | 15, _ => exact ⟨A15, n15, c15, [1, 1, 0, 0], cell_of hkk rfl, hl15, hc15, Kd.C_below hr15 hb, (by decide), (by decide)⟩
        | 16, _ => exact ⟨A16, n16, c16, [1, 0, 1, 0], cell_of hkk rfl, hl16, hc16, Kd.C_below hr16 hb, (by decide), (by decide)⟩
        | 17, _ => exact ⟨A17, n17, c17, [2, 0, 0, 0, 0, 0, 1, 5], cell_of hkk rfl, hl17, hc17, Kd.C_below hr17 hb, (by decide), (by decide)⟩
        | j + 18, h => exact absurd h (by omega)⟩ hb)
        rw [← p17_] at h
        exact h))
      | 18, _ =>
       obtain ⟨g, e, hg⟩ : Kn.ok (.G 18) w' (f 17) := hn 17 (by decide)
       exact wpOp_step rfl (fun K2 hK2 => value_ (v := .slice (some ⟨g, 0, none⟩) 18 18) (w1 := w') rfl rfl (by unfold execOp; simp [Act.eval, e, go_sem, r17_, q17_]) (by have h := hK2 _ _ (hK _ _ ⟨g, rfl, hg⟩ (Below.refl _ _)); rw [← p18_] at h; exact h))
      | n + 19, h => exact absurd h (by omega)
     case fin =>
      intro f w' hJ hn
      obtain ⟨g, e0, hg⟩ : Kn.ok (.G 18) w' (f 18) := hn 18 (by decide)
      have hb := hJ
      clear hn
      rw [hFr]
      go_wp2_with fail
      go_meet
      exact ⟨g, by first | rfl | exact e0, ⟨hg⟩, ⟨hb⟩⟩
    case rest =>
     obtain ⟨gr, rfl, HEL, bc⟩ := hcut
     rename World => wz
     replace HB := Aside0.mk (below_then HB.out HB.out.size bc.out)
     clear bc
     go_wp2
     go_loopw [16] (fun v1 ws => ∃ j : Nat, v1 = .int .i64 j ∧ j ≤ 18 ∧ Aside0 (Below wz.heap.size wz ws)) (fun v1 _ => 18 - (intOf v1).toNat)
     case atStart => exact ⟨0, rfl, by decide, ⟨Below.refl _ _⟩⟩
     case round =>
      obtain ⟨j, rfl, hj, HBR⟩ := hrel
      by_cases hlt : j < 18
      ·obtain ⟨A, n, c, l, h0, h1, h2, h3, h4, h5⟩ := (HEL.out j hlt).below HBR.out
       have hj1 : (j : Int) < 18 := by omega
       have H1 := Aside0.mk h1
       have H2 := Aside0.mk h2
       have H3 := Aside0.mk h3
       have H4 := Aside0.mk h4
       have H5 := Aside0.mk h5
       clear h1 h2 h3 h4 h5
       go_wp2_with fail
       refine (reads_t A n c l H1.out H2.out H4.out H5.out _ H3.out).mono ?_
       rintro e w1_ ⟨rfl, bq⟩
       have HB1 : Aside0 (Below wz.heap.size wz w1_) := ⟨below_then HBR.out HBR.out.size bq.out⟩
       clear bq
       go_wp2
       go_roundw
       case rel => exact ⟨j + 1, by go_num, by omega, HB1⟩
       case measure => simp [intOf]; omega
      ·obtain rfl : j = 18 := by omega
       clear hlt hj HEL
       replace HB := Aside0.mk (below_then HB.out HB.out.size HBR.out)
       clear HBR
       have hmkC := make_certs
       go_upto_region 23 with fail
       clear hmkC
       have HMB : Aside0 (Bk (wr.alloc (.cells (madeCells zcells 390) 61)) wr.heap.size (madeCells zcells 390) 61) := ⟨Bk.new wr _ _⟩
       have HGM : Aside0 (w.heap.size ≤ wr.heap.size) := ⟨HB.out.size⟩
       replace HB := Aside0.mk (HB.out.alloc HB.out.size (.cells (madeCells zcells 390) 61))
       generalize hWM : (wr.alloc (.cells (madeCells zcells 390) 61)) = wm at HMB HB ⊢
       generalize wr.heap.size = gm at HMB HGM ⊢
       clear hWM
       go_cut [18] (fun y1 wx => ∃ g ga gb, y1 = .pointer (some ⟨g, 0, none⟩) ∧ Aside0 (Bk wx g (lcells ga gb 65 65) 61) ∧ Aside0 (Bk wx ga z65 3) ∧ Aside0 (Bk wx gb z65 3) ∧ Aside0 (wm.heap.size ≤ g) ∧ Aside0 (Below wm.heap.size wm wx))
       case first =>
        obtain ⟨Fr, hFr, r0_, q0_, p0_, r1_, q1_, p1_, r2_, q2_, p2_, r3_, q3_, p3_, z4_⟩ : ∃ Fr : (Nat → Value) → Act, (∀ f, Fr f = { tmps := #[u0, Value.slice (some { block := w.heap.size, off := 0 }) 8 8, Value.slice (some { block := gt, off := 0 }) 13 13, Value.int IntKind.i64 13, Value.pointer (some { block := gf0 + 1, off := 0 }), Value.slice (some ad) 32770 c1, Value.int IntKind.i64 0, Value.pointer (some { block := y3.heap.size, off := 0 }), Value.int IntKind.i64 32770, Value.int IntKind.i64 0, u10, Value.int IntKind.i64 0, Value.int IntKind.i64 400, Value.slice A5 0 c5, Value.int IntKind.i64 2, Value.slice (some { block := gr, off := 0 }) 18 18, Value.int IntKind.i64 ↑18, Value.slice (some { block := gm, off := 0 }) 65 65, (f 3), undef, undef, undef, undef, undef, undef, undef, undef, undef, undef, undef, undef, undef, undef, u33, u34, u35, u36, u37, u38, u39, u40, u41, u42, u43, u44, u45, u46, u47, u48, u49, u50, u51, u52, u53, u54, u55, u56, u57, u58, u59, u60, u61, u62, u63, u64, u65, u66, u67, u68, u69, u70, u71, u72, u73, u74, u75, u76, u77, u78, u79, u80, u81, u82, u83, u84, u85, u86, u87, u88, u89, u90, u91, u92, u93, u94, u95, u96, u97, u98, u99, u100, u101, u102, u103, u104, u105, u106, u107, u108, u109, u110, u111, u112, u113, u114, u115, u116, u117, u118, u119, u120, u121, u122, u123, u124, u125, u126, u127, u128, u129, u130, u131, u132, u133, u134, u135, u136, u137, u138, u139, u140, u141, u142, u143, u144, u145, u146, u147, u148, u149, u150, u151, u152, Value.int IntKind.i64 ↑18, Value.slice (some { block := gr, off := 0 }) 18 18, Value.int IntKind.i64 18, Value.bool false, u157, u158, u159, u160, u161, u162, u163, u164, Value.slice (some { block := gm, off := 0 }) 65 65, (f 0), (f 1), (f 2), u169, u170, u171, u172, u173, u174, u175, u176, u177, u178, u179, u180, u181, u182, u183, u184, u185, u186, u187, u188, u189, u190, u191, u192, u193, u194, u195, u196, u197, u198, u199, u200, u201, u202, u203, u204, u205, u206, u207, u208, u209, u210, u211, u212, u213, u214, u215, u216, u217, u218, u219, u220, u221, u222, u223, u224, u225, u226, u227, u228, u229, u230, u231, u232, u233, u234, u235, u236, u237, u238, u239, u240, u241, u242, u243, u244, u245, u246, u247, u248, u249, u250, u251, u252, u253, u254, u255, u256, u257, u258, u259, u260, u261, u262, u263, u264, u265, u266, u267, u268, u269, u270, u271, u272, u273, u274, u275], defers := [] }) ∧ (∀ f, (Fr f).tmps.getD 166 undef = f 0) ∧ (∀ f, (Fr f).tmps[166]?.getD undef = f 0) ∧ (∀ f v, (Fr f).put (some 166) v = Fr (Gr.upd f 0 v)) ∧ (∀ f, (Fr f).tmps.getD 167 undef = f 1) ∧ (∀ f, (Fr f).tmps[167]?.getD undef = f 1) ∧ (∀ f v, (Fr f).put (some 167) v = Fr (Gr.upd f 1 v)) ∧ (∀ f, (Fr f).tmps.getD 168 undef = f 2) ∧ (∀ f, (Fr f).tmps[168]?.getD undef = f 2) ∧ (∀ f v, (Fr f).put (some 168) v = Fr (Gr.upd f 2 v)) ∧ (∀ f, (Fr f).tmps.getD 18 undef = f 3) ∧ (∀ f, (Fr f).tmps[18]?.getD undef = f 3) ∧ (∀ f v, (Fr f).put (some 18) v = Fr (Gr.upd f 3 v)) ∧ (∀ f v, Fr (Gr.upd f 4 v) = Fr f) := ⟨fun f => { tmps := #[u0, Value.slice (some { block := w.heap.size, off := 0 }) 8 8, Value.slice (some { block := gt, off := 0 }) 13 13, Value.int IntKind.i64 13, Value.pointer (some { block := gf0 + 1, off := 0 }), Value.slice (some ad) 32770 c1, Value.int IntKind.i64 0, Value.pointer (some { block := y3.heap.size, off := 0 }), Value.int IntKind.i64 32770, Value.int IntKind.i64 0, u10, Value.int IntKind.i64 0, Value.int IntKind.i64 400, Value.slice A5 0 c5, Value.int IntKind.i64 2, Value.slice (some { block := gr, off := 0 }) 18 18, Value.int IntKind.i64 ↑18, Value.slice (some { block := gm, off := 0 }) 65 65, (f 3), undef, undef, undef, undef, undef, undef, undef, undef, undef, undef, undef, undef, undef, undef, u33, u34, u35, u36, u37, u38, u39, u40, u41, u42, u43, u44, u45, u46, u47, u48, u49, u50, u51, u52, u53, u54, u55, u56, u57, u58, u59, u60, u61, u62, u63, u64, u65, u66, u67, u68, u69, u70, u71, u72, u73, u74, u75, u76, u77, u78, u79, u80, u81, u82, u83, u84, u85, u86, u87, u88, u89, u90, u91, u92, u93, u94, u95, u96, u97, u98, u99, u100, u101, u102, u103, u104, u105, u106, u107, u108, u109, u110, u111, u112, u113, u114, u115, u116, u117, u118, u119, u120, u121, u122, u123, u124, u125, u126, u127, u128, u129, u130, u131, u132, u133, u134, u135, u136, u137, u138, u139, u140, u141, u142, u143, u144, u145, u146, u147, u148, u149, u150, u151, u152, Value.int IntKind.i64 ↑18, Value.slice (some { block := gr, off := 0 }) 18 18, Value.int IntKind.i64 18, Value.bool false, u157, u158, u159, u160, u161, u162, u163, u164, Value.slice (some { block := gm, off := 0 }) 65 65, (f 0), (f 1), (f 2), u169, u170, u171, u172, u173, u174, u175, u176, u177, u178, u179, u180, u181, u182, u183, u184, u185, u186, u187, u188, u189, u190, u191, u192, u193, u194, u195, u196, u197, u198, u199, u200, u201, u202, u203, u204, u205, u206, u207, u208, u209, u210, u211, u212, u213, u214, u215, u216, u217, u218, u219, u220, u221, u222, u223, u224, u225, u226, u227, u228, u229, u230, u231, u232, u233, u234, u235, u236, u237, u238, u239, u240, u241, u242, u243, u244, u245, u246, u247, u248, u249, u250, u251, u252, u253, u254, u255, u256, u257, u258, u259, u260, u261, u262, u263, u264, u265, u266, u267, u268, u269, u270, u271, u272, u273, u274, u275], defers := [] }, fun _ => rfl, fun _ => rfl, fun _ => rfl, fun _ _ => rfl, fun _ => rfl, fun _ => rfl, fun _ _ => rfl, fun _ => rfl, fun _ => rfl, fun _ _ => rfl, fun _ => rfl, fun _ => rfl, fun _ _ => rfl, fun _ _ => rfl⟩
        suffices hS : Code.wp Try.prog _ _ (Fr (fun i => [u166, u167, u168, undef].getD i undef)) wm by
         rw [hFr] at hS
         exact hS
        refine Gr.region_done [[], [], [0, 1], [], [3, 2, 0, 1, 2, 3]] 5 rfl (by kernel_rfl) (by decide) (by kernel_rfl) (I23 wm) I23_cong Fr ?step ?fin (fun i => [u166, u167, u168, undef].getD i undef) wm ⟨(Below.refl _ _).drew, fun h => (by cases h), fun h => (by cases h), fun h => (by cases h), fun h => (by cases h), fun h => (by cases h), fun h => (by cases h)⟩
        case step =>
         clear hFr
         intro i hi d f w' K' hI hd hn hK
         match i, hi with
         | 0, _ =>
          have h := hK _ _ (hI.make0 hd)
          rw [← p0_] at h
          exact wpOp_step rfl (fun K2 hK2 => value_ (v := .slice (some ⟨w'.heap.size, 0, none⟩) 65 65) rfl rfl (by have hm := make_ints w'; go_simp) (hK2 _ _ h))
         | 1, _ =>
          have h := hK _ _ (hI.make1 hd)
          rw [← p1_] at h
          exact wpOp_step rfl (fun K2 hK2 => value_ (v := .slice (some ⟨w'.heap.size, 0, none⟩) 65 65) rfl rfl (by have hm := make_ints w'; go_simp) (hK2 _ _ h))
         | 2, _ =>
          have h0 := hn 0 (by decide)
          have h1 := hn 1 (by decide)
          obtain ⟨g0, e0, k0⟩ := hI.k0 h0
          obtain ⟨g1, e1, k1⟩ := hI.k1 h1
          have h := hK _ _ (hI.built h0 h1)
          rw [← p2_] at h
          exact wpOp_step rfl (fun K2 hK2 => value_ (v := .agg #[.bool false, .slice none 0 0, .bool false, .slice none 0 0, f 0, f 1]) rfl rfl (by unfold execOp; simp [Act.eval, e0, e1, r0_, q0_, r1_, q1_, go_sem]) (hK2 _ _ h))
         | 3, _ =>
          have h := hK _ _ (hI.made hd)
          rw [← p3_] at h
          exact wpOp_step rfl (fun K2 hK2 => value_ (v := .pointer (some ⟨w'.heap.size, 0, none⟩)) rfl rfl (by go_simp) (hK2 _ _ h))
         | 4, _ =>
          have h2 := hn 2 (by decide)
          have h3 := hn 3 (by decide)
          have e2 := hI.k2 h2
          obtain ⟨g, e3, hg, hk, _⟩ := hI.k3 h3
          have hz := hk hd
          obtain ⟨g0, e0, k0⟩ := hI.k0 (hI.c2 h2).1
          obtain ⟨g1, e1, k1⟩ := hI.k1 (hI.c2 h2).2
          have r0 := hz.cell (i := 0) rfl
          have r1 := hz.cell (i := 1) rfl
          have r2 := hz.cell (i := 2) rfl
          have r3 := hz.cell (i := 3) rfl
          have r4 := hz.cell (i := 4) rfl
          have r5 := hz.cell (i := 5) rfl
          have q0 := hz.frozen 0
          have q1 := hz.frozen 1
          have q2 := hz.frozen 2
          have q3 := hz.frozen 3
          have q4 := hz.frozen 4
          have q5 := hz.frozen 5
          have hlt := hz.lt
          have hs := hI.store hd h2 h3 e3 undef
          rw [e0, e1] at hs e2
          have h := hK undef _ hs
          rw [z4_] at h
          clear hs hI hk hz k0 k1
          exact wpOp_step rfl (fun K2 hK2 => skip_ rfl rfl (by go_simp) (hK2 _ _ h))
         | n + 5, h => exact absurd h (by omega)
        case fin =>
         intro f w' hI
         obtain ⟨g, e3, hg, _, hk⟩ := hI.k3 rfl
         obtain ⟨g0, e0, k0⟩ := hI.k0 rfl
         obtain ⟨g1, e1, k1⟩ := hI.k1 rfl
         have hl := hk rfl
         rw [e0, e1] at hl
         have hb := hI.b
         clear hI hk
         rw [hFr]
         go_wp2_with fail
         go_meet
         exact ⟨g, g0, g1, by first | rfl | exact e3, ⟨hl⟩, ⟨k0⟩, ⟨k1⟩, ⟨hg⟩, ⟨hb⟩⟩
       case rest =>
        obtain ⟨gl, ga, gb, rfl, HLB, HA, HBb, HGL, bc⟩ := hcut
        rename World => wn
        have HNE : Aside0 (gm ≠ gl) := ⟨fun e => by have h1 := HMB.out.lt; have h2 := HGL.out; omega⟩
        replace HGL := Aside0.mk (Nat.le_trans HB.out.size HGL.out)
        replace HMB := Aside0.mk (HMB.out.below bc.out)
        replace HB := Aside0.mk (below_then HB.out HB.out.size bc.out)
        clear bc
        rename_i haK
        exact haK _ _ (use_code (c' := rights 15 (Try.f7.body.getD .skip)) (by kernel_rfl) (tail_c w wn gl ga gb gm HMB HLB HA HBb HGL HGM HNE HB c64 HC64 HCL l64 HL64))
end Go.Proofs.Ytoheamfnddfgkaa.St
