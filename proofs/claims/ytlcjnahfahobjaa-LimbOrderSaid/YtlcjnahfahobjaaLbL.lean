/- limb: LimbOrder. -/
import Derived.Test.YtlcjnahfahobjaaLbRh
namespace Go.Proofs.Ytlcjnahfahobjaa.Lb
open Go.RowKit Go.Proofs.YtlcjnahfahobjaaW.PrintWords Go.Proofs.YtlcjnahfahobjaaW.PrintLast Go.Proofs.YtlcjnahfahobjaaW.PrintMore
set_option linter.unusedVariables false
set_option linter.unusedSimpArgs false

theorem cmpZ_tri (a b : Int) : (a < b ∧ cmpZ a b = -1) ∨ (a = b ∧ cmpZ a b = 0) ∨ (b < a ∧ cmpZ a b = 1) := by
  rcases (by omega : a < b ∨ a = b ∨ b < a) with h | h | h
  · exact .inl ⟨h, cmpZ_lt h⟩
  · exact .inr (.inl ⟨h, cmpZ_eq h⟩)
  · exact .inr (.inr ⟨h, cmpZ_gt h⟩)
theorem ord_cases {a b c d x y p1 p2 p5 p6 : Int} {vb : Bool} (hd : a - b = d) (hx : a + c = x) (hy : b + c = y) (h1 : cmpZ a b = p1) (h2 : cmpZ b a = p2) (h5 : cmpZ d 0 = p5) (h6 : cmpZ x y = p6) (hv : decide (a = b) = vb) :
    (p1 = -1 ∧ p2 = 1 ∧ p5 = -1 ∧ p6 = -1 ∧ vb = false) ∨ (p1 = 0 ∧ p2 = 0 ∧ p5 = 0 ∧ p6 = 0 ∧ vb = true) ∨ (p1 = 1 ∧ p2 = -1 ∧ p5 = 1 ∧ p6 = 1 ∧ vb = false) := by
  rcases (by omega : a < b ∨ a = b ∨ b < a) with h | h | h
  · refine .inl ⟨?_, ?_, ?_, ?_, ?_⟩
    · rw [← h1, cmpZ_lt h]
    · rw [← h2, cmpZ_gt h]
    · rw [← h5, cmpZ_lt (by omega)]
    · rw [← h6, cmpZ_lt (by omega)]
    · rw [← hv]; exact decide_eq_false (by omega)
  · refine .inr (.inl ⟨?_, ?_, ?_, ?_, ?_⟩)
    · rw [← h1, cmpZ_eq h]
    · rw [← h2, cmpZ_eq h.symm]
    · rw [← h5, cmpZ_eq (by omega)]
    · rw [← h6, cmpZ_eq (by omega)]
    · rw [← hv]; exact decide_eq_true h
  · refine .inr (.inr ⟨?_, ?_, ?_, ?_, ?_⟩)
    · rw [← h1, cmpZ_gt h]
    · rw [← h2, cmpZ_lt h]
    · rw [← h5, cmpZ_gt (by omega)]
    · rw [← h6, cmpZ_gt (by omega)]
    · rw [← hv]; exact decide_eq_false (by omega)
theorem ord_trans {a b c p1 p3 p4 : Int} (h1 : cmpZ a b = p1) (h3 : cmpZ b c = p3) (h4 : cmpZ a c = p4) : p1 ≤ 0 → p3 ≤ 0 → p4 ≤ 0 := by
  intro k1 k3
  rcases cmpZ_tri a b with ⟨g1, e1⟩ | ⟨g1, e1⟩ | ⟨g1, e1⟩ <;> rcases cmpZ_tri b c with ⟨g3, e3⟩ | ⟨g3, e3⟩ | ⟨g3, e3⟩ <;> rcases cmpZ_tri a c with ⟨g4, e4⟩ | ⟨g4, e4⟩ | ⟨g4, e4⟩ <;> omega
theorem ord_small {m n p7 : Int} (h : cmpZ m n = p7) : (m < n ∧ p7 = -1) ∨ (m = n ∧ p7 = 0) ∨ (n < m ∧ p7 = 1) := by
  rw [← h]; exact cmpZ_tri m n
theorem lim_i64 {n : Int} (h0 : -9223372036854775808 ≤ n) (h1 : n ≤ 9223372036854775807) : lim 1 n := by unfold lim B64; omega

set_option maxRecDepth 100000 in
set_option maxHeartbeats 16000000 in
theorem order_c (s1 : Bool) (P1 : Option Addr) (q1 : Nat) (l1 : List Int) (hq1 : l1.length ≤ q1) (ho1 : okL l1) (hm1 : l1.length < 17592186044416) (s2 : Bool) (P2 : Option Addr) (q2 : Nat) (l2 : List Int) (hq2 : l2.length ≤ q2) (ho2 : okL l2) (hm2 : l2.length < 17592186044416) (s3 : Bool) (P3 : Option Addr) (q3 : Nat) (l3 : List Int) (hq3 : l3.length ≤ q3) (ho3 : okL l3) (hm3 : l3.length < 17592186044416) (m n : Int) (w : World) (hr1 : u64.C w P1 l1.length l1) (hr2 : u64.C w P2 l2.length l2) (hr3 : u64.C w P3 l3.length l3) (hm : -9223372036854775808 ≤ m ∧ m ≤ 9223372036854775807) (hn : -9223372036854775808 ≤ n ∧ n ≤ 9223372036854775807) :
    Calls Try.prog 9 #[.agg #[.bool s1, .slice P1 l1.length q1], .agg #[.bool s2, .slice P2 l2.length q2], .agg #[.bool s3, .slice P3 l3.length q3], .int .i64 m, .int .i64 n] w fun e w' => e = .returned (.bool true) ∧ Below w.heap.size w w' := by
  have HM := Aside0.mk hm
  have HN := Aside0.mk hn
  clear hm hn
  have hu := Try.underlying24
  have hu2 := Try.underlying35
  have hus := Try.underlying22
  have H1 := Aside0.mk (((WB.new s1 q1 rfl hr1).alloc (.cells #[.bool s2, .slice P2 l2.length q2] 35)).alloc (.cells #[.bool s3, .slice P3 l3.length q3] 35))
  have H2 := Aside0.mk ((WB.new (g := w.heap.size + 1) s2 q2 (by simp) (Kd.C_alloc hr2 (.cells #[.bool s1, .slice P1 l1.length q1] 35))).alloc (.cells #[.bool s3, .slice P3 l3.length q3] 35))
  have H3 := Aside0.mk (WB.new (g := w.heap.size + 2) s3 q3 (by simp) (Kd.C_alloc (Kd.C_alloc hr3 (.cells #[.bool s1, .slice P1 l1.length q1] 35)) (.cells #[.bool s2, .slice P2 l2.length q2] 35)))
  have HB := Aside0.mk (((Below.refl w.heap.size w).alloc (Nat.le_refl _) (.cells #[.bool s1, .slice P1 l1.length q1] 35)).alloc (by simp) (.cells #[.bool s2, .slice P2 l2.length q2] 35) |>.alloc (by simp; omega) (.cells #[.bool s3, .slice P3 l3.length q3] 35))
  clear hr1 hr2 hr3
  go_enter Try.func9, Try.ntmps9
  go_upto_region 1 with fail
  go_cut [11, 12, 13] (fun y1 y2 y3 wx => Cut3 w (zW s1 l1 60) (zW s2 l2 60) (zW s3 l3 60) y1 y2 y3 wx)
  case first =>
    obtain ⟨W0, hW0⟩ : ∃ W0, (((w.alloc (.cells #[.bool s1, .slice P1 l1.length q1] 35)).alloc (.cells #[.bool s2, .slice P2 l2.length q2] 35)).alloc (.cells #[.bool s3, .slice P3 l3.length q3] 35)) = W0 := ⟨_, rfl⟩
    rw [hW0] at H1 H2 H3 HB ⊢
    clear hW0
    have hS : (fun w' : World => WB w' w.heap.size s1 P1 q1 l1 ∧ WB w' (w.heap.size + 1) s2 P2 q2 l2 ∧ WB w' (w.heap.size + 2) s3 P3 q3 l3) W0 := ⟨H1.out, H2.out, H3.out⟩
    have hSd : (fun w' : World => WB w' w.heap.size s1 P1 q1 l1 ∧ WB w' (w.heap.size + 1) s2 P2 q2 l2 ∧ WB w' (w.heap.size + 2) s3 P3 q3 l3) W0.drew := ⟨H1.out.drew, H2.out.drew, H3.out.drew⟩
    refine start_ (ds := [9, 10, 11]) (S := (fun w' : World => WB w' w.heap.size s1 P1 q1 l1 ∧ WB w' (w.heap.size + 1) s2 P2 q2 l2 ∧ WB w' (w.heap.size + 2) s3 P3 q3 l3)) #[false, false, false, false, false, false, false, false, false, false, false, false] (by kernel_rfl) rfl (by kernel_rfl) hSd (fun _ => ?_)
    refine take_ (i := 0) (v := (.agg #[.bool s1, .slice P1 l1.length q1])) #[true, false, false, false, false, false, false, false, false, false, false, false] rfl rfl (by kernel_rfl) (fun _ _ _ h => h) (Or.inl ⟨by rfl, fun wq hx => ?_⟩) hSd rfl ?_
    · obtain ⟨pc0, pc1, pcl⟩ := hx.1.cells
      go_simp
    refine take_ (i := 2) (v := (.agg #[.bool s2, .slice P2 l2.length q2])) #[true, false, true, false, false, false, false, false, false, false, false, false] rfl rfl (by kernel_rfl) (fun _ _ _ h => h) (Or.inl ⟨by rfl, fun wq hx => ?_⟩) hSd rfl ?_
    · obtain ⟨pc0, pc1, pcl⟩ := hx.2.1.cells
      go_simp
    refine take_ (i := 4) (v := (.agg #[.bool s3, .slice P3 l3.length q3])) #[true, false, true, false, true, false, false, false, false, false, false, false] rfl rfl (by kernel_rfl) (fun _ _ _ h => h) (Or.inl ⟨by rfl, fun wq hx => ?_⟩) hSd rfl ?_
    · obtain ⟨pc0, pc1, pcl⟩ := hx.2.2.cells
      go_simp
    refine region3 (fun w' : World => WB w' w.heap.size s1 P1 q1 l1 ∧ WB w' (w.heap.size + 1) s2 P2 q2 l2 ∧ WB w' (w.heap.size + 2) s3 P3 q3 l3) (fun wa wb hx hb => ⟨hx.1.below hb, hx.2.1.below hb, hx.2.2.below hb⟩) w (zW s1 l1 60) (zW s2 l2 60) (zW s3 l3 60) 20 #[(.agg #[.bool s1, .slice P1 l1.length q1]), .int .i64 60] #[(.agg #[.bool s2, .slice P2 l2.length q2]), .int .i64 60] #[(.agg #[.bool s3, .slice P3 l3.length q3]), .int .i64 60] (fun y1 y2 y3 y4 y5 y6 => { tmps := #[(.agg #[.bool s1, .slice P1 l1.length q1]), (.agg #[.bool s2, .slice P2 l2.length q2]), (.agg #[.bool s3, .slice P3 l3.length q3]), .int .i64 m, .int .i64 n, .pointer (some ⟨w.heap.size, 0, none⟩), .pointer (some ⟨w.heap.size + 1, 0, none⟩), .pointer (some ⟨w.heap.size + 2, 0, none⟩), undef, undef, .bool false, y4, y5, y6, undef, undef, undef, undef, undef, undef, undef, undef, undef, undef, undef, undef, undef, undef, undef, undef, undef, undef, undef, undef, undef, undef, undef, (.agg #[.bool s1, .slice P1 l1.length q1]), y1, (.agg #[.bool s2, .slice P2 l2.length q2]), y2, (.agg #[.bool s3, .slice P3 l3.length q3]), y3, undef, undef, undef, undef, undef, undef, undef, undef, undef, undef, undef, undef, undef, undef, undef, undef, undef, undef, undef, undef, undef, undef, undef, undef, undef, undef, undef, undef, undef, undef, undef, undef, undef, undef, undef, undef, undef, undef, undef, undef, undef, undef, undef, undef, undef, undef, undef, undef, undef, undef, undef, undef, undef, undef, undef, undef, undef, undef, undef, undef, undef, undef, undef, undef, undef, undef, undef, undef, undef, undef, undef, undef, undef, undef, undef, undef, undef, undef, undef, undef, undef, undef, undef, undef, undef, undef, undef, undef, undef, undef, undef, undef, undef, undef, undef, undef, undef, undef, undef, undef, undef, undef, undef, undef, undef, undef, undef, undef, undef, undef, undef, undef, undef, undef, undef, undef, undef, undef, undef, undef, undef, undef, undef, undef, undef, undef, undef, undef, undef, undef, undef, undef, undef, undef, undef, undef, undef, undef, undef, undef, undef, undef, undef, undef, undef, undef, undef, undef, undef, undef, undef, undef], defers := [] }) (by rfl) (fun _ _ _ _ _ _ => by rfl) (by rfl) (fun _ _ _ _ _ _ => by rfl) (by rfl) (fun _ _ _ _ _ _ => by rfl) (by rfl) (fun _ _ _ _ _ _ => by rfl) (by rfl) (fun _ _ _ _ _ _ => by rfl) (by rfl) (fun _ _ _ _ _ _ => by rfl) (by rfl) (fun _ _ _ _ _ _ => by rfl) (by rfl) (fun _ _ _ _ _ _ => by rfl) (by rfl) (fun _ _ _ _ _ _ => by rfl) (fun _ _ _ _ _ _ _ => by rfl) (fun _ _ _ _ _ _ _ => by rfl) (fun _ _ _ _ _ _ _ => by rfl) (fun _ _ _ _ _ _ _ => by rfl) (fun _ _ _ _ _ _ _ => by rfl) (fun _ _ _ _ _ _ _ => by rfl) (fun _ _ _ _ _ _ wq => by have he := enters_ Try.func20 (by kernel_rfl) rfl #[(.agg #[.bool s1, .slice P1 l1.length q1]), .int .i64 60] wq; unfold execOp; simp [resolve, Deferred.ofValue, invoke, Act.eval, he]) (fun wq hx => whole_n s1 P1 q1 l1 60 hq1 ho1 hm1 (by omega) wq hx.1.reads) (fun _ _ _ _ _ _ wq => by have he := enters_ Try.func20 (by kernel_rfl) rfl #[(.agg #[.bool s2, .slice P2 l2.length q2]), .int .i64 60] wq; unfold execOp; simp [resolve, Deferred.ofValue, invoke, Act.eval, he]) (fun wq hx => whole_n s2 P2 q2 l2 60 hq2 ho2 hm2 (by omega) wq hx.2.1.reads) (fun _ _ _ _ _ _ wq => by have he := enters_ Try.func20 (by kernel_rfl) rfl #[(.agg #[.bool s3, .slice P3 l3.length q3]), .int .i64 60] wq; unfold execOp; simp [resolve, Deferred.ofValue, invoke, Act.eval, he]) (fun wq hx => whole_n s3 P3 q3 l3 60 hq3 ho3 hm3 (by omega) wq hx.2.2.reads) (fun _ _ _ _ _ _ wq => by go_simp) (fun _ _ _ _ _ _ wq => by go_simp) (fun _ _ _ _ _ _ wq => by go_simp) (fun B d g _ _ _ _ wq hk => by obtain ⟨c0, c1, f0, f1, zl⟩ := two_cells (Below.refl wq.heap.size wq) hk; go_simp) rfl (fun B d g _ _ _ _ wq hk => by obtain ⟨c0, c1, f0, f1, zl⟩ := two_cells (Below.refl wq.heap.size wq) hk; go_simp) rfl (fun B d g _ _ _ _ wq hk => by obtain ⟨c0, c1, f0, f1, zl⟩ := two_cells (Below.refl wq.heap.size wq) hk; go_simp) rfl (by decide +kernel) (by kernel_rfl) (by kernel_rfl) (by kernel_rfl) ?_ 6 none none none none none none _ (fun h => h) (fun h => h) rfl ⟨hSd, HB.out.drew, (fun _ _ h => by cases h), (fun _ _ h => by cases h), (fun _ _ h => by cases h), (fun _ h => by cases h), by simp [gl]⟩
    intro B1 d1 B2 d2 B3 d3 g1 g2 g3 w' hC
    dsimp only [numV]
    go_wp2_with fail
    go_meet
    exact hC
  case rest =>
    obtain ⟨ga, Aa, ca, gb, Ab, cb, gc, Ac, cc, rfl, rfl, rfl, Va, Vb, Vc, HB⟩ := hcut
    clear H1 H2 H3
    rename_i wx
    have La := Aside0.mk (zW_lim s1 l1 60 ho1)
    have Lb := Aside0.mk (zW_lim s2 l2 60 ho2)
    have Lc := Aside0.mk (zW_lim s3 l3 60 ho3)
    generalize zW s1 l1 60 = a at *
    generalize zW s2 l2 60 = b at *
    generalize zW s3 l3 60 = c at *
    obtain ⟨zd, hz⟩ : ∃ z, a - b = z := ⟨_, rfl⟩
    have Ed := Aside0.mk hz
    have Ld : Aside0 (lim 61 zd) := ⟨by rw [← hz]; exact lim_sub La.out Lb.out⟩
    clear hz
    obtain ⟨zx, hz⟩ : ∃ z, a + c = z := ⟨_, rfl⟩
    have Ex := Aside0.mk hz
    have Lx : Aside0 (lim 61 zx) := ⟨by rw [← hz]; exact lim_add La.out Lc.out⟩
    clear hz
    obtain ⟨zy, hz⟩ : ∃ z, b + c = z := ⟨_, rfl⟩
    have Ey := Aside0.mk hz
    have Ly : Aside0 (lim 61 zy) := ⟨by rw [← hz]; exact lim_add Lb.out Lc.out⟩
    clear hz
    have Lm := Aside0.mk (lim_i64 HM.out.1 HM.out.2)
    have Ln := Aside0.mk (lim_i64 HN.out.1 HN.out.2)
    obtain ⟨p1, hz⟩ : ∃ z, cmpZ a b = z := ⟨_, rfl⟩
    have Q1 := Aside0.mk hz
    clear hz
    obtain ⟨p2, hz⟩ : ∃ z, cmpZ b a = z := ⟨_, rfl⟩
    have Q2 := Aside0.mk hz
    clear hz
    obtain ⟨p3, hz⟩ : ∃ z, cmpZ b c = z := ⟨_, rfl⟩
    have Q3 := Aside0.mk hz
    clear hz
    obtain ⟨p4, hz⟩ : ∃ z, cmpZ a c = z := ⟨_, rfl⟩
    have Q4 := Aside0.mk hz
    clear hz
    obtain ⟨p5, hz⟩ : ∃ z, cmpZ zd 0 = z := ⟨_, rfl⟩
    have Q5 := Aside0.mk hz
    clear hz
    obtain ⟨p6, hz⟩ : ∃ z, cmpZ zx zy = z := ⟨_, rfl⟩
    have Q6 := Aside0.mk hz
    clear hz
    obtain ⟨p7, hz⟩ : ∃ z, cmpZ m n = z := ⟨_, rfl⟩
    have Q7 := Aside0.mk hz
    clear hz
    obtain ⟨vb, hvb⟩ : ∃ v, decide (a = b) = v := ⟨_, rfl⟩
    have HC := Aside0.mk (ord_cases Ed.out Ex.out Ey.out Q1.out Q2.out Q5.out Q6.out hvb)
    have HVB := Aside0.mk hvb
    clear hvb
    have HT := Aside0.mk (ord_trans Q1.out Q3.out Q4.out)
    have HS := Aside0.mk (ord_small Q7.out)
    obtain ⟨cx0a, cx1a, cxla⟩ := Va.out.cells
    obtain ⟨cx0b, cx1b, cxlb⟩ := Vb.out.cells
    go_wp2_with fail
    refine (cmp_zv a b (lim_le La.out (by omega)) (lim_le Lb.out (by omega)) _ _ _ _ _ (Va.out.rv) (Vb.out.rv) p1 Q1.out).mono ?_
    rintro e w1_ ⟨rfl, b⟩
    clear cx0a cx1a cxla cx0b cx1b cxlb
    replace Va := Aside0.mk (Va.out.below b.out)
    replace Vb := Aside0.mk (Vb.out.below b.out)
    replace Vc := Aside0.mk (Vc.out.below b.out)
    replace HB := Aside0.mk (below_then HB.out HB.out.size b.out)
    clear b
    obtain ⟨cx0b, cx1b, cxlb⟩ := Vb.out.cells
    obtain ⟨cx0a, cx1a, cxla⟩ := Va.out.cells
    go_wp2_with fail
    refine (cmp_zv b a (lim_le Lb.out (by omega)) (lim_le La.out (by omega)) _ _ _ _ _ (Vb.out.rv) (Va.out.rv) p2 Q2.out).mono ?_
    rintro e w2_ ⟨rfl, b⟩
    clear cx0b cx1b cxlb cx0a cx1a cxla
    replace Va := Aside0.mk (Va.out.below b.out)
    replace Vb := Aside0.mk (Vb.out.below b.out)
    replace Vc := Aside0.mk (Vc.out.below b.out)
    replace HB := Aside0.mk (below_then HB.out HB.out.size b.out)
    clear b
    obtain ⟨cx0b, cx1b, cxlb⟩ := Vb.out.cells
    obtain ⟨cx0c, cx1c, cxlc⟩ := Vc.out.cells
    go_wp2_with fail
    refine (cmp_zv b c (lim_le Lb.out (by omega)) (lim_le Lc.out (by omega)) _ _ _ _ _ (Vb.out.rv) (Vc.out.rv) p3 Q3.out).mono ?_
    rintro e w3_ ⟨rfl, b⟩
    clear cx0b cx1b cxlb cx0c cx1c cxlc
    replace Va := Aside0.mk (Va.out.below b.out)
    replace Vb := Aside0.mk (Vb.out.below b.out)
    replace Vc := Aside0.mk (Vc.out.below b.out)
    replace HB := Aside0.mk (below_then HB.out HB.out.size b.out)
    clear b
    obtain ⟨cx0a, cx1a, cxla⟩ := Va.out.cells
    obtain ⟨cx0c, cx1c, cxlc⟩ := Vc.out.cells
    go_wp2_with fail
    refine (cmp_zv a c (lim_le La.out (by omega)) (lim_le Lc.out (by omega)) _ _ _ _ _ (Va.out.rv) (Vc.out.rv) p4 Q4.out).mono ?_
    rintro e w4_ ⟨rfl, b⟩
    clear cx0a cx1a cxla cx0c cx1c cxlc
    replace Va := Aside0.mk (Va.out.below b.out)
    replace Vb := Aside0.mk (Vb.out.below b.out)
    replace Vc := Aside0.mk (Vc.out.below b.out)
    replace HB := Aside0.mk (below_then HB.out HB.out.size b.out)
    clear b
    obtain ⟨cx0a, cx1a, cxla⟩ := Va.out.cells
    obtain ⟨cx0b, cx1b, cxlb⟩ := Vb.out.cells
    go_wp2_with fail
    refine (sub_zv a b zd Ed (lim_le La.out (by omega)) (lim_le Lb.out (by omega)) (lim_le Ld.out (by omega)) _ _ _ _ _ (Va.out.rv) (Vb.out.rv)).mono ?_
    rintro e w5_ ⟨Ad, cd, rfl, Rd, b⟩
    clear cx0a cx1a cxla cx0b cx1b cxlb
    replace Va := Aside0.mk (Va.out.below b.out)
    replace Vb := Aside0.mk (Vb.out.below b.out)
    replace Vc := Aside0.mk (Vc.out.below b.out)
    replace HB := Aside0.mk (below_then HB.out HB.out.size b.out)
    clear b
    have Vd := Aside0.mk (BV.new Rd.out)
    clear Rd
    go_wp2_with fail
    refine (cmp_z0 zd (lim_le Ld.out (by omega)) _ _ _ (Vd.out.rv) p5 Q5.out).mono ?_
    rintro e w6_ ⟨rfl, b⟩
    replace Va := Aside0.mk ((Va.out.alloc _).below b.out)
    replace Vb := Aside0.mk ((Vb.out.alloc _).below b.out)
    replace Vc := Aside0.mk ((Vc.out.alloc _).below b.out)
    replace Vd := Aside0.mk (Vd.out.below b.out)
    replace HB := Aside0.mk (below_then HB.out HB.out.size (((Below.refl w5_.heap.size w5_).alloc (Nat.le_refl _) _).trans (b.out.mono (by simp))))
    clear b
    obtain ⟨cx0a, cx1a, cxla⟩ := Va.out.cells
    obtain ⟨cx0c, cx1c, cxlc⟩ := Vc.out.cells
    go_wp2_with fail
    refine (add_zv a c zx Ex (lim_le La.out (by omega)) (lim_le Lc.out (by omega)) (lim_le Lx.out (by omega)) _ _ _ _ _ (Va.out.rv) (Vc.out.rv)).mono ?_
    rintro e w7_ ⟨Ax, cx, rfl, Rx, b⟩
    clear cx0a cx1a cxla cx0c cx1c cxlc
    replace Va := Aside0.mk (Va.out.below b.out)
    replace Vb := Aside0.mk (Vb.out.below b.out)
    replace Vc := Aside0.mk (Vc.out.below b.out)
    replace Vd := Aside0.mk (Vd.out.below b.out)
    replace HB := Aside0.mk (below_then HB.out HB.out.size b.out)
    clear b
    have Vx := Aside0.mk (BV.new Rx.out)
    clear Rx
    obtain ⟨cx0b, cx1b, cxlb⟩ := Vb.out.cells
    obtain ⟨cx0c, cx1c, cxlc⟩ := Vc.out.cells
    go_wp2_with fail
    refine (add_zv b c zy Ey (lim_le Lb.out (by omega)) (lim_le Lc.out (by omega)) (lim_le Ly.out (by omega)) _ _ _ _ _ (Vb.out.alloc _).rv (Vc.out.alloc _).rv).mono ?_
    rintro e w8_ ⟨Ay, cy, rfl, Ry, b⟩
    clear cx0b cx1b cxlb cx0c cx1c cxlc
    replace Va := Aside0.mk ((Va.out.alloc _).below b.out)
    replace Vb := Aside0.mk ((Vb.out.alloc _).below b.out)
    replace Vc := Aside0.mk ((Vc.out.alloc _).below b.out)
    replace Vd := Aside0.mk ((Vd.out.alloc _).below b.out)
    replace Vx := Aside0.mk (Vx.out.below b.out)
    replace HB := Aside0.mk (below_then HB.out HB.out.size (((Below.refl w7_.heap.size w7_).alloc (Nat.le_refl _) _).trans (b.out.mono (by simp))))
    clear b
    have Vy := Aside0.mk (BV.new Ry.out)
    clear Ry
    obtain ⟨cx0x, cx1x, cxlx⟩ := Vx.out.cells
    go_wp2_with fail
    refine (cmp_zv zx zy (lim_le Lx.out (by omega)) (lim_le Ly.out (by omega)) _ _ _ _ _ (Vx.out.alloc _).rv (Vy.out.rv) p6 Q6.out).mono ?_
    rintro e w9_ ⟨rfl, b⟩
    clear cx0x cx1x cxlx
    replace Va := Aside0.mk ((Va.out.alloc _).below b.out)
    replace Vb := Aside0.mk ((Vb.out.alloc _).below b.out)
    replace Vc := Aside0.mk ((Vc.out.alloc _).below b.out)
    replace Vd := Aside0.mk ((Vd.out.alloc _).below b.out)
    replace Vx := Aside0.mk ((Vx.out.alloc _).below b.out)
    replace Vy := Aside0.mk (Vy.out.below b.out)
    replace HB := Aside0.mk (below_then HB.out HB.out.size (((Below.refl w8_.heap.size w8_).alloc (Nat.le_refl _) _).trans (b.out.mono (by simp))))
    clear b
    go_wp2_with fail
    refine (of_z m HM.out.1 HM.out.2 _).mono ?_
    rintro e w10_ ⟨Am, cm, rfl, Rm, b⟩
    replace Va := Aside0.mk (Va.out.below b.out)
    replace Vb := Aside0.mk (Vb.out.below b.out)
    replace Vc := Aside0.mk (Vc.out.below b.out)
    replace Vd := Aside0.mk (Vd.out.below b.out)
    replace Vx := Aside0.mk (Vx.out.below b.out)
    replace Vy := Aside0.mk (Vy.out.below b.out)
    replace HB := Aside0.mk (below_then HB.out HB.out.size b.out)
    clear b
    go_wp2_with fail
    refine (of_z n HN.out.1 HN.out.2 _).mono ?_
    rintro e w11_ ⟨An, cn, rfl, Rn, b⟩
    replace Va := Aside0.mk (Va.out.below b.out)
    replace Vb := Aside0.mk (Vb.out.below b.out)
    replace Vc := Aside0.mk (Vc.out.below b.out)
    replace Vd := Aside0.mk (Vd.out.below b.out)
    replace Vx := Aside0.mk (Vx.out.below b.out)
    replace Vy := Aside0.mk (Vy.out.below b.out)
    replace Rm := Aside0.mk ((Rm.out).below b.out)
    replace HB := Aside0.mk (below_then HB.out HB.out.size b.out)
    clear b
    go_wp2_with fail
    refine (cmp_zv m n (lim_le Lm.out (by omega)) (lim_le Ln.out (by omega)) _ _ _ _ _ Rm.out Rn.out p7 Q7.out).mono ?_
    rintro e w12_ ⟨rfl, b⟩
    replace Va := Aside0.mk (Va.out.below b.out)
    replace Vb := Aside0.mk (Vb.out.below b.out)
    replace Vc := Aside0.mk (Vc.out.below b.out)
    replace Vd := Aside0.mk (Vd.out.below b.out)
    replace Vx := Aside0.mk (Vx.out.below b.out)
    replace Vy := Aside0.mk (Vy.out.below b.out)
    replace Rm := Aside0.mk ((Rm.out).below b.out)
    replace Rn := Aside0.mk ((Rn.out).below b.out)
    replace HB := Aside0.mk (below_then HB.out HB.out.size b.out)
    clear b
    clear Rm Rn
    have hmn := HS.out
    have hcs := HC.out
    have fin : ∀ (u1 u2 : Prop), True := fun _ _ => trivial
    clear fin
    rcases hcs with ⟨rfl, rfl, rfl, rfl, rfl⟩ | ⟨rfl, rfl, rfl, rfl, rfl⟩ | ⟨rfl, rfl, rfl, rfl, rfl⟩
    · by_cases hbc : p3 ≤ 0
      · have hac : p4 ≤ 0 := HT.out (by omega) hbc
        have hac1 : decide (0 < p4) = false := decide_eq_false (by omega)
        have hbc1 : decide (p3 ≤ 0) = true := decide_eq_true hbc
        rcases hmn with ⟨hlt, rfl⟩ | ⟨heq, rfl⟩ | ⟨hgt, rfl⟩
        · have g1 : decide (m < n) = true := decide_eq_true hlt
          obtain ⟨cx0a, cx1a, cxla⟩ := Va.out.cells
          obtain ⟨cx0b, cx1b, cxlb⟩ := Vb.out.cells
          go_wp2_with fail
          refine (same_z a b (lim_le La.out (by omega)) _ _ _ _ _ (Va.out.rv) (Vb.out.rv) _ HVB.out).mono ?_
          rintro e w13_ ⟨rfl, b⟩
          clear cx0a cx1a cxla cx0b cx1b cxlb
          replace Va := Aside0.mk (Va.out.below b.out)
          replace Vb := Aside0.mk (Vb.out.below b.out)
          replace Vc := Aside0.mk (Vc.out.below b.out)
          replace Vd := Aside0.mk (Vd.out.below b.out)
          replace Vx := Aside0.mk (Vx.out.below b.out)
          replace Vy := Aside0.mk (Vy.out.below b.out)
          replace HB := Aside0.mk (below_then HB.out HB.out.size b.out)
          clear b
          go_wp2_with fail
          refine (of_z m HM.out.1 HM.out.2 _).mono ?_
          rintro e w14_ ⟨Am, cm, rfl, Rm, b⟩
          replace Va := Aside0.mk (Va.out.below b.out)
          replace Vb := Aside0.mk (Vb.out.below b.out)
          replace Vc := Aside0.mk (Vc.out.below b.out)
          replace Vd := Aside0.mk (Vd.out.below b.out)
          replace Vx := Aside0.mk (Vx.out.below b.out)
          replace Vy := Aside0.mk (Vy.out.below b.out)
          replace HB := Aside0.mk (below_then HB.out HB.out.size b.out)
          clear b
          go_wp2_with fail
          refine (small_z m (lim_le Lm.out (by omega)) HM.out.1 HM.out.2 _ _ _ Rm.out).mono ?_
          rintro e w15_ ⟨rfl, b⟩
          replace Va := Aside0.mk (Va.out.below b.out)
          replace Vb := Aside0.mk (Vb.out.below b.out)
          replace Vc := Aside0.mk (Vc.out.below b.out)
          replace Vd := Aside0.mk (Vd.out.below b.out)
          replace Vx := Aside0.mk (Vx.out.below b.out)
          replace Vy := Aside0.mk (Vy.out.below b.out)
          replace Rm := Aside0.mk ((Rm.out).below b.out)
          replace HB := Aside0.mk (below_then HB.out HB.out.size b.out)
          clear b
          clear Rm
          go_wp2_with fail
          refine (awake_z _).mono ?_
          rintro e w16_ ⟨rfl, b⟩
          replace Va := Aside0.mk (Va.out.below b.out)
          replace Vb := Aside0.mk (Vb.out.below b.out)
          replace Vc := Aside0.mk (Vc.out.below b.out)
          replace Vd := Aside0.mk (Vd.out.below b.out)
          replace Vx := Aside0.mk (Vx.out.below b.out)
          replace Vy := Aside0.mk (Vy.out.below b.out)
          replace HB := Aside0.mk (below_then HB.out HB.out.size b.out)
          clear b
          go_wp2
          go_ret
          exact ⟨rfl, HB.out⟩
        · have g1 : decide (m < n) = false := decide_eq_false (by omega)
          have g2 : decide (n < m) = false := decide_eq_false (by omega)
          have g3 : ¬ m < n := by omega
          have g4 : ¬ n < m := by omega
          clear heq
          obtain ⟨cx0a, cx1a, cxla⟩ := Va.out.cells
          obtain ⟨cx0b, cx1b, cxlb⟩ := Vb.out.cells
          go_wp2_with fail
          refine (same_z a b (lim_le La.out (by omega)) _ _ _ _ _ (Va.out.rv) (Vb.out.rv) _ HVB.out).mono ?_
          rintro e w13_ ⟨rfl, b⟩
          clear cx0a cx1a cxla cx0b cx1b cxlb
          replace Va := Aside0.mk (Va.out.below b.out)
          replace Vb := Aside0.mk (Vb.out.below b.out)
          replace Vc := Aside0.mk (Vc.out.below b.out)
          replace Vd := Aside0.mk (Vd.out.below b.out)
          replace Vx := Aside0.mk (Vx.out.below b.out)
          replace Vy := Aside0.mk (Vy.out.below b.out)
          replace HB := Aside0.mk (below_then HB.out HB.out.size b.out)
          clear b
          go_wp2_with fail
          refine (of_z m HM.out.1 HM.out.2 _).mono ?_
          rintro e w14_ ⟨Am, cm, rfl, Rm, b⟩
          replace Va := Aside0.mk (Va.out.below b.out)
          replace Vb := Aside0.mk (Vb.out.below b.out)
          replace Vc := Aside0.mk (Vc.out.below b.out)
          replace Vd := Aside0.mk (Vd.out.below b.out)
          replace Vx := Aside0.mk (Vx.out.below b.out)
          replace Vy := Aside0.mk (Vy.out.below b.out)
          replace HB := Aside0.mk (below_then HB.out HB.out.size b.out)
          clear b
          go_wp2_with fail
          refine (small_z m (lim_le Lm.out (by omega)) HM.out.1 HM.out.2 _ _ _ Rm.out).mono ?_
          rintro e w15_ ⟨rfl, b⟩
          replace Va := Aside0.mk (Va.out.below b.out)
          replace Vb := Aside0.mk (Vb.out.below b.out)
          replace Vc := Aside0.mk (Vc.out.below b.out)
          replace Vd := Aside0.mk (Vd.out.below b.out)
          replace Vx := Aside0.mk (Vx.out.below b.out)
          replace Vy := Aside0.mk (Vy.out.below b.out)
          replace Rm := Aside0.mk ((Rm.out).below b.out)
          replace HB := Aside0.mk (below_then HB.out HB.out.size b.out)
          clear b
          clear Rm
          go_wp2_with fail
          refine (awake_z _).mono ?_
          rintro e w16_ ⟨rfl, b⟩
          replace Va := Aside0.mk (Va.out.below b.out)
          replace Vb := Aside0.mk (Vb.out.below b.out)
          replace Vc := Aside0.mk (Vc.out.below b.out)
          replace Vd := Aside0.mk (Vd.out.below b.out)
          replace Vx := Aside0.mk (Vx.out.below b.out)
          replace Vy := Aside0.mk (Vy.out.below b.out)
          replace HB := Aside0.mk (below_then HB.out HB.out.size b.out)
          clear b
          go_wp2
          go_ret
          exact ⟨rfl, HB.out⟩
        · have g1 : decide (m < n) = false := decide_eq_false (by omega)
          have g2 : decide (n < m) = true := decide_eq_true hgt
          have g3 : ¬ m < n := by omega
          obtain ⟨cx0a, cx1a, cxla⟩ := Va.out.cells
          obtain ⟨cx0b, cx1b, cxlb⟩ := Vb.out.cells
          go_wp2_with fail
          refine (same_z a b (lim_le La.out (by omega)) _ _ _ _ _ (Va.out.rv) (Vb.out.rv) _ HVB.out).mono ?_
          rintro e w13_ ⟨rfl, b⟩
          clear cx0a cx1a cxla cx0b cx1b cxlb
          replace Va := Aside0.mk (Va.out.below b.out)
          replace Vb := Aside0.mk (Vb.out.below b.out)
          replace Vc := Aside0.mk (Vc.out.below b.out)
          replace Vd := Aside0.mk (Vd.out.below b.out)
          replace Vx := Aside0.mk (Vx.out.below b.out)
          replace Vy := Aside0.mk (Vy.out.below b.out)
          replace HB := Aside0.mk (below_then HB.out HB.out.size b.out)
          clear b
          go_wp2_with fail
          refine (of_z m HM.out.1 HM.out.2 _).mono ?_
          rintro e w14_ ⟨Am, cm, rfl, Rm, b⟩
          replace Va := Aside0.mk (Va.out.below b.out)
          replace Vb := Aside0.mk (Vb.out.below b.out)
          replace Vc := Aside0.mk (Vc.out.below b.out)
          replace Vd := Aside0.mk (Vd.out.below b.out)
          replace Vx := Aside0.mk (Vx.out.below b.out)
          replace Vy := Aside0.mk (Vy.out.below b.out)
          replace HB := Aside0.mk (below_then HB.out HB.out.size b.out)
          clear b
          go_wp2_with fail
          refine (small_z m (lim_le Lm.out (by omega)) HM.out.1 HM.out.2 _ _ _ Rm.out).mono ?_
          rintro e w15_ ⟨rfl, b⟩
          replace Va := Aside0.mk (Va.out.below b.out)
          replace Vb := Aside0.mk (Vb.out.below b.out)
          replace Vc := Aside0.mk (Vc.out.below b.out)
          replace Vd := Aside0.mk (Vd.out.below b.out)
          replace Vx := Aside0.mk (Vx.out.below b.out)
          replace Vy := Aside0.mk (Vy.out.below b.out)
          replace Rm := Aside0.mk ((Rm.out).below b.out)
          replace HB := Aside0.mk (below_then HB.out HB.out.size b.out)
          clear b
          clear Rm
          go_wp2_with fail
          refine (awake_z _).mono ?_
          rintro e w16_ ⟨rfl, b⟩
          replace Va := Aside0.mk (Va.out.below b.out)
          replace Vb := Aside0.mk (Vb.out.below b.out)
          replace Vc := Aside0.mk (Vc.out.below b.out)
          replace Vd := Aside0.mk (Vd.out.below b.out)
          replace Vx := Aside0.mk (Vx.out.below b.out)
          replace Vy := Aside0.mk (Vy.out.below b.out)
          replace HB := Aside0.mk (below_then HB.out HB.out.size b.out)
          clear b
          go_wp2
          go_ret
          exact ⟨rfl, HB.out⟩
      · have hbc1 : decide (p3 ≤ 0) = false := decide_eq_false hbc
        rcases hmn with ⟨hlt, rfl⟩ | ⟨heq, rfl⟩ | ⟨hgt, rfl⟩
        · have g1 : decide (m < n) = true := decide_eq_true hlt
          obtain ⟨cx0a, cx1a, cxla⟩ := Va.out.cells
          obtain ⟨cx0b, cx1b, cxlb⟩ := Vb.out.cells
          go_wp2_with fail
          refine (same_z a b (lim_le La.out (by omega)) _ _ _ _ _ (Va.out.rv) (Vb.out.rv) _ HVB.out).mono ?_
          rintro e w13_ ⟨rfl, b⟩
          clear cx0a cx1a cxla cx0b cx1b cxlb
          replace Va := Aside0.mk (Va.out.below b.out)
          replace Vb := Aside0.mk (Vb.out.below b.out)
          replace Vc := Aside0.mk (Vc.out.below b.out)
          replace Vd := Aside0.mk (Vd.out.below b.out)
          replace Vx := Aside0.mk (Vx.out.below b.out)
          replace Vy := Aside0.mk (Vy.out.below b.out)
          replace HB := Aside0.mk (below_then HB.out HB.out.size b.out)
          clear b
          go_wp2_with fail
          refine (of_z m HM.out.1 HM.out.2 _).mono ?_
          rintro e w14_ ⟨Am, cm, rfl, Rm, b⟩
          replace Va := Aside0.mk (Va.out.below b.out)
          replace Vb := Aside0.mk (Vb.out.below b.out)
          replace Vc := Aside0.mk (Vc.out.below b.out)
          replace Vd := Aside0.mk (Vd.out.below b.out)
          replace Vx := Aside0.mk (Vx.out.below b.out)
          replace Vy := Aside0.mk (Vy.out.below b.out)
          replace HB := Aside0.mk (below_then HB.out HB.out.size b.out)
          clear b
          go_wp2_with fail
          refine (small_z m (lim_le Lm.out (by omega)) HM.out.1 HM.out.2 _ _ _ Rm.out).mono ?_
          rintro e w15_ ⟨rfl, b⟩
          replace Va := Aside0.mk (Va.out.below b.out)
          replace Vb := Aside0.mk (Vb.out.below b.out)
          replace Vc := Aside0.mk (Vc.out.below b.out)
          replace Vd := Aside0.mk (Vd.out.below b.out)
          replace Vx := Aside0.mk (Vx.out.below b.out)
          replace Vy := Aside0.mk (Vy.out.below b.out)
          replace Rm := Aside0.mk ((Rm.out).below b.out)
          replace HB := Aside0.mk (below_then HB.out HB.out.size b.out)
          clear b
          clear Rm
          go_wp2_with fail
          refine (awake_z _).mono ?_
          rintro e w16_ ⟨rfl, b⟩
          replace Va := Aside0.mk (Va.out.below b.out)
          replace Vb := Aside0.mk (Vb.out.below b.out)
          replace Vc := Aside0.mk (Vc.out.below b.out)
          replace Vd := Aside0.mk (Vd.out.below b.out)
          replace Vx := Aside0.mk (Vx.out.below b.out)
          replace Vy := Aside0.mk (Vy.out.below b.out)
          replace HB := Aside0.mk (below_then HB.out HB.out.size b.out)
          clear b
          go_wp2
          go_ret
          exact ⟨rfl, HB.out⟩
        · have g1 : decide (m < n) = false := decide_eq_false (by omega)
          have g2 : decide (n < m) = false := decide_eq_false (by omega)
          have g3 : ¬ m < n := by omega
          have g4 : ¬ n < m := by omega
          clear heq
          obtain ⟨cx0a, cx1a, cxla⟩ := Va.out.cells
          obtain ⟨cx0b, cx1b, cxlb⟩ := Vb.out.cells
          go_wp2_with fail
          refine (same_z a b (lim_le La.out (by omega)) _ _ _ _ _ (Va.out.rv) (Vb.out.rv) _ HVB.out).mono ?_
          rintro e w13_ ⟨rfl, b⟩
          clear cx0a cx1a cxla cx0b cx1b cxlb
          replace Va := Aside0.mk (Va.out.below b.out)
          replace Vb := Aside0.mk (Vb.out.below b.out)
          replace Vc := Aside0.mk (Vc.out.below b.out)
          replace Vd := Aside0.mk (Vd.out.below b.out)
          replace Vx := Aside0.mk (Vx.out.below b.out)
          replace Vy := Aside0.mk (Vy.out.below b.out)
          replace HB := Aside0.mk (below_then HB.out HB.out.size b.out)
          clear b
          go_wp2_with fail
          refine (of_z m HM.out.1 HM.out.2 _).mono ?_
          rintro e w14_ ⟨Am, cm, rfl, Rm, b⟩
          replace Va := Aside0.mk (Va.out.below b.out)
          replace Vb := Aside0.mk (Vb.out.below b.out)
          replace Vc := Aside0.mk (Vc.out.below b.out)
          replace Vd := Aside0.mk (Vd.out.below b.out)
          replace Vx := Aside0.mk (Vx.out.below b.out)
          replace Vy := Aside0.mk (Vy.out.below b.out)
          replace HB := Aside0.mk (below_then HB.out HB.out.size b.out)
          clear b
          go_wp2_with fail
          refine (small_z m (lim_le Lm.out (by omega)) HM.out.1 HM.out.2 _ _ _ Rm.out).mono ?_
          rintro e w15_ ⟨rfl, b⟩
          replace Va := Aside0.mk (Va.out.below b.out)
          replace Vb := Aside0.mk (Vb.out.below b.out)
          replace Vc := Aside0.mk (Vc.out.below b.out)
          replace Vd := Aside0.mk (Vd.out.below b.out)
          replace Vx := Aside0.mk (Vx.out.below b.out)
          replace Vy := Aside0.mk (Vy.out.below b.out)
          replace Rm := Aside0.mk ((Rm.out).below b.out)
          replace HB := Aside0.mk (below_then HB.out HB.out.size b.out)
          clear b
          clear Rm
          go_wp2_with fail
          refine (awake_z _).mono ?_
          rintro e w16_ ⟨rfl, b⟩
          replace Va := Aside0.mk (Va.out.below b.out)
          replace Vb := Aside0.mk (Vb.out.below b.out)
          replace Vc := Aside0.mk (Vc.out.below b.out)
          replace Vd := Aside0.mk (Vd.out.below b.out)
          replace Vx := Aside0.mk (Vx.out.below b.out)
          replace Vy := Aside0.mk (Vy.out.below b.out)
          replace HB := Aside0.mk (below_then HB.out HB.out.size b.out)
          clear b
          go_wp2
          go_ret
          exact ⟨rfl, HB.out⟩
        · have g1 : decide (m < n) = false := decide_eq_false (by omega)
          have g2 : decide (n < m) = true := decide_eq_true hgt
          have g3 : ¬ m < n := by omega
          obtain ⟨cx0a, cx1a, cxla⟩ := Va.out.cells
          obtain ⟨cx0b, cx1b, cxlb⟩ := Vb.out.cells
          go_wp2_with fail
          refine (same_z a b (lim_le La.out (by omega)) _ _ _ _ _ (Va.out.rv) (Vb.out.rv) _ HVB.out).mono ?_
          rintro e w13_ ⟨rfl, b⟩
          clear cx0a cx1a cxla cx0b cx1b cxlb
          replace Va := Aside0.mk (Va.out.below b.out)
          replace Vb := Aside0.mk (Vb.out.below b.out)
          replace Vc := Aside0.mk (Vc.out.below b.out)
          replace Vd := Aside0.mk (Vd.out.below b.out)
          replace Vx := Aside0.mk (Vx.out.below b.out)
          replace Vy := Aside0.mk (Vy.out.below b.out)
          replace HB := Aside0.mk (below_then HB.out HB.out.size b.out)
          clear b
          go_wp2_with fail
          refine (of_z m HM.out.1 HM.out.2 _).mono ?_
          rintro e w14_ ⟨Am, cm, rfl, Rm, b⟩
          replace Va := Aside0.mk (Va.out.below b.out)
          replace Vb := Aside0.mk (Vb.out.below b.out)
          replace Vc := Aside0.mk (Vc.out.below b.out)
          replace Vd := Aside0.mk (Vd.out.below b.out)
          replace Vx := Aside0.mk (Vx.out.below b.out)
          replace Vy := Aside0.mk (Vy.out.below b.out)
          replace HB := Aside0.mk (below_then HB.out HB.out.size b.out)
          clear b
          go_wp2_with fail
          refine (small_z m (lim_le Lm.out (by omega)) HM.out.1 HM.out.2 _ _ _ Rm.out).mono ?_
          rintro e w15_ ⟨rfl, b⟩
          replace Va := Aside0.mk (Va.out.below b.out)
          replace Vb := Aside0.mk (Vb.out.below b.out)
          replace Vc := Aside0.mk (Vc.out.below b.out)
          replace Vd := Aside0.mk (Vd.out.below b.out)
          replace Vx := Aside0.mk (Vx.out.below b.out)
          replace Vy := Aside0.mk (Vy.out.below b.out)
          replace Rm := Aside0.mk ((Rm.out).below b.out)
          replace HB := Aside0.mk (below_then HB.out HB.out.size b.out)
          clear b
          clear Rm
          go_wp2_with fail
          refine (awake_z _).mono ?_
          rintro e w16_ ⟨rfl, b⟩
          replace Va := Aside0.mk (Va.out.below b.out)
          replace Vb := Aside0.mk (Vb.out.below b.out)
          replace Vc := Aside0.mk (Vc.out.below b.out)
          replace Vd := Aside0.mk (Vd.out.below b.out)
          replace Vx := Aside0.mk (Vx.out.below b.out)
          replace Vy := Aside0.mk (Vy.out.below b.out)
          replace HB := Aside0.mk (below_then HB.out HB.out.size b.out)
          clear b
          go_wp2
          go_ret
          exact ⟨rfl, HB.out⟩
    · by_cases hbc : p3 ≤ 0
      · have hac : p4 ≤ 0 := HT.out (by omega) hbc
        have hac1 : decide (0 < p4) = false := decide_eq_false (by omega)
        have hbc1 : decide (p3 ≤ 0) = true := decide_eq_true hbc
        rcases hmn with ⟨hlt, rfl⟩ | ⟨heq, rfl⟩ | ⟨hgt, rfl⟩
        · have g1 : decide (m < n) = true := decide_eq_true hlt
          obtain ⟨cx0a, cx1a, cxla⟩ := Va.out.cells
          obtain ⟨cx0b, cx1b, cxlb⟩ := Vb.out.cells
          go_wp2_with fail
          refine (same_z a b (lim_le La.out (by omega)) _ _ _ _ _ (Va.out.rv) (Vb.out.rv) _ HVB.out).mono ?_
          rintro e w13_ ⟨rfl, b⟩
          clear cx0a cx1a cxla cx0b cx1b cxlb
          replace Va := Aside0.mk (Va.out.below b.out)
          replace Vb := Aside0.mk (Vb.out.below b.out)
          replace Vc := Aside0.mk (Vc.out.below b.out)
          replace Vd := Aside0.mk (Vd.out.below b.out)
          replace Vx := Aside0.mk (Vx.out.below b.out)
          replace Vy := Aside0.mk (Vy.out.below b.out)
          replace HB := Aside0.mk (below_then HB.out HB.out.size b.out)
          clear b
          go_wp2_with fail
          refine (of_z m HM.out.1 HM.out.2 _).mono ?_
          rintro e w14_ ⟨Am, cm, rfl, Rm, b⟩
          replace Va := Aside0.mk (Va.out.below b.out)
          replace Vb := Aside0.mk (Vb.out.below b.out)
          replace Vc := Aside0.mk (Vc.out.below b.out)
          replace Vd := Aside0.mk (Vd.out.below b.out)
          replace Vx := Aside0.mk (Vx.out.below b.out)
          replace Vy := Aside0.mk (Vy.out.below b.out)
          replace HB := Aside0.mk (below_then HB.out HB.out.size b.out)
          clear b
          go_wp2_with fail
          refine (small_z m (lim_le Lm.out (by omega)) HM.out.1 HM.out.2 _ _ _ Rm.out).mono ?_
          rintro e w15_ ⟨rfl, b⟩
          replace Va := Aside0.mk (Va.out.below b.out)
          replace Vb := Aside0.mk (Vb.out.below b.out)
          replace Vc := Aside0.mk (Vc.out.below b.out)
          replace Vd := Aside0.mk (Vd.out.below b.out)
          replace Vx := Aside0.mk (Vx.out.below b.out)
          replace Vy := Aside0.mk (Vy.out.below b.out)
          replace Rm := Aside0.mk ((Rm.out).below b.out)
          replace HB := Aside0.mk (below_then HB.out HB.out.size b.out)
          clear b
          clear Rm
          go_wp2_with fail
          refine (awake_z _).mono ?_
          rintro e w16_ ⟨rfl, b⟩
          replace Va := Aside0.mk (Va.out.below b.out)
          replace Vb := Aside0.mk (Vb.out.below b.out)
          replace Vc := Aside0.mk (Vc.out.below b.out)
          replace Vd := Aside0.mk (Vd.out.below b.out)
          replace Vx := Aside0.mk (Vx.out.below b.out)
          replace Vy := Aside0.mk (Vy.out.below b.out)
          replace HB := Aside0.mk (below_then HB.out HB.out.size b.out)
          clear b
          go_wp2
          go_ret
          exact ⟨rfl, HB.out⟩
        · have g1 : decide (m < n) = false := decide_eq_false (by omega)
          have g2 : decide (n < m) = false := decide_eq_false (by omega)
          have g3 : ¬ m < n := by omega
          have g4 : ¬ n < m := by omega
          clear heq
          obtain ⟨cx0a, cx1a, cxla⟩ := Va.out.cells
          obtain ⟨cx0b, cx1b, cxlb⟩ := Vb.out.cells
          go_wp2_with fail
          refine (same_z a b (lim_le La.out (by omega)) _ _ _ _ _ (Va.out.rv) (Vb.out.rv) _ HVB.out).mono ?_
          rintro e w13_ ⟨rfl, b⟩
          clear cx0a cx1a cxla cx0b cx1b cxlb
          replace Va := Aside0.mk (Va.out.below b.out)
          replace Vb := Aside0.mk (Vb.out.below b.out)
          replace Vc := Aside0.mk (Vc.out.below b.out)
          replace Vd := Aside0.mk (Vd.out.below b.out)
          replace Vx := Aside0.mk (Vx.out.below b.out)
          replace Vy := Aside0.mk (Vy.out.below b.out)
          replace HB := Aside0.mk (below_then HB.out HB.out.size b.out)
          clear b
          go_wp2_with fail
          refine (of_z m HM.out.1 HM.out.2 _).mono ?_
          rintro e w14_ ⟨Am, cm, rfl, Rm, b⟩
          replace Va := Aside0.mk (Va.out.below b.out)
          replace Vb := Aside0.mk (Vb.out.below b.out)
          replace Vc := Aside0.mk (Vc.out.below b.out)
          replace Vd := Aside0.mk (Vd.out.below b.out)
          replace Vx := Aside0.mk (Vx.out.below b.out)
          replace Vy := Aside0.mk (Vy.out.below b.out)
          replace HB := Aside0.mk (below_then HB.out HB.out.size b.out)
          clear b
          go_wp2_with fail
          refine (small_z m (lim_le Lm.out (by omega)) HM.out.1 HM.out.2 _ _ _ Rm.out).mono ?_
          rintro e w15_ ⟨rfl, b⟩
          replace Va := Aside0.mk (Va.out.below b.out)
          replace Vb := Aside0.mk (Vb.out.below b.out)
          replace Vc := Aside0.mk (Vc.out.below b.out)
          replace Vd := Aside0.mk (Vd.out.below b.out)
          replace Vx := Aside0.mk (Vx.out.below b.out)
          replace Vy := Aside0.mk (Vy.out.below b.out)
          replace Rm := Aside0.mk ((Rm.out).below b.out)
          replace HB := Aside0.mk (below_then HB.out HB.out.size b.out)
          clear b
          clear Rm
          go_wp2_with fail
          refine (awake_z _).mono ?_
          rintro e w16_ ⟨rfl, b⟩
          replace Va := Aside0.mk (Va.out.below b.out)
          replace Vb := Aside0.mk (Vb.out.below b.out)
          replace Vc := Aside0.mk (Vc.out.below b.out)
          replace Vd := Aside0.mk (Vd.out.below b.out)
          replace Vx := Aside0.mk (Vx.out.below b.out)
          replace Vy := Aside0.mk (Vy.out.below b.out)
          replace HB := Aside0.mk (below_then HB.out HB.out.size b.out)
          clear b
          go_wp2
          go_ret
          exact ⟨rfl, HB.out⟩
        · have g1 : decide (m < n) = false := decide_eq_false (by omega)
          have g2 : decide (n < m) = true := decide_eq_true hgt
          have g3 : ¬ m < n := by omega
          obtain ⟨cx0a, cx1a, cxla⟩ := Va.out.cells
          obtain ⟨cx0b, cx1b, cxlb⟩ := Vb.out.cells
          go_wp2_with fail
          refine (same_z a b (lim_le La.out (by omega)) _ _ _ _ _ (Va.out.rv) (Vb.out.rv) _ HVB.out).mono ?_
          rintro e w13_ ⟨rfl, b⟩
          clear cx0a cx1a cxla cx0b cx1b cxlb
          replace Va := Aside0.mk (Va.out.below b.out)
          replace Vb := Aside0.mk (Vb.out.below b.out)
          replace Vc := Aside0.mk (Vc.out.below b.out)
          replace Vd := Aside0.mk (Vd.out.below b.out)
          replace Vx := Aside0.mk (Vx.out.below b.out)
          replace Vy := Aside0.mk (Vy.out.below b.out)
          replace HB := Aside0.mk (below_then HB.out HB.out.size b.out)
          clear b
          go_wp2_with fail
          refine (of_z m HM.out.1 HM.out.2 _).mono ?_
          rintro e w14_ ⟨Am, cm, rfl, Rm, b⟩
          replace Va := Aside0.mk (Va.out.below b.out)
          replace Vb := Aside0.mk (Vb.out.below b.out)
          replace Vc := Aside0.mk (Vc.out.below b.out)
          replace Vd := Aside0.mk (Vd.out.below b.out)
          replace Vx := Aside0.mk (Vx.out.below b.out)
          replace Vy := Aside0.mk (Vy.out.below b.out)
          replace HB := Aside0.mk (below_then HB.out HB.out.size b.out)
          clear b
          go_wp2_with fail
          refine (small_z m (lim_le Lm.out (by omega)) HM.out.1 HM.out.2 _ _ _ Rm.out).mono ?_
          rintro e w15_ ⟨rfl, b⟩
          replace Va := Aside0.mk (Va.out.below b.out)
          replace Vb := Aside0.mk (Vb.out.below b.out)
          replace Vc := Aside0.mk (Vc.out.below b.out)
          replace Vd := Aside0.mk (Vd.out.below b.out)
          replace Vx := Aside0.mk (Vx.out.below b.out)
          replace Vy := Aside0.mk (Vy.out.below b.out)
          replace Rm := Aside0.mk ((Rm.out).below b.out)
          replace HB := Aside0.mk (below_then HB.out HB.out.size b.out)
          clear b
          clear Rm
          go_wp2_with fail
          refine (awake_z _).mono ?_
          rintro e w16_ ⟨rfl, b⟩
          replace Va := Aside0.mk (Va.out.below b.out)
          replace Vb := Aside0.mk (Vb.out.below b.out)
          replace Vc := Aside0.mk (Vc.out.below b.out)
          replace Vd := Aside0.mk (Vd.out.below b.out)
          replace Vx := Aside0.mk (Vx.out.below b.out)
          replace Vy := Aside0.mk (Vy.out.below b.out)
          replace HB := Aside0.mk (below_then HB.out HB.out.size b.out)
          clear b
          go_wp2
          go_ret
          exact ⟨rfl, HB.out⟩
      · have hbc1 : decide (p3 ≤ 0) = false := decide_eq_false hbc
        rcases hmn with ⟨hlt, rfl⟩ | ⟨heq, rfl⟩ | ⟨hgt, rfl⟩
        · have g1 : decide (m < n) = true := decide_eq_true hlt
          obtain ⟨cx0a, cx1a, cxla⟩ := Va.out.cells
          obtain ⟨cx0b, cx1b, cxlb⟩ := Vb.out.cells
          go_wp2_with fail
          refine (same_z a b (lim_le La.out (by omega)) _ _ _ _ _ (Va.out.rv) (Vb.out.rv) _ HVB.out).mono ?_
          rintro e w13_ ⟨rfl, b⟩
          clear cx0a cx1a cxla cx0b cx1b cxlb
          replace Va := Aside0.mk (Va.out.below b.out)
          replace Vb := Aside0.mk (Vb.out.below b.out)
          replace Vc := Aside0.mk (Vc.out.below b.out)
          replace Vd := Aside0.mk (Vd.out.below b.out)
          replace Vx := Aside0.mk (Vx.out.below b.out)
          replace Vy := Aside0.mk (Vy.out.below b.out)
          replace HB := Aside0.mk (below_then HB.out HB.out.size b.out)
          clear b
          go_wp2_with fail
          refine (of_z m HM.out.1 HM.out.2 _).mono ?_
          rintro e w14_ ⟨Am, cm, rfl, Rm, b⟩
          replace Va := Aside0.mk (Va.out.below b.out)
          replace Vb := Aside0.mk (Vb.out.below b.out)
          replace Vc := Aside0.mk (Vc.out.below b.out)
          replace Vd := Aside0.mk (Vd.out.below b.out)
          replace Vx := Aside0.mk (Vx.out.below b.out)
          replace Vy := Aside0.mk (Vy.out.below b.out)
          replace HB := Aside0.mk (below_then HB.out HB.out.size b.out)
          clear b
          go_wp2_with fail
          refine (small_z m (lim_le Lm.out (by omega)) HM.out.1 HM.out.2 _ _ _ Rm.out).mono ?_
          rintro e w15_ ⟨rfl, b⟩
          replace Va := Aside0.mk (Va.out.below b.out)
          replace Vb := Aside0.mk (Vb.out.below b.out)
          replace Vc := Aside0.mk (Vc.out.below b.out)
          replace Vd := Aside0.mk (Vd.out.below b.out)
          replace Vx := Aside0.mk (Vx.out.below b.out)
          replace Vy := Aside0.mk (Vy.out.below b.out)
          replace Rm := Aside0.mk ((Rm.out).below b.out)
          replace HB := Aside0.mk (below_then HB.out HB.out.size b.out)
          clear b
          clear Rm
          go_wp2_with fail
          refine (awake_z _).mono ?_
          rintro e w16_ ⟨rfl, b⟩
          replace Va := Aside0.mk (Va.out.below b.out)
          replace Vb := Aside0.mk (Vb.out.below b.out)
          replace Vc := Aside0.mk (Vc.out.below b.out)
          replace Vd := Aside0.mk (Vd.out.below b.out)
          replace Vx := Aside0.mk (Vx.out.below b.out)
          replace Vy := Aside0.mk (Vy.out.below b.out)
          replace HB := Aside0.mk (below_then HB.out HB.out.size b.out)
          clear b
          go_wp2
          go_ret
          exact ⟨rfl, HB.out⟩
        · have g1 : decide (m < n) = false := decide_eq_false (by omega)
          have g2 : decide (n < m) = false := decide_eq_false (by omega)
          have g3 : ¬ m < n := by omega
          have g4 : ¬ n < m := by omega
          clear heq
          obtain ⟨cx0a, cx1a, cxla⟩ := Va.out.cells
          obtain ⟨cx0b, cx1b, cxlb⟩ := Vb.out.cells
          go_wp2_with fail
          refine (same_z a b (lim_le La.out (by omega)) _ _ _ _ _ (Va.out.rv) (Vb.out.rv) _ HVB.out).mono ?_
          rintro e w13_ ⟨rfl, b⟩
          clear cx0a cx1a cxla cx0b cx1b cxlb
          replace Va := Aside0.mk (Va.out.below b.out)
          replace Vb := Aside0.mk (Vb.out.below b.out)
          replace Vc := Aside0.mk (Vc.out.below b.out)
          replace Vd := Aside0.mk (Vd.out.below b.out)
          replace Vx := Aside0.mk (Vx.out.below b.out)
          replace Vy := Aside0.mk (Vy.out.below b.out)
          replace HB := Aside0.mk (below_then HB.out HB.out.size b.out)
          clear b
          go_wp2_with fail
          refine (of_z m HM.out.1 HM.out.2 _).mono ?_
          rintro e w14_ ⟨Am, cm, rfl, Rm, b⟩
          replace Va := Aside0.mk (Va.out.below b.out)
          replace Vb := Aside0.mk (Vb.out.below b.out)
          replace Vc := Aside0.mk (Vc.out.below b.out)
          replace Vd := Aside0.mk (Vd.out.below b.out)
          replace Vx := Aside0.mk (Vx.out.below b.out)
          replace Vy := Aside0.mk (Vy.out.below b.out)
          replace HB := Aside0.mk (below_then HB.out HB.out.size b.out)
          clear b
          go_wp2_with fail
          refine (small_z m (lim_le Lm.out (by omega)) HM.out.1 HM.out.2 _ _ _ Rm.out).mono ?_
          rintro e w15_ ⟨rfl, b⟩
          replace Va := Aside0.mk (Va.out.below b.out)
          replace Vb := Aside0.mk (Vb.out.below b.out)
          replace Vc := Aside0.mk (Vc.out.below b.out)
          replace Vd := Aside0.mk (Vd.out.below b.out)
          replace Vx := Aside0.mk (Vx.out.below b.out)
          replace Vy := Aside0.mk (Vy.out.below b.out)
          replace Rm := Aside0.mk ((Rm.out).below b.out)
          replace HB := Aside0.mk (below_then HB.out HB.out.size b.out)
          clear b
          clear Rm
          go_wp2_with fail
          refine (awake_z _).mono ?_
          rintro e w16_ ⟨rfl, b⟩
          replace Va := Aside0.mk (Va.out.below b.out)
          replace Vb := Aside0.mk (Vb.out.below b.out)
          replace Vc := Aside0.mk (Vc.out.below b.out)
          replace Vd := Aside0.mk (Vd.out.below b.out)
          replace Vx := Aside0.mk (Vx.out.below b.out)
          replace Vy := Aside0.mk (Vy.out.below b.out)
          replace HB := Aside0.mk (below_then HB.out HB.out.size b.out)
          clear b
          go_wp2
          go_ret
          exact ⟨rfl, HB.out⟩
        · have g1 : decide (m < n) = false := decide_eq_false (by omega)
          have g2 : decide (n < m) = true := decide_eq_true hgt
          have g3 : ¬ m < n := by omega
          obtain ⟨cx0a, cx1a, cxla⟩ := Va.out.cells
          obtain ⟨cx0b, cx1b, cxlb⟩ := Vb.out.cells
          go_wp2_with fail
          refine (same_z a b (lim_le La.out (by omega)) _ _ _ _ _ (Va.out.rv) (Vb.out.rv) _ HVB.out).mono ?_
          rintro e w13_ ⟨rfl, b⟩
          clear cx0a cx1a cxla cx0b cx1b cxlb
          replace Va := Aside0.mk (Va.out.below b.out)
          replace Vb := Aside0.mk (Vb.out.below b.out)
          replace Vc := Aside0.mk (Vc.out.below b.out)
          replace Vd := Aside0.mk (Vd.out.below b.out)
          replace Vx := Aside0.mk (Vx.out.below b.out)
          replace Vy := Aside0.mk (Vy.out.below b.out)
          replace HB := Aside0.mk (below_then HB.out HB.out.size b.out)
          clear b
          go_wp2_with fail
          refine (of_z m HM.out.1 HM.out.2 _).mono ?_
          rintro e w14_ ⟨Am, cm, rfl, Rm, b⟩
          replace Va := Aside0.mk (Va.out.below b.out)
          replace Vb := Aside0.mk (Vb.out.below b.out)
          replace Vc := Aside0.mk (Vc.out.below b.out)
          replace Vd := Aside0.mk (Vd.out.below b.out)
          replace Vx := Aside0.mk (Vx.out.below b.out)
          replace Vy := Aside0.mk (Vy.out.below b.out)
          replace HB := Aside0.mk (below_then HB.out HB.out.size b.out)
          clear b
          go_wp2_with fail
          refine (small_z m (lim_le Lm.out (by omega)) HM.out.1 HM.out.2 _ _ _ Rm.out).mono ?_
          rintro e w15_ ⟨rfl, b⟩
          replace Va := Aside0.mk (Va.out.below b.out)
          replace Vb := Aside0.mk (Vb.out.below b.out)
          replace Vc := Aside0.mk (Vc.out.below b.out)
          replace Vd := Aside0.mk (Vd.out.below b.out)
          replace Vx := Aside0.mk (Vx.out.below b.out)
          replace Vy := Aside0.mk (Vy.out.below b.out)
          replace Rm := Aside0.mk ((Rm.out).below b.out)
          replace HB := Aside0.mk (below_then HB.out HB.out.size b.out)
          clear b
          clear Rm
          go_wp2_with fail
          refine (awake_z _).mono ?_
          rintro e w16_ ⟨rfl, b⟩
          replace Va := Aside0.mk (Va.out.below b.out)
          replace Vb := Aside0.mk (Vb.out.below b.out)
          replace Vc := Aside0.mk (Vc.out.below b.out)
          replace Vd := Aside0.mk (Vd.out.below b.out)
          replace Vx := Aside0.mk (Vx.out.below b.out)
          replace Vy := Aside0.mk (Vy.out.below b.out)
          replace HB := Aside0.mk (below_then HB.out HB.out.size b.out)
          clear b
          go_wp2
          go_ret
          exact ⟨rfl, HB.out⟩
    · skip
      rcases hmn with ⟨hlt, rfl⟩ | ⟨heq, rfl⟩ | ⟨hgt, rfl⟩
      · have g1 : decide (m < n) = true := decide_eq_true hlt
        obtain ⟨cx0a, cx1a, cxla⟩ := Va.out.cells
        obtain ⟨cx0b, cx1b, cxlb⟩ := Vb.out.cells
        go_wp2_with fail
        refine (same_z a b (lim_le La.out (by omega)) _ _ _ _ _ (Va.out.rv) (Vb.out.rv) _ HVB.out).mono ?_
        rintro e w13_ ⟨rfl, b⟩
        clear cx0a cx1a cxla cx0b cx1b cxlb
        replace Va := Aside0.mk (Va.out.below b.out)
        replace Vb := Aside0.mk (Vb.out.below b.out)
        replace Vc := Aside0.mk (Vc.out.below b.out)
        replace Vd := Aside0.mk (Vd.out.below b.out)
        replace Vx := Aside0.mk (Vx.out.below b.out)
        replace Vy := Aside0.mk (Vy.out.below b.out)
        replace HB := Aside0.mk (below_then HB.out HB.out.size b.out)
        clear b
        go_wp2_with fail
        refine (of_z m HM.out.1 HM.out.2 _).mono ?_
        rintro e w14_ ⟨Am, cm, rfl, Rm, b⟩
        replace Va := Aside0.mk (Va.out.below b.out)
        replace Vb := Aside0.mk (Vb.out.below b.out)
        replace Vc := Aside0.mk (Vc.out.below b.out)
        replace Vd := Aside0.mk (Vd.out.below b.out)
        replace Vx := Aside0.mk (Vx.out.below b.out)
        replace Vy := Aside0.mk (Vy.out.below b.out)
        replace HB := Aside0.mk (below_then HB.out HB.out.size b.out)
        clear b
        go_wp2_with fail
        refine (small_z m (lim_le Lm.out (by omega)) HM.out.1 HM.out.2 _ _ _ Rm.out).mono ?_
        rintro e w15_ ⟨rfl, b⟩
        replace Va := Aside0.mk (Va.out.below b.out)
        replace Vb := Aside0.mk (Vb.out.below b.out)
        replace Vc := Aside0.mk (Vc.out.below b.out)
        replace Vd := Aside0.mk (Vd.out.below b.out)
        replace Vx := Aside0.mk (Vx.out.below b.out)
        replace Vy := Aside0.mk (Vy.out.below b.out)
        replace Rm := Aside0.mk ((Rm.out).below b.out)
        replace HB := Aside0.mk (below_then HB.out HB.out.size b.out)
        clear b
        clear Rm
        go_wp2_with fail
        refine (awake_z _).mono ?_
        rintro e w16_ ⟨rfl, b⟩
        replace Va := Aside0.mk (Va.out.below b.out)
        replace Vb := Aside0.mk (Vb.out.below b.out)
        replace Vc := Aside0.mk (Vc.out.below b.out)
        replace Vd := Aside0.mk (Vd.out.below b.out)
        replace Vx := Aside0.mk (Vx.out.below b.out)
        replace Vy := Aside0.mk (Vy.out.below b.out)
        replace HB := Aside0.mk (below_then HB.out HB.out.size b.out)
        clear b
        go_wp2
        go_ret
        exact ⟨rfl, HB.out⟩
      · have g1 : decide (m < n) = false := decide_eq_false (by omega)
        have g2 : decide (n < m) = false := decide_eq_false (by omega)
        have g3 : ¬ m < n := by omega
        have g4 : ¬ n < m := by omega
        clear heq
        obtain ⟨cx0a, cx1a, cxla⟩ := Va.out.cells
        obtain ⟨cx0b, cx1b, cxlb⟩ := Vb.out.cells
        go_wp2_with fail
        refine (same_z a b (lim_le La.out (by omega)) _ _ _ _ _ (Va.out.rv) (Vb.out.rv) _ HVB.out).mono ?_
        rintro e w13_ ⟨rfl, b⟩
        clear cx0a cx1a cxla cx0b cx1b cxlb
        replace Va := Aside0.mk (Va.out.below b.out)
        replace Vb := Aside0.mk (Vb.out.below b.out)
        replace Vc := Aside0.mk (Vc.out.below b.out)
        replace Vd := Aside0.mk (Vd.out.below b.out)
        replace Vx := Aside0.mk (Vx.out.below b.out)
        replace Vy := Aside0.mk (Vy.out.below b.out)
        replace HB := Aside0.mk (below_then HB.out HB.out.size b.out)
        clear b
        go_wp2_with fail
        refine (of_z m HM.out.1 HM.out.2 _).mono ?_
        rintro e w14_ ⟨Am, cm, rfl, Rm, b⟩
        replace Va := Aside0.mk (Va.out.below b.out)
        replace Vb := Aside0.mk (Vb.out.below b.out)
        replace Vc := Aside0.mk (Vc.out.below b.out)
        replace Vd := Aside0.mk (Vd.out.below b.out)
        replace Vx := Aside0.mk (Vx.out.below b.out)
        replace Vy := Aside0.mk (Vy.out.below b.out)
        replace HB := Aside0.mk (below_then HB.out HB.out.size b.out)
        clear b
        go_wp2_with fail
        refine (small_z m (lim_le Lm.out (by omega)) HM.out.1 HM.out.2 _ _ _ Rm.out).mono ?_
        rintro e w15_ ⟨rfl, b⟩
        replace Va := Aside0.mk (Va.out.below b.out)
        replace Vb := Aside0.mk (Vb.out.below b.out)
        replace Vc := Aside0.mk (Vc.out.below b.out)
        replace Vd := Aside0.mk (Vd.out.below b.out)
        replace Vx := Aside0.mk (Vx.out.below b.out)
        replace Vy := Aside0.mk (Vy.out.below b.out)
        replace Rm := Aside0.mk ((Rm.out).below b.out)
        replace HB := Aside0.mk (below_then HB.out HB.out.size b.out)
        clear b
        clear Rm
        go_wp2_with fail
        refine (awake_z _).mono ?_
        rintro e w16_ ⟨rfl, b⟩
        replace Va := Aside0.mk (Va.out.below b.out)
        replace Vb := Aside0.mk (Vb.out.below b.out)
        replace Vc := Aside0.mk (Vc.out.below b.out)
        replace Vd := Aside0.mk (Vd.out.below b.out)
        replace Vx := Aside0.mk (Vx.out.below b.out)
        replace Vy := Aside0.mk (Vy.out.below b.out)
        replace HB := Aside0.mk (below_then HB.out HB.out.size b.out)
        clear b
        go_wp2
        go_ret
        exact ⟨rfl, HB.out⟩
      · have g1 : decide (m < n) = false := decide_eq_false (by omega)
        have g2 : decide (n < m) = true := decide_eq_true hgt
        have g3 : ¬ m < n := by omega
        obtain ⟨cx0a, cx1a, cxla⟩ := Va.out.cells
        obtain ⟨cx0b, cx1b, cxlb⟩ := Vb.out.cells
        go_wp2_with fail
        refine (same_z a b (lim_le La.out (by omega)) _ _ _ _ _ (Va.out.rv) (Vb.out.rv) _ HVB.out).mono ?_
        rintro e w13_ ⟨rfl, b⟩
        clear cx0a cx1a cxla cx0b cx1b cxlb
        replace Va := Aside0.mk (Va.out.below b.out)
        replace Vb := Aside0.mk (Vb.out.below b.out)
        replace Vc := Aside0.mk (Vc.out.below b.out)
        replace Vd := Aside0.mk (Vd.out.below b.out)
        replace Vx := Aside0.mk (Vx.out.below b.out)
        replace Vy := Aside0.mk (Vy.out.below b.out)
        replace HB := Aside0.mk (below_then HB.out HB.out.size b.out)
        clear b
        go_wp2_with fail
        refine (of_z m HM.out.1 HM.out.2 _).mono ?_
        rintro e w14_ ⟨Am, cm, rfl, Rm, b⟩
        replace Va := Aside0.mk (Va.out.below b.out)
        replace Vb := Aside0.mk (Vb.out.below b.out)
        replace Vc := Aside0.mk (Vc.out.below b.out)
        replace Vd := Aside0.mk (Vd.out.below b.out)
        replace Vx := Aside0.mk (Vx.out.below b.out)
        replace Vy := Aside0.mk (Vy.out.below b.out)
        replace HB := Aside0.mk (below_then HB.out HB.out.size b.out)
        clear b
        go_wp2_with fail
        refine (small_z m (lim_le Lm.out (by omega)) HM.out.1 HM.out.2 _ _ _ Rm.out).mono ?_
        rintro e w15_ ⟨rfl, b⟩
        replace Va := Aside0.mk (Va.out.below b.out)
        replace Vb := Aside0.mk (Vb.out.below b.out)
        replace Vc := Aside0.mk (Vc.out.below b.out)
        replace Vd := Aside0.mk (Vd.out.below b.out)
        replace Vx := Aside0.mk (Vx.out.below b.out)
        replace Vy := Aside0.mk (Vy.out.below b.out)
        replace Rm := Aside0.mk ((Rm.out).below b.out)
        replace HB := Aside0.mk (below_then HB.out HB.out.size b.out)
        clear b
        clear Rm
        go_wp2_with fail
        refine (awake_z _).mono ?_
        rintro e w16_ ⟨rfl, b⟩
        replace Va := Aside0.mk (Va.out.below b.out)
        replace Vb := Aside0.mk (Vb.out.below b.out)
        replace Vc := Aside0.mk (Vc.out.below b.out)
        replace Vd := Aside0.mk (Vd.out.below b.out)
        replace Vx := Aside0.mk (Vx.out.below b.out)
        replace Vy := Aside0.mk (Vy.out.below b.out)
        replace HB := Aside0.mk (below_then HB.out HB.out.size b.out)
        clear b
        go_wp2
        go_ret
        exact ⟨rfl, HB.out⟩
end Go.Proofs.Ytlcjnahfahobjaa.Lb
