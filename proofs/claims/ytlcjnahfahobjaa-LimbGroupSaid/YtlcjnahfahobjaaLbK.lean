/- limb: LimbGroup. -/
import Derived.Test.YtlcjnahfahobjaaLbRh
namespace Go.Proofs.Ytlcjnahfahobjaa.Lb
open Go.RowKit Go.Proofs.YtlcjnahfahobjaaW.PrintWords Go.Proofs.YtlcjnahfahobjaaW.PrintLast Go.Proofs.YtlcjnahfahobjaaW.PrintMore
set_option linter.unusedVariables false
set_option linter.unusedSimpArgs false

set_option maxRecDepth 100000 in
set_option maxHeartbeats 8000000 in
theorem group_c (s1 : Bool) (P1 : Option Addr) (q1 : Nat) (l1 : List Int) (hq1 : l1.length ≤ q1) (ho1 : okL l1) (hm1 : l1.length < 17592186044416) (s2 : Bool) (P2 : Option Addr) (q2 : Nat) (l2 : List Int) (hq2 : l2.length ≤ q2) (ho2 : okL l2) (hm2 : l2.length < 17592186044416) (s3 : Bool) (P3 : Option Addr) (q3 : Nat) (l3 : List Int) (hq3 : l3.length ≤ q3) (ho3 : okL l3) (hm3 : l3.length < 17592186044416) (w : World) (hr1 : u64.C w P1 l1.length l1) (hr2 : u64.C w P2 l2.length l2) (hr3 : u64.C w P3 l3.length l3) :
    Calls Try.prog 4 #[.agg #[.bool s1, .slice P1 l1.length q1], .agg #[.bool s2, .slice P2 l2.length q2], .agg #[.bool s3, .slice P3 l3.length q3]] w fun e w' => e = .returned (.bool true) ∧ Below w.heap.size w w' := by
  have hu := Try.underlying24
  have hu2 := Try.underlying35
  have hus := Try.underlying22
  have H1 := Aside0.mk (((WB.new s1 q1 rfl hr1).alloc (.cells #[.bool s2, .slice P2 l2.length q2] 35)).alloc (.cells #[.bool s3, .slice P3 l3.length q3] 35))
  have H2 := Aside0.mk ((WB.new (g := w.heap.size + 1) s2 q2 (by simp) (Kd.C_alloc hr2 (.cells #[.bool s1, .slice P1 l1.length q1] 35))).alloc (.cells #[.bool s3, .slice P3 l3.length q3] 35))
  have H3 := Aside0.mk (WB.new (g := w.heap.size + 2) s3 q3 (by simp) (Kd.C_alloc (Kd.C_alloc hr3 (.cells #[.bool s1, .slice P1 l1.length q1] 35)) (.cells #[.bool s2, .slice P2 l2.length q2] 35)))
  have HB := Aside0.mk (((Below.refl w.heap.size w).alloc (Nat.le_refl _) (.cells #[.bool s1, .slice P1 l1.length q1] 35)).alloc (by simp) (.cells #[.bool s2, .slice P2 l2.length q2] 35) |>.alloc (by simp; omega) (.cells #[.bool s3, .slice P3 l3.length q3] 35))
  clear hr1 hr2 hr3
  go_enter Try.func4, Try.ntmps4
  go_upto_region 1 with fail
  go_cut [7, 8, 9] (fun y1 y2 y3 wx => Cut3 w (zW s1 l1 60) (zW s2 l2 60) (zW s3 l3 60) y1 y2 y3 wx)
  case first =>
    obtain ⟨W0, hW0⟩ : ∃ W0, (((w.alloc (.cells #[.bool s1, .slice P1 l1.length q1] 35)).alloc (.cells #[.bool s2, .slice P2 l2.length q2] 35)).alloc (.cells #[.bool s3, .slice P3 l3.length q3] 35)) = W0 := ⟨_, rfl⟩
    rw [hW0] at H1 H2 H3 HB ⊢
    clear hW0
    have hS : (fun w' : World => WB w' w.heap.size s1 P1 q1 l1 ∧ WB w' (w.heap.size + 1) s2 P2 q2 l2 ∧ WB w' (w.heap.size + 2) s3 P3 q3 l3) W0 := ⟨H1.out, H2.out, H3.out⟩
    have hSd : (fun w' : World => WB w' w.heap.size s1 P1 q1 l1 ∧ WB w' (w.heap.size + 1) s2 P2 q2 l2 ∧ WB w' (w.heap.size + 2) s3 P3 q3 l3) W0.drew := ⟨H1.out.drew, H2.out.drew, H3.out.drew⟩
    refine start_ (ds := [9, 10, 11]) (S := (fun w' : World => WB w' w.heap.size s1 P1 q1 l1 ∧ WB w' (w.heap.size + 1) s2 P2 q2 l2 ∧ WB w' (w.heap.size + 2) s3 P3 q3 l3)) #[false, false, false, false, false, false, false, false, false, false, false, false] (by kernel_rfl) rfl (by kernel_rfl) hSd (fun _ => ?_)
    refine take_ (i := 0) (v := (.agg #[.bool s1, .slice P1 l1.length q1])) #[true, false, false, false, false, false, false, false, false, false, false, false] rfl rfl (by kernel_rfl) (fun _ _ _ h => h) (Or.inl ⟨by rfl, fun wq hx => ?_⟩) hSd rfl ?_
    · obtain ⟨pc0, pc1, pcl⟩ := hx.1.cells
      go_simp
    refine take_ (i := 2) (v := (.agg #[.bool s2, .slice P2 l2.length q2])) #[true, false, true, false, false, false, false, false, false, false, false, false] rfl rfl (by kernel_rfl) (fun _ _ _ h => h) (Or.inl ⟨by rfl, fun wq hx => ?_⟩) hSd rfl ?_
    · obtain ⟨pc0, pc1, pcl⟩ := hx.2.1.cells
      go_simp
    refine take_ (i := 4) (v := (.agg #[.bool s3, .slice P3 l3.length q3])) #[true, false, true, false, true, false, false, false, false, false, false, false] rfl rfl (by kernel_rfl) (fun _ _ _ h => h) (Or.inl ⟨by rfl, fun wq hx => ?_⟩) hSd rfl ?_
    · obtain ⟨pc0, pc1, pcl⟩ := hx.2.2.cells
      go_simp
    refine region3 (fun w' : World => WB w' w.heap.size s1 P1 q1 l1 ∧ WB w' (w.heap.size + 1) s2 P2 q2 l2 ∧ WB w' (w.heap.size + 2) s3 P3 q3 l3) (fun wa wb hx hb => ⟨hx.1.below hb, hx.2.1.below hb, hx.2.2.below hb⟩) w (zW s1 l1 60) (zW s2 l2 60) (zW s3 l3 60) 20 #[(.agg #[.bool s1, .slice P1 l1.length q1]), .int .i64 60] #[(.agg #[.bool s2, .slice P2 l2.length q2]), .int .i64 60] #[(.agg #[.bool s3, .slice P3 l3.length q3]), .int .i64 60] (fun y1 y2 y3 y4 y5 y6 => { tmps := #[(.agg #[.bool s1, .slice P1 l1.length q1]), (.agg #[.bool s2, .slice P2 l2.length q2]), (.agg #[.bool s3, .slice P3 l3.length q3]), .pointer (some ⟨w.heap.size, 0, none⟩), .pointer (some ⟨w.heap.size + 1, 0, none⟩), .pointer (some ⟨w.heap.size + 2, 0, none⟩), .bool false, y4, y5, y6, undef, undef, undef, undef, undef, undef, undef, undef, undef, undef, undef, undef, undef, undef, undef, undef, undef, undef, undef, undef, undef, undef, (.agg #[.bool s1, .slice P1 l1.length q1]), y1, (.agg #[.bool s2, .slice P2 l2.length q2]), y2, (.agg #[.bool s3, .slice P3 l3.length q3]), y3, undef, undef, undef, undef, undef, undef, undef, undef, undef, undef, undef, undef, undef, undef, undef, undef, undef, undef, undef, undef, undef, undef, undef, undef, undef, undef, undef, undef, undef, undef, undef, undef, undef, undef, undef, undef, undef, undef, undef, undef, undef, undef, undef, undef, undef, undef, undef, undef, undef, undef, undef, undef, undef, undef, undef, undef, undef, undef, undef, undef, undef, undef, undef, undef, undef, undef, undef, undef, undef, undef, undef, undef, undef, undef, undef, undef, undef, undef, undef, undef, undef, undef, undef, undef, undef, undef, undef, undef, undef, undef, undef, undef, undef, undef, undef, undef, undef, undef, undef, undef, undef, undef, undef, undef, undef, undef, undef, undef, undef, undef, undef, undef, undef, undef, undef, undef, undef, undef, undef, undef, undef, undef, undef, undef, undef, undef, undef, undef, undef], defers := [] }) (by rfl) (fun _ _ _ _ _ _ => by rfl) (by rfl) (fun _ _ _ _ _ _ => by rfl) (by rfl) (fun _ _ _ _ _ _ => by rfl) (by rfl) (fun _ _ _ _ _ _ => by rfl) (by rfl) (fun _ _ _ _ _ _ => by rfl) (by rfl) (fun _ _ _ _ _ _ => by rfl) (by rfl) (fun _ _ _ _ _ _ => by rfl) (by rfl) (fun _ _ _ _ _ _ => by rfl) (by rfl) (fun _ _ _ _ _ _ => by rfl) (fun _ _ _ _ _ _ _ => by rfl) (fun _ _ _ _ _ _ _ => by rfl) (fun _ _ _ _ _ _ _ => by rfl) (fun _ _ _ _ _ _ _ => by rfl) (fun _ _ _ _ _ _ _ => by rfl) (fun _ _ _ _ _ _ _ => by rfl) (fun _ _ _ _ _ _ wq => by have he := enters_ Try.func20 (by kernel_rfl) rfl #[(.agg #[.bool s1, .slice P1 l1.length q1]), .int .i64 60] wq; unfold execOp; simp [resolve, Deferred.ofValue, invoke, Act.eval, he]) (fun wq hx => whole_n s1 P1 q1 l1 60 hq1 ho1 hm1 (by omega) wq hx.1.reads) (fun _ _ _ _ _ _ wq => by have he := enters_ Try.func20 (by kernel_rfl) rfl #[(.agg #[.bool s2, .slice P2 l2.length q2]), .int .i64 60] wq; unfold execOp; simp [resolve, Deferred.ofValue, invoke, Act.eval, he]) (fun wq hx => whole_n s2 P2 q2 l2 60 hq2 ho2 hm2 (by omega) wq hx.2.1.reads) (fun _ _ _ _ _ _ wq => by have he := enters_ Try.func20 (by kernel_rfl) rfl #[(.agg #[.bool s3, .slice P3 l3.length q3]), .int .i64 60] wq; unfold execOp; simp [resolve, Deferred.ofValue, invoke, Act.eval, he]) (fun wq hx => whole_n s3 P3 q3 l3 60 hq3 ho3 hm3 (by omega) wq hx.2.2.reads) (fun _ _ _ _ _ _ wq => by go_simp) (fun _ _ _ _ _ _ wq => by go_simp) (fun _ _ _ _ _ _ wq => by go_simp) (fun B d g _ _ _ _ wq hk => by obtain ⟨c0, c1, f0, f1, zl⟩ := two_cells (Below.refl wq.heap.size wq) hk; go_simp) rfl (fun B d g _ _ _ _ wq hk => by obtain ⟨c0, c1, f0, f1, zl⟩ := two_cells (Below.refl wq.heap.size wq) hk; go_simp) rfl (fun B d g _ _ _ _ wq hk => by obtain ⟨c0, c1, f0, f1, zl⟩ := two_cells (Below.refl wq.heap.size wq) hk; go_simp) rfl (by decide +kernel) (by kernel_rfl) (by kernel_rfl) (by kernel_rfl) ?_ 6 none none none none none none _ (fun h => h) (fun h => h) rfl ⟨hSd, HB.out.drew, (fun _ _ h => by cases h), (fun _ _ h => by cases h), (fun _ _ h => by cases h), (fun _ h => by cases h), by simp [gl]⟩
    intro B1 d1 B2 d2 B3 d3 g1 g2 g3 w' hC
    dsimp only [numV]
    go_wp2_with fail
    go_meet
    exact hC
  case rest =>
    obtain ⟨ga, Aa, ca, gb, Ab, cb, gc, Ac, cc, rfl, rfl, rfl, Va, Vb, Vc, HB⟩ := hcut
    clear H1 H2 H3
    rename_i wx
    have La := Aside0.mk (zW_lim s1 l1 60 ho1)
    have Lb := Aside0.mk (zW_lim s2 l2 60 ho2)
    have Lc := Aside0.mk (zW_lim s3 l3 60 ho3)
    generalize zW s1 l1 60 = a at *
    generalize zW s2 l2 60 = b at *
    generalize zW s3 l3 60 = c at *
    obtain ⟨zd, hz⟩ : ∃ z, a + b = z := ⟨_, rfl⟩
    have Ed := Aside0.mk hz
    have Ld : Aside0 (lim 61 zd) := ⟨by rw [← hz]; exact lim_add La.out Lb.out⟩
    clear hz
    obtain ⟨ze, hz⟩ : ∃ z, b + a = z := ⟨_, rfl⟩
    have Ee := Aside0.mk hz
    have Le : Aside0 (lim 61 ze) := ⟨by rw [← hz]; exact lim_add Lb.out La.out⟩
    clear hz
    obtain ⟨zf, hz⟩ : ∃ z, b + c = z := ⟨_, rfl⟩
    have Ef := Aside0.mk hz
    have Lf : Aside0 (lim 61 zf) := ⟨by rw [← hz]; exact lim_add Lb.out Lc.out⟩
    clear hz
    obtain ⟨zg, hz⟩ : ∃ z, zd + c = z := ⟨_, rfl⟩
    have Eg := Aside0.mk hz
    have Lg : Aside0 (lim 62 zg) := ⟨by rw [← hz]; exact lim_add Ld.out (lim_le Lc.out (by omega))⟩
    clear hz
    obtain ⟨zh, hz⟩ : ∃ z, a + zf = z := ⟨_, rfl⟩
    have Eh := Aside0.mk hz
    have Lh : Aside0 (lim 62 zh) := ⟨by rw [← hz]; exact lim_add (lim_le La.out (by omega)) Lf.out⟩
    clear hz
    obtain ⟨zi, hz⟩ : ∃ z, zd - b = z := ⟨_, rfl⟩
    have Ei := Aside0.mk hz
    have Li : Aside0 (lim 62 zi) := ⟨by rw [← hz]; exact lim_sub Ld.out (lim_le Lb.out (by omega))⟩
    clear hz
    obtain ⟨zj, hz⟩ : ∃ z, -zd = z := ⟨_, rfl⟩
    have Ej := Aside0.mk hz
    have Lj : Aside0 (lim 61 zj) := ⟨by rw [← hz]; exact lim_neg Ld.out⟩
    clear hz
    obtain ⟨zk, hz⟩ : ∃ z, -a = z := ⟨_, rfl⟩
    have Ek := Aside0.mk hz
    have Lk : Aside0 (lim 60 zk) := ⟨by rw [← hz]; exact lim_neg La.out⟩
    clear hz
    obtain ⟨zm, hz⟩ : ∃ z, zk - b = z := ⟨_, rfl⟩
    have Em := Aside0.mk hz
    have Lm : Aside0 (lim 61 zm) := ⟨by rw [← hz]; exact lim_sub Lk.out Lb.out⟩
    clear hz
    obtain ⟨zn, hz⟩ : ∃ z, a + zk = z := ⟨_, rfl⟩
    have En := Aside0.mk hz
    have Ln : Aside0 (lim 61 zn) := ⟨by rw [← hz]; exact lim_add La.out Lk.out⟩
    clear hz
    obtain ⟨zo, hz⟩ : ∃ z, a - a = z := ⟨_, rfl⟩
    have Eo := Aside0.mk hz
    have Lo : Aside0 (lim 61 zo) := ⟨by rw [← hz]; exact lim_sub La.out La.out⟩
    clear hz
    obtain ⟨cx0a, cx1a, cxla⟩ := Va.out.cells
    obtain ⟨cx0b, cx1b, cxlb⟩ := Vb.out.cells
    go_wp2_with fail
    refine (add_zv a b zd Ed (lim_le La.out (by omega)) (lim_le Lb.out (by omega)) (lim_le Ld.out (by omega)) _ _ _ _ _ (Va.out.rv) (Vb.out.rv)).mono ?_
    rintro e w1_ ⟨Ad, cd, rfl, Rd, b⟩
    clear cx0a cx1a cxla cx0b cx1b cxlb
    replace Va := Aside0.mk (Va.out.below b.out)
    replace Vb := Aside0.mk (Vb.out.below b.out)
    replace Vc := Aside0.mk (Vc.out.below b.out)
    replace HB := Aside0.mk (below_then HB.out HB.out.size b.out)
    clear b
    have Vd := Aside0.mk (BV.new Rd.out)
    clear Rd
    obtain ⟨cx0b, cx1b, cxlb⟩ := Vb.out.cells
    obtain ⟨cx0a, cx1a, cxla⟩ := Va.out.cells
    go_wp2_with fail
    refine (add_zv b a ze Ee (lim_le Lb.out (by omega)) (lim_le La.out (by omega)) (lim_le Le.out (by omega)) _ _ _ _ _ (Vb.out.alloc _).rv (Va.out.alloc _).rv).mono ?_
    rintro e w2_ ⟨Ae, ce, rfl, Re, b⟩
    clear cx0b cx1b cxlb cx0a cx1a cxla
    replace Va := Aside0.mk ((Va.out.alloc _).below b.out)
    replace Vb := Aside0.mk ((Vb.out.alloc _).below b.out)
    replace Vc := Aside0.mk ((Vc.out.alloc _).below b.out)
    replace Vd := Aside0.mk (Vd.out.below b.out)
    replace HB := Aside0.mk (below_then HB.out HB.out.size (((Below.refl w1_.heap.size w1_).alloc (Nat.le_refl _) _).trans (b.out.mono (by simp))))
    clear b
    have Ve := Aside0.mk (BV.new Re.out)
    clear Re
    obtain ⟨cx0b, cx1b, cxlb⟩ := Vb.out.cells
    obtain ⟨cx0c, cx1c, cxlc⟩ := Vc.out.cells
    go_wp2_with fail
    refine (add_zv b c zf Ef (lim_le Lb.out (by omega)) (lim_le Lc.out (by omega)) (lim_le Lf.out (by omega)) _ _ _ _ _ (Vb.out.alloc _).rv (Vc.out.alloc _).rv).mono ?_
    rintro e w3_ ⟨Af, cf, rfl, Rf, b⟩
    clear cx0b cx1b cxlb cx0c cx1c cxlc
    replace Va := Aside0.mk ((Va.out.alloc _).below b.out)
    replace Vb := Aside0.mk ((Vb.out.alloc _).below b.out)
    replace Vc := Aside0.mk ((Vc.out.alloc _).below b.out)
    replace Vd := Aside0.mk ((Vd.out.alloc _).below b.out)
    replace Ve := Aside0.mk (Ve.out.below b.out)
    replace HB := Aside0.mk (below_then HB.out HB.out.size (((Below.refl w2_.heap.size w2_).alloc (Nat.le_refl _) _).trans (b.out.mono (by simp))))
    clear b
    have Vf := Aside0.mk (BV.new Rf.out)
    clear Rf
    obtain ⟨cx0d, cx1d, cxld⟩ := Vd.out.cells
    obtain ⟨cx0c, cx1c, cxlc⟩ := Vc.out.cells
    go_wp2_with fail
    refine (add_zv zd c zg Eg (lim_le Ld.out (by omega)) (lim_le Lc.out (by omega)) (lim_le Lg.out (by omega)) _ _ _ _ _ (Vd.out.alloc _).rv (Vc.out.alloc _).rv).mono ?_
    rintro e w4_ ⟨Ag, cg, rfl, Rg, b⟩
    clear cx0d cx1d cxld cx0c cx1c cxlc
    replace Va := Aside0.mk ((Va.out.alloc _).below b.out)
    replace Vb := Aside0.mk ((Vb.out.alloc _).below b.out)
    replace Vc := Aside0.mk ((Vc.out.alloc _).below b.out)
    replace Vd := Aside0.mk ((Vd.out.alloc _).below b.out)
    replace Ve := Aside0.mk ((Ve.out.alloc _).below b.out)
    replace Vf := Aside0.mk (Vf.out.below b.out)
    replace HB := Aside0.mk (below_then HB.out HB.out.size (((Below.refl w3_.heap.size w3_).alloc (Nat.le_refl _) _).trans (b.out.mono (by simp))))
    clear b
    have Vg := Aside0.mk (BV.new Rg.out)
    clear Rg
    obtain ⟨cx0a, cx1a, cxla⟩ := Va.out.cells
    obtain ⟨cx0f, cx1f, cxlf⟩ := Vf.out.cells
    go_wp2_with fail
    refine (add_zv a zf zh Eh (lim_le La.out (by omega)) (lim_le Lf.out (by omega)) (lim_le Lh.out (by omega)) _ _ _ _ _ (Va.out.alloc _).rv (Vf.out.alloc _).rv).mono ?_
    rintro e w5_ ⟨Ah, ch, rfl, Rh, b⟩
    clear cx0a cx1a cxla cx0f cx1f cxlf
    replace Va := Aside0.mk ((Va.out.alloc _).below b.out)
    replace Vb := Aside0.mk ((Vb.out.alloc _).below b.out)
    replace Vc := Aside0.mk ((Vc.out.alloc _).below b.out)
    replace Vd := Aside0.mk ((Vd.out.alloc _).below b.out)
    replace Ve := Aside0.mk ((Ve.out.alloc _).below b.out)
    replace Vf := Aside0.mk ((Vf.out.alloc _).below b.out)
    replace Vg := Aside0.mk (Vg.out.below b.out)
    replace HB := Aside0.mk (below_then HB.out HB.out.size (((Below.refl w4_.heap.size w4_).alloc (Nat.le_refl _) _).trans (b.out.mono (by simp))))
    clear b
    have Vh := Aside0.mk (BV.new Rh.out)
    clear Rh
    obtain ⟨cx0d, cx1d, cxld⟩ := Vd.out.cells
    obtain ⟨cx0b, cx1b, cxlb⟩ := Vb.out.cells
    go_wp2_with fail
    refine (sub_zv zd b zi Ei (lim_le Ld.out (by omega)) (lim_le Lb.out (by omega)) (lim_le Li.out (by omega)) _ _ _ _ _ (Vd.out.alloc _).rv (Vb.out.alloc _).rv).mono ?_
    rintro e w6_ ⟨Ai, ci, rfl, Ri, b⟩
    clear cx0d cx1d cxld cx0b cx1b cxlb
    replace Va := Aside0.mk ((Va.out.alloc _).below b.out)
    replace Vb := Aside0.mk ((Vb.out.alloc _).below b.out)
    replace Vc := Aside0.mk ((Vc.out.alloc _).below b.out)
    replace Vd := Aside0.mk ((Vd.out.alloc _).below b.out)
    replace Ve := Aside0.mk ((Ve.out.alloc _).below b.out)
    replace Vf := Aside0.mk ((Vf.out.alloc _).below b.out)
    replace Vg := Aside0.mk ((Vg.out.alloc _).below b.out)
    replace Vh := Aside0.mk (Vh.out.below b.out)
    replace HB := Aside0.mk (below_then HB.out HB.out.size (((Below.refl w5_.heap.size w5_).alloc (Nat.le_refl _) _).trans (b.out.mono (by simp))))
    clear b
    have Vi := Aside0.mk (BV.new Ri.out)
    clear Ri
    obtain ⟨cx0d, cx1d, cxld⟩ := Vd.out.cells
    go_wp2_with fail
    refine (neg_zv zd zj Ej (lim_le Ld.out (by omega)) _ _ _ (Vd.out.alloc _).rv).mono ?_
    rintro e w7_ ⟨Aj, cj, rfl, Rj, b⟩
    clear cx0d cx1d cxld
    replace Va := Aside0.mk ((Va.out.alloc _).below b.out)
    replace Vb := Aside0.mk ((Vb.out.alloc _).below b.out)
    replace Vc := Aside0.mk ((Vc.out.alloc _).below b.out)
    replace Vd := Aside0.mk ((Vd.out.alloc _).below b.out)
    replace Ve := Aside0.mk ((Ve.out.alloc _).below b.out)
    replace Vf := Aside0.mk ((Vf.out.alloc _).below b.out)
    replace Vg := Aside0.mk ((Vg.out.alloc _).below b.out)
    replace Vh := Aside0.mk ((Vh.out.alloc _).below b.out)
    replace Vi := Aside0.mk (Vi.out.below b.out)
    replace HB := Aside0.mk (below_then HB.out HB.out.size (((Below.refl w6_.heap.size w6_).alloc (Nat.le_refl _) _).trans (b.out.mono (by simp))))
    clear b
    have Vj := Aside0.mk (BV.new Rj.out)
    clear Rj
    obtain ⟨cx0a, cx1a, cxla⟩ := Va.out.cells
    go_wp2_with fail
    refine (neg_zv a zk Ek (lim_le La.out (by omega)) _ _ _ (Va.out.alloc _).rv).mono ?_
    rintro e w8_ ⟨Ak, ck, rfl, Rk, b⟩
    clear cx0a cx1a cxla
    replace Va := Aside0.mk ((Va.out.alloc _).below b.out)
    replace Vb := Aside0.mk ((Vb.out.alloc _).below b.out)
    replace Vc := Aside0.mk ((Vc.out.alloc _).below b.out)
    replace Vd := Aside0.mk ((Vd.out.alloc _).below b.out)
    replace Ve := Aside0.mk ((Ve.out.alloc _).below b.out)
    replace Vf := Aside0.mk ((Vf.out.alloc _).below b.out)
    replace Vg := Aside0.mk ((Vg.out.alloc _).below b.out)
    replace Vh := Aside0.mk ((Vh.out.alloc _).below b.out)
    replace Vi := Aside0.mk ((Vi.out.alloc _).below b.out)
    replace Vj := Aside0.mk (Vj.out.below b.out)
    replace HB := Aside0.mk (below_then HB.out HB.out.size (((Below.refl w7_.heap.size w7_).alloc (Nat.le_refl _) _).trans (b.out.mono (by simp))))
    clear b
    have Vk := Aside0.mk (BV.new Rk.out)
    clear Rk
    obtain ⟨cx0b, cx1b, cxlb⟩ := Vb.out.cells
    go_wp2_with fail
    refine (sub_zv zk b zm Em (lim_le Lk.out (by omega)) (lim_le Lb.out (by omega)) (lim_le Lm.out (by omega)) _ _ _ _ _ (Vk.out.rv) (Vb.out.alloc _).rv).mono ?_
    rintro e w9_ ⟨Am, cm, rfl, Rm, b⟩
    clear cx0b cx1b cxlb
    replace Va := Aside0.mk ((Va.out.alloc _).below b.out)
    replace Vb := Aside0.mk ((Vb.out.alloc _).below b.out)
    replace Vc := Aside0.mk ((Vc.out.alloc _).below b.out)
    replace Vd := Aside0.mk ((Vd.out.alloc _).below b.out)
    replace Ve := Aside0.mk ((Ve.out.alloc _).below b.out)
    replace Vf := Aside0.mk ((Vf.out.alloc _).below b.out)
    replace Vg := Aside0.mk ((Vg.out.alloc _).below b.out)
    replace Vh := Aside0.mk ((Vh.out.alloc _).below b.out)
    replace Vi := Aside0.mk ((Vi.out.alloc _).below b.out)
    replace Vj := Aside0.mk ((Vj.out.alloc _).below b.out)
    replace Vk := Aside0.mk (Vk.out.below b.out)
    replace HB := Aside0.mk (below_then HB.out HB.out.size (((Below.refl w8_.heap.size w8_).alloc (Nat.le_refl _) _).trans (b.out.mono (by simp))))
    clear b
    have Vm := Aside0.mk (BV.new Rm.out)
    clear Rm
    obtain ⟨cx0a, cx1a, cxla⟩ := Va.out.cells
    obtain ⟨cx0k, cx1k, cxlk⟩ := Vk.out.cells
    go_wp2_with fail
    refine (add_zv a zk zn En (lim_le La.out (by omega)) (lim_le Lk.out (by omega)) (lim_le Ln.out (by omega)) _ _ _ _ _ (Va.out.alloc _).rv (Vk.out.alloc _).rv).mono ?_
    rintro e w10_ ⟨An, cn, rfl, Rn, b⟩
    clear cx0a cx1a cxla cx0k cx1k cxlk
    replace Va := Aside0.mk ((Va.out.alloc _).below b.out)
    replace Vb := Aside0.mk ((Vb.out.alloc _).below b.out)
    replace Vc := Aside0.mk ((Vc.out.alloc _).below b.out)
    replace Vd := Aside0.mk ((Vd.out.alloc _).below b.out)
    replace Ve := Aside0.mk ((Ve.out.alloc _).below b.out)
    replace Vf := Aside0.mk ((Vf.out.alloc _).below b.out)
    replace Vg := Aside0.mk ((Vg.out.alloc _).below b.out)
    replace Vh := Aside0.mk ((Vh.out.alloc _).below b.out)
    replace Vi := Aside0.mk ((Vi.out.alloc _).below b.out)
    replace Vj := Aside0.mk ((Vj.out.alloc _).below b.out)
    replace Vk := Aside0.mk ((Vk.out.alloc _).below b.out)
    replace Vm := Aside0.mk (Vm.out.below b.out)
    replace HB := Aside0.mk (below_then HB.out HB.out.size (((Below.refl w9_.heap.size w9_).alloc (Nat.le_refl _) _).trans (b.out.mono (by simp))))
    clear b
    have Vn := Aside0.mk (BV.new Rn.out)
    clear Rn
    obtain ⟨cx0a, cx1a, cxla⟩ := Va.out.cells
    go_wp2_with fail
    refine (sub_zv a a zo Eo (lim_le La.out (by omega)) (lim_le La.out (by omega)) (lim_le Lo.out (by omega)) _ _ _ _ _ (Va.out.alloc _).rv (Va.out.alloc _).rv).mono ?_
    rintro e w11_ ⟨Ao, co, rfl, Ro, b⟩
    clear cx0a cx1a cxla
    replace Va := Aside0.mk ((Va.out.alloc _).below b.out)
    replace Vb := Aside0.mk ((Vb.out.alloc _).below b.out)
    replace Vc := Aside0.mk ((Vc.out.alloc _).below b.out)
    replace Vd := Aside0.mk ((Vd.out.alloc _).below b.out)
    replace Ve := Aside0.mk ((Ve.out.alloc _).below b.out)
    replace Vf := Aside0.mk ((Vf.out.alloc _).below b.out)
    replace Vg := Aside0.mk ((Vg.out.alloc _).below b.out)
    replace Vh := Aside0.mk ((Vh.out.alloc _).below b.out)
    replace Vi := Aside0.mk ((Vi.out.alloc _).below b.out)
    replace Vj := Aside0.mk ((Vj.out.alloc _).below b.out)
    replace Vk := Aside0.mk ((Vk.out.alloc _).below b.out)
    replace Vm := Aside0.mk ((Vm.out.alloc _).below b.out)
    replace Vn := Aside0.mk (Vn.out.below b.out)
    replace HB := Aside0.mk (below_then HB.out HB.out.size (((Below.refl w10_.heap.size w10_).alloc (Nat.le_refl _) _).trans (b.out.mono (by simp))))
    clear b
    have Vo := Aside0.mk (BV.new Ro.out)
    clear Ro
    obtain ⟨cx0d, cx1d, cxld⟩ := Vd.out.cells
    obtain ⟨cx0e, cx1e, cxle⟩ := Ve.out.cells
    go_wp2_with fail
    refine (same_z zd ze (lim_le Ld.out (by omega)) _ _ _ _ _ (Vd.out.alloc _).rv (Ve.out.alloc _).rv true (decide_eq_true (by have := Ed.out; have := Ee.out; have := Ef.out; have := Eg.out; have := Eh.out; have := Ei.out; have := Ej.out; have := Ek.out; have := Em.out; have := En.out; have := Eo.out; omega))).mono ?_
    rintro e w12_ ⟨rfl, b⟩
    clear cx0d cx1d cxld cx0e cx1e cxle
    replace Va := Aside0.mk ((Va.out.alloc _).below b.out)
    replace Vb := Aside0.mk ((Vb.out.alloc _).below b.out)
    replace Vc := Aside0.mk ((Vc.out.alloc _).below b.out)
    replace Vd := Aside0.mk ((Vd.out.alloc _).below b.out)
    replace Ve := Aside0.mk ((Ve.out.alloc _).below b.out)
    replace Vf := Aside0.mk ((Vf.out.alloc _).below b.out)
    replace Vg := Aside0.mk ((Vg.out.alloc _).below b.out)
    replace Vh := Aside0.mk ((Vh.out.alloc _).below b.out)
    replace Vi := Aside0.mk ((Vi.out.alloc _).below b.out)
    replace Vj := Aside0.mk ((Vj.out.alloc _).below b.out)
    replace Vk := Aside0.mk ((Vk.out.alloc _).below b.out)
    replace Vm := Aside0.mk ((Vm.out.alloc _).below b.out)
    replace Vn := Aside0.mk ((Vn.out.alloc _).below b.out)
    replace Vo := Aside0.mk (Vo.out.below b.out)
    replace HB := Aside0.mk (below_then HB.out HB.out.size (((Below.refl w11_.heap.size w11_).alloc (Nat.le_refl _) _).trans (b.out.mono (by simp))))
    clear b
    obtain ⟨cx0g, cx1g, cxlg⟩ := Vg.out.cells
    obtain ⟨cx0h, cx1h, cxlh⟩ := Vh.out.cells
    go_wp2_with fail
    refine (same_z zg zh (lim_le Lg.out (by omega)) _ _ _ _ _ (Vg.out.rv) (Vh.out.rv) true (decide_eq_true (by have := Ed.out; have := Ee.out; have := Ef.out; have := Eg.out; have := Eh.out; have := Ei.out; have := Ej.out; have := Ek.out; have := Em.out; have := En.out; have := Eo.out; omega))).mono ?_
    rintro e w13_ ⟨rfl, b⟩
    clear cx0g cx1g cxlg cx0h cx1h cxlh
    replace Va := Aside0.mk (Va.out.below b.out)
    replace Vb := Aside0.mk (Vb.out.below b.out)
    replace Vc := Aside0.mk (Vc.out.below b.out)
    replace Vd := Aside0.mk (Vd.out.below b.out)
    replace Ve := Aside0.mk (Ve.out.below b.out)
    replace Vf := Aside0.mk (Vf.out.below b.out)
    replace Vg := Aside0.mk (Vg.out.below b.out)
    replace Vh := Aside0.mk (Vh.out.below b.out)
    replace Vi := Aside0.mk (Vi.out.below b.out)
    replace Vj := Aside0.mk (Vj.out.below b.out)
    replace Vk := Aside0.mk (Vk.out.below b.out)
    replace Vm := Aside0.mk (Vm.out.below b.out)
    replace Vn := Aside0.mk (Vn.out.below b.out)
    replace Vo := Aside0.mk (Vo.out.below b.out)
    replace HB := Aside0.mk (below_then HB.out HB.out.size b.out)
    clear b
    obtain ⟨cx0i, cx1i, cxli⟩ := Vi.out.cells
    obtain ⟨cx0a, cx1a, cxla⟩ := Va.out.cells
    go_wp2_with fail
    refine (same_z zi a (lim_le Li.out (by omega)) _ _ _ _ _ (Vi.out.rv) (Va.out.rv) true (decide_eq_true (by have := Ed.out; have := Ee.out; have := Ef.out; have := Eg.out; have := Eh.out; have := Ei.out; have := Ej.out; have := Ek.out; have := Em.out; have := En.out; have := Eo.out; omega))).mono ?_
    rintro e w14_ ⟨rfl, b⟩
    clear cx0i cx1i cxli cx0a cx1a cxla
    replace Va := Aside0.mk (Va.out.below b.out)
    replace Vb := Aside0.mk (Vb.out.below b.out)
    replace Vc := Aside0.mk (Vc.out.below b.out)
    replace Vd := Aside0.mk (Vd.out.below b.out)
    replace Ve := Aside0.mk (Ve.out.below b.out)
    replace Vf := Aside0.mk (Vf.out.below b.out)
    replace Vg := Aside0.mk (Vg.out.below b.out)
    replace Vh := Aside0.mk (Vh.out.below b.out)
    replace Vi := Aside0.mk (Vi.out.below b.out)
    replace Vj := Aside0.mk (Vj.out.below b.out)
    replace Vk := Aside0.mk (Vk.out.below b.out)
    replace Vm := Aside0.mk (Vm.out.below b.out)
    replace Vn := Aside0.mk (Vn.out.below b.out)
    replace Vo := Aside0.mk (Vo.out.below b.out)
    replace HB := Aside0.mk (below_then HB.out HB.out.size b.out)
    clear b
    obtain ⟨cx0j, cx1j, cxlj⟩ := Vj.out.cells
    obtain ⟨cx0m, cx1m, cxlm⟩ := Vm.out.cells
    go_wp2_with fail
    refine (same_z zj zm (lim_le Lj.out (by omega)) _ _ _ _ _ (Vj.out.rv) (Vm.out.rv) true (decide_eq_true (by have := Ed.out; have := Ee.out; have := Ef.out; have := Eg.out; have := Eh.out; have := Ei.out; have := Ej.out; have := Ek.out; have := Em.out; have := En.out; have := Eo.out; omega))).mono ?_
    rintro e w15_ ⟨rfl, b⟩
    clear cx0j cx1j cxlj cx0m cx1m cxlm
    replace Va := Aside0.mk (Va.out.below b.out)
    replace Vb := Aside0.mk (Vb.out.below b.out)
    replace Vc := Aside0.mk (Vc.out.below b.out)
    replace Vd := Aside0.mk (Vd.out.below b.out)
    replace Ve := Aside0.mk (Ve.out.below b.out)
    replace Vf := Aside0.mk (Vf.out.below b.out)
    replace Vg := Aside0.mk (Vg.out.below b.out)
    replace Vh := Aside0.mk (Vh.out.below b.out)
    replace Vi := Aside0.mk (Vi.out.below b.out)
    replace Vj := Aside0.mk (Vj.out.below b.out)
    replace Vk := Aside0.mk (Vk.out.below b.out)
    replace Vm := Aside0.mk (Vm.out.below b.out)
    replace Vn := Aside0.mk (Vn.out.below b.out)
    replace Vo := Aside0.mk (Vo.out.below b.out)
    replace HB := Aside0.mk (below_then HB.out HB.out.size b.out)
    clear b
    obtain ⟨cx0d, cx1d, cxld⟩ := Vd.out.cells
    go_wp2_with fail
    refine (right_z zd (lim_le Ld.out (by omega)) _ _ _ (Vd.out.rv)).mono ?_
    rintro e w16_ ⟨rfl, b⟩
    clear cx0d cx1d cxld
    replace Va := Aside0.mk (Va.out.below b.out)
    replace Vb := Aside0.mk (Vb.out.below b.out)
    replace Vc := Aside0.mk (Vc.out.below b.out)
    replace Vd := Aside0.mk (Vd.out.below b.out)
    replace Ve := Aside0.mk (Ve.out.below b.out)
    replace Vf := Aside0.mk (Vf.out.below b.out)
    replace Vg := Aside0.mk (Vg.out.below b.out)
    replace Vh := Aside0.mk (Vh.out.below b.out)
    replace Vi := Aside0.mk (Vi.out.below b.out)
    replace Vj := Aside0.mk (Vj.out.below b.out)
    replace Vk := Aside0.mk (Vk.out.below b.out)
    replace Vm := Aside0.mk (Vm.out.below b.out)
    replace Vn := Aside0.mk (Vn.out.below b.out)
    replace Vo := Aside0.mk (Vo.out.below b.out)
    replace HB := Aside0.mk (below_then HB.out HB.out.size b.out)
    clear b
    obtain ⟨cx0g, cx1g, cxlg⟩ := Vg.out.cells
    go_wp2_with fail
    refine (right_z zg (lim_le Lg.out (by omega)) _ _ _ (Vg.out.rv)).mono ?_
    rintro e w17_ ⟨rfl, b⟩
    clear cx0g cx1g cxlg
    replace Va := Aside0.mk (Va.out.below b.out)
    replace Vb := Aside0.mk (Vb.out.below b.out)
    replace Vc := Aside0.mk (Vc.out.below b.out)
    replace Vd := Aside0.mk (Vd.out.below b.out)
    replace Ve := Aside0.mk (Ve.out.below b.out)
    replace Vf := Aside0.mk (Vf.out.below b.out)
    replace Vg := Aside0.mk (Vg.out.below b.out)
    replace Vh := Aside0.mk (Vh.out.below b.out)
    replace Vi := Aside0.mk (Vi.out.below b.out)
    replace Vj := Aside0.mk (Vj.out.below b.out)
    replace Vk := Aside0.mk (Vk.out.below b.out)
    replace Vm := Aside0.mk (Vm.out.below b.out)
    replace Vn := Aside0.mk (Vn.out.below b.out)
    replace Vo := Aside0.mk (Vo.out.below b.out)
    replace HB := Aside0.mk (below_then HB.out HB.out.size b.out)
    clear b
    obtain ⟨cx0n, cx1n, cxln⟩ := Vn.out.cells
    go_wp2_with fail
    refine (same_z0 zn (lim_le Ln.out (by omega)) _ _ _ (Vn.out.rv) true (decide_eq_true (by have := Ed.out; have := Ee.out; have := Ef.out; have := Eg.out; have := Eh.out; have := Ei.out; have := Ej.out; have := Ek.out; have := Em.out; have := En.out; have := Eo.out; omega))).mono ?_
    rintro e w18_ ⟨rfl, b⟩
    clear cx0n cx1n cxln
    replace Va := Aside0.mk (Va.out.below b.out)
    replace Vb := Aside0.mk (Vb.out.below b.out)
    replace Vc := Aside0.mk (Vc.out.below b.out)
    replace Vd := Aside0.mk (Vd.out.below b.out)
    replace Ve := Aside0.mk (Ve.out.below b.out)
    replace Vf := Aside0.mk (Vf.out.below b.out)
    replace Vg := Aside0.mk (Vg.out.below b.out)
    replace Vh := Aside0.mk (Vh.out.below b.out)
    replace Vi := Aside0.mk (Vi.out.below b.out)
    replace Vj := Aside0.mk (Vj.out.below b.out)
    replace Vk := Aside0.mk (Vk.out.below b.out)
    replace Vm := Aside0.mk (Vm.out.below b.out)
    replace Vn := Aside0.mk (Vn.out.below b.out)
    replace Vo := Aside0.mk (Vo.out.below b.out)
    replace HB := Aside0.mk (below_then HB.out HB.out.size b.out)
    clear b
    obtain ⟨cx0o, cx1o, cxlo⟩ := Vo.out.cells
    go_wp2_with fail
    refine (same_z0 zo (lim_le Lo.out (by omega)) _ _ _ (Vo.out.rv) true (decide_eq_true (by have := Ed.out; have := Ee.out; have := Ef.out; have := Eg.out; have := Eh.out; have := Ei.out; have := Ej.out; have := Ek.out; have := Em.out; have := En.out; have := Eo.out; omega))).mono ?_
    rintro e w19_ ⟨rfl, b⟩
    clear cx0o cx1o cxlo
    replace Va := Aside0.mk (Va.out.below b.out)
    replace Vb := Aside0.mk (Vb.out.below b.out)
    replace Vc := Aside0.mk (Vc.out.below b.out)
    replace Vd := Aside0.mk (Vd.out.below b.out)
    replace Ve := Aside0.mk (Ve.out.below b.out)
    replace Vf := Aside0.mk (Vf.out.below b.out)
    replace Vg := Aside0.mk (Vg.out.below b.out)
    replace Vh := Aside0.mk (Vh.out.below b.out)
    replace Vi := Aside0.mk (Vi.out.below b.out)
    replace Vj := Aside0.mk (Vj.out.below b.out)
    replace Vk := Aside0.mk (Vk.out.below b.out)
    replace Vm := Aside0.mk (Vm.out.below b.out)
    replace Vn := Aside0.mk (Vn.out.below b.out)
    replace Vo := Aside0.mk (Vo.out.below b.out)
    replace HB := Aside0.mk (below_then HB.out HB.out.size b.out)
    clear b
    go_wp2_with fail
    refine (awake_z _).mono ?_
    rintro e w20_ ⟨rfl, b⟩
    replace Va := Aside0.mk (Va.out.below b.out)
    replace Vb := Aside0.mk (Vb.out.below b.out)
    replace Vc := Aside0.mk (Vc.out.below b.out)
    replace Vd := Aside0.mk (Vd.out.below b.out)
    replace Ve := Aside0.mk (Ve.out.below b.out)
    replace Vf := Aside0.mk (Vf.out.below b.out)
    replace Vg := Aside0.mk (Vg.out.below b.out)
    replace Vh := Aside0.mk (Vh.out.below b.out)
    replace Vi := Aside0.mk (Vi.out.below b.out)
    replace Vj := Aside0.mk (Vj.out.below b.out)
    replace Vk := Aside0.mk (Vk.out.below b.out)
    replace Vm := Aside0.mk (Vm.out.below b.out)
    replace Vn := Aside0.mk (Vn.out.below b.out)
    replace Vo := Aside0.mk (Vo.out.below b.out)
    replace HB := Aside0.mk (below_then HB.out HB.out.size b.out)
    clear b
    go_wp2
    go_ret
    exact ⟨rfl, HB.out⟩
end Go.Proofs.Ytlcjnahfahobjaa.Lb
