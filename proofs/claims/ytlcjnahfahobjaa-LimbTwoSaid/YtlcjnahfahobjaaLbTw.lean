/- limb: LimbTwo: the walk. -/
import Derived.Test.YtlcjnahfahobjaaLbKi
import Derived.Test.YtlcjnahfahobjaaLbPc
import Derived.Test.YtlcjnahfahobjaaLbX
import Derived.Test.YtlcjnahfahobjaaLbJ
namespace Go.Proofs.Ytlcjnahfahobjaa.Lb
open Go.RowKit Go.Proofs.YtlcjnahfahobjaaW.PrintWords Go.Proofs.YtlcjnahfahobjaaW.PrintLast Go.Proofs.YtlcjnahfahobjaaW.PrintMore
set_option linter.unusedVariables false
set_option linter.unusedSimpArgs false

theorem add_t (s t : Bool) (A1 A2 : Option Addr) (c1 c2 : Nat) (l m : List Int) (r1 : Bool) (r2 : List Int) (r3 : Int) (hr : addS s l t m = (r1, r2, r3)) (h1 : l.length ≤ c1) (h2 : m.length ≤ c2) (hl : okL l) (hm : okL m) (bl : l.length ≤ 17592186043904) (bm : m.length ≤ 17592186043904) (w : World) (a1 : u64.C w A1 l.length l) (a2 : u64.C w A2 m.length m) :
    Calls Try.prog 13 #[.agg #[.bool s, .slice A1 l.length c1], .agg #[.bool t, .slice A2 m.length c2]] w (OutT w r1 r2 r3) :=
  (add_c s t A1 A2 c1 c2 l m h1 h2 hl hm (by omega) (by omega) w a1 a2).mono fun e w' h => outT_V hr h
theorem sub_t (s t : Bool) (A1 A2 : Option Addr) (c1 c2 : Nat) (l m : List Int) (r1 : Bool) (r2 : List Int) (r3 : Int) (hr : subS s l t m = (r1, r2, r3)) (h1 : l.length ≤ c1) (h2 : m.length ≤ c2) (hl : okL l) (hm : okL m) (bl : l.length ≤ 17592186043904) (bm : m.length ≤ 17592186043904) (w : World) (a1 : u64.C w A1 l.length l) (a2 : u64.C w A2 m.length m) :
    Calls Try.prog 15 #[.agg #[.bool s, .slice A1 l.length c1], .agg #[.bool t, .slice A2 m.length c2]] w (OutT w r1 r2 r3) :=
  (sub_c s t A1 A2 c1 c2 l m h1 h2 hl hm (by omega) (by omega) w a1 a2).mono fun e w' h => outT_V hr h
theorem refAdd_t (s t : Bool) (A1 A2 : Option Addr) (c1 c2 : Nat) (l m : List Int) (r1 : Bool) (r2 : List Int) (r3 : Int) (hr : addS s l t m = (r1, r2, r3)) (h1 : l.length ≤ c1) (h2 : m.length ≤ c2) (hl : okL l) (hm : okL m) (bl : l.length ≤ 17592186043904) (bm : m.length ≤ 17592186043904) (w : World) (a1 : u64.C w A1 l.length l) (a2 : u64.C w A2 m.length m) :
    Calls Try.prog 14 #[.agg #[.bool s, .slice A1 l.length c1], .agg #[.bool t, .slice A2 m.length c2]] w (OutT w r1 r2 r3) :=
  (PD.rosetteref13_Add.calls 50000001 s A1 c1 l t A2 c2 m r1 r2 r3 w a1 h1 a2 h2 ((refAdd_f s t l m hl hm (by omega) (by omega)).trans (congrArg some hr))).mono fun e w' h => outT_R h
theorem refSub_t (s t : Bool) (A1 A2 : Option Addr) (c1 c2 : Nat) (l m : List Int) (r1 : Bool) (r2 : List Int) (r3 : Int) (hr : subS s l t m = (r1, r2, r3)) (h1 : l.length ≤ c1) (h2 : m.length ≤ c2) (hl : okL l) (hm : okL m) (bl : l.length ≤ 17592186043904) (bm : m.length ≤ 17592186043904) (w : World) (a1 : u64.C w A1 l.length l) (a2 : u64.C w A2 m.length m) :
    Calls Try.prog 16 #[.agg #[.bool s, .slice A1 l.length c1], .agg #[.bool t, .slice A2 m.length c2]] w (OutT w r1 r2 r3) :=
  (PD.rosetteref13_Sub.calls 50000001 s A1 c1 l t A2 c2 m r1 r2 r3 w a1 h1 a2 h2 ((refSub_f s t l m hl hm (by omega) (by omega)).trans (congrArg some hr))).mono fun e w' h => outT_R h
theorem cmp_t (s t : Bool) (A1 A2 : Option Addr) (c1 c2 : Nat) (l m : List Int) (r1 r2 : Int) (hr : cmpS s l t m = (r1, r2)) (h1 : l.length ≤ c1) (h2 : m.length ≤ c2) (hl : okL l) (hm : okL m) (bl : l.length ≤ 17592186043904) (bm : m.length ≤ 17592186043904) (w : World) (a1 : u64.C w A1 l.length l) (a2 : u64.C w A2 m.length m) :
    Calls Try.prog 11 #[.agg #[.bool s, .slice A1 l.length c1], .agg #[.bool t, .slice A2 m.length c2]] w (OutP w (.tuple #[.int .i64 r1, .int .i64 r2])) := by
  obtain ⟨k, hk⟩ := cmp_f s t l m hl hm (by omega) (by omega)
  exact (PC.limb_Cmp.calls k s A1 c1 l t A2 c2 m r1 r2 w a1 h1 a2 h2 (hk.trans (congrArg some hr))).mono fun e w' h => ⟨h.1, ⟨h.2⟩⟩
theorem refCmp_t (s t : Bool) (A1 A2 : Option Addr) (c1 c2 : Nat) (l m : List Int) (r1 r2 : Int) (hr : cmpS s l t m = (r1, r2)) (h1 : l.length ≤ c1) (h2 : m.length ≤ c2) (hl : okL l) (hm : okL m) (bl : l.length ≤ 17592186043904) (bm : m.length ≤ 17592186043904) (w : World) (a1 : u64.C w A1 l.length l) (a2 : u64.C w A2 m.length m) :
    Calls Try.prog 12 #[.agg #[.bool s, .slice A1 l.length c1], .agg #[.bool t, .slice A2 m.length c2]] w (OutP w (.tuple #[.int .i64 r1, .int .i64 r2])) :=
  (PD.rosetteref13_Cmp.calls 50000001 s A1 c1 l t A2 c2 m r1 r2 w a1 h1 a2 h2 ((refCmp_f s t l m hl hm (by omega) (by omega)).trans (congrArg some hr))).mono fun e w' h => ⟨h.1, ⟨h.2⟩⟩
theorem toldS_le (s : Bool) (n : Nat) : (toldS s n).2.1.length ≤ 4096 := by
  unfold toldS
  split
  · simp
  · split
    · simp
    · simp; omega
theorem addS_len (s t : Bool) (l m : List Int) : (addS s l t m).2.1.length ≤ 4096 := by
  unfold addS
  split
  · exact toldS_le _ _
  · simp
theorem subS_len (s t : Bool) (l m : List Int) : (subS s l t m).2.1.length ≤ 4096 := by
  unfold subS
  split
  · exact toldS_le _ _
  · simp
set_option maxRecDepth 100000 in
set_option maxHeartbeats 8000000 in
theorem two_c (s1 : Bool) (P1 : Option Addr) (q1 : Nat) (l1 : List Int) (hq1 : l1.length ≤ q1) (ho1 : okL l1) (hm1 : l1.length ≤ 17592186043904) (s2 : Bool) (P2 : Option Addr) (q2 : Nat) (l2 : List Int) (hq2 : l2.length ≤ q2) (ho2 : okL l2) (hm2 : l2.length ≤ 17592186043904) (w : World) (hr1 : u64.C w P1 l1.length l1) (hr2 : u64.C w P2 l2.length l2) :
    Calls Try.prog 3 #[.agg #[.bool s1, .slice P1 l1.length q1], .agg #[.bool s2, .slice P2 l2.length q2]] w fun e w' => e = .returned (.bool true) ∧ Below w.heap.size w w' := by
  have hu := Try.underlying24
  have hus := Try.underlying22
  have Va := Aside0.mk ((NV.new (g := w.heap.size) s1 l1.length q1 rfl (Nat.le_refl _) hq1 hr1).alloc (.cells #[.bool s2, .slice P2 l2.length q2] 24))
  have Vb := Aside0.mk (NV.new (g := w.heap.size + 1) s2 l2.length q2 (by simp) (Nat.le_refl _) hq2 (Kd.C_alloc hr2 (.cells #[.bool s1, .slice P1 l1.length q1] 24)))
  have HB := Aside0.mk (((Below.refl w.heap.size w).alloc (Nat.le_refl _) (.cells #[.bool s1, .slice P1 l1.length q1] 24)).alloc (by simp) (.cells #[.bool s2, .slice P2 l2.length q2] 24))
  clear hr1 hr2
  obtain ⟨⟨c1, c2⟩, hcc⟩ : ∃ p, cmpS s1 l1 s2 l2 = p := ⟨_, rfl⟩
  obtain ⟨⟨a1, a2, a3⟩, haa⟩ : ∃ p, addS s1 l1 s2 l2 = p := ⟨_, rfl⟩
  obtain ⟨⟨d1, d2, d3⟩, hdd⟩ : ∃ p, subS s1 l1 s2 l2 = p := ⟨_, rfl⟩
  have hal : a2.length ≤ 17592186043904 := by have := addS_len s1 s2 l1 l2; rw [haa] at this; simp only at this; omega
  have hdl : d2.length ≤ 17592186043904 := by have := subS_len s1 s2 l1 l2; rw [hdd] at this; simp only at this; omega
  have HCC := Aside0.mk hcc
  have HAA := Aside0.mk haa
  have HDD := Aside0.mk hdd
  have HAL := Aside0.mk hal
  have HDL := Aside0.mk hdl
  clear hcc haa hdd hal hdl
  go_enter Try.func3, Try.ntmps3
  go_upto_region 1 with fail
  obtain ⟨W1, hW1⟩ : ∃ W1, ((w.alloc (.cells #[.bool s1, .slice P1 l1.length q1] 24)).alloc (.cells #[.bool s2, .slice P2 l2.length q2] 24)) = W1 := ⟨_, rfl⟩
  rw [hW1] at Va Vb HB ⊢
  have HW1 : Aside0 (W1.heap.size = w.heap.size + 2) := ⟨by rw [← hW1]; simp⟩
  clear hW1
  go_cut [5, 6] (fun y1 y2 wx => Cut2 W1 s1 l1 s2 l2 y1 y2 wx)
  case first =>
    have hS : (fun w' : World => NV w' w.heap.size s1 P1 l1.length q1 l1 ∧ NV w' (w.heap.size + 1) s2 P2 l2.length q2 l2) W1 := ⟨Va.out, Vb.out⟩
    have hSd : (fun w' : World => NV w' w.heap.size s1 P1 l1.length q1 l1 ∧ NV w' (w.heap.size + 1) s2 P2 l2.length q2 l2) W1.drew := ⟨Va.out.drew, Vb.out.drew⟩
    refine start_ (ds := [6, 7]) (S := (fun w' : World => NV w' w.heap.size s1 P1 l1.length q1 l1 ∧ NV w' (w.heap.size + 1) s2 P2 l2.length q2 l2)) #[false, false, false, false, false, false, false, false] (by kernel_rfl) rfl (by kernel_rfl) hSd (fun _ => ?_)
    refine take_ (i := 0) (v := (.agg #[.bool s1, .slice P1 l1.length q1])) #[true, false, false, false, false, false, false, false] rfl rfl (by kernel_rfl) (fun _ _ _ h => h) (Or.inl ⟨by rfl, fun wq hx => ?_⟩) hSd rfl ?_
    · obtain ⟨pc0, pc1, pcl⟩ := hx.1.cells
      go_simp
    refine take_ (i := 2) (v := (.agg #[.bool s2, .slice P2 l2.length q2])) #[true, false, true, false, false, false, false, false] rfl rfl (by kernel_rfl) (fun _ _ _ h => h) (Or.inl ⟨by rfl, fun wq hx => ?_⟩) hSd rfl ?_
    · obtain ⟨pc0, pc1, pcl⟩ := hx.2.cells
      go_simp
    refine region2 (fun w' : World => NV w' w.heap.size s1 P1 l1.length q1 l1 ∧ NV w' (w.heap.size + 1) s2 P2 l2.length q2 l2) (fun wa wb hx hb => ⟨hx.1.below hb, hx.2.below hb⟩) W1 s1 s2 l1 l2 10 #[(.agg #[.bool s1, .slice P1 l1.length q1])] #[(.agg #[.bool s2, .slice P2 l2.length q2])] (fun y1 y2 y3 y4 => { tmps := #[(.agg #[.bool s1, .slice P1 l1.length q1]), (.agg #[.bool s2, .slice P2 l2.length q2]), .pointer (some ⟨w.heap.size, 0, none⟩), .pointer (some ⟨w.heap.size + 1, 0, none⟩), .bool false, y3, y4, undef, undef, undef, undef, undef, undef, undef, undef, undef, undef, undef, undef, (.agg #[.bool s1, .slice P1 l1.length q1]), y1, (.agg #[.bool s2, .slice P2 l2.length q2]), y2, undef, undef, undef, undef, undef, undef, undef, undef, undef, undef, undef, undef, undef, undef, undef, undef, undef, undef, undef, undef, undef, undef, undef, undef, undef, undef, undef, undef, undef, undef, undef, undef, undef, undef, undef, undef, undef, undef, undef, undef, undef, undef, undef, undef, undef, undef, undef, undef, undef, undef, undef, undef, undef, undef, undef, undef, undef, undef, undef, undef, undef, undef, undef, undef, undef, undef, undef, undef, undef, undef, undef], defers := [] }) (by rfl) (fun _ _ _ _ => by rfl) (by rfl) (fun _ _ _ _ => by rfl) (by rfl) (fun _ _ _ _ => by rfl) (by rfl) (fun _ _ _ _ => by rfl) (by rfl) (fun _ _ _ _ => by rfl) (by rfl) (fun _ _ _ _ => by rfl) (fun _ _ _ _ _ => by rfl) (fun _ _ _ _ _ => by rfl) (fun _ _ _ _ _ => by rfl) (fun _ _ _ _ _ => by rfl) (fun _ _ _ _ wq => by have he := enters_ Try.func10 (by kernel_rfl) rfl #[(.agg #[.bool s1, .slice P1 l1.length q1])] wq; unfold execOp; simp [resolve, Deferred.ofValue, invoke, Act.eval, he]) (fun wq hx => lentI_c s1 P1 q1 l1 hq1 hm1 wq hx.1.all) (fun _ _ _ _ wq => by have he := enters_ Try.func10 (by kernel_rfl) rfl #[(.agg #[.bool s2, .slice P2 l2.length q2])] wq; unfold execOp; simp [resolve, Deferred.ofValue, invoke, Act.eval, he]) (fun wq hx => lentI_c s2 P2 q2 l2 hq2 hm2 wq hx.2.all) (fun _ _ _ _ wq => by go_simp) (fun _ _ _ _ wq => by go_simp) (fun B d g _ _ wq hk => by obtain ⟨c0, c1, f0, f1, zl⟩ := two_cells (Below.refl wq.heap.size wq) hk; go_simp) rfl (fun B d g _ _ wq hk => by obtain ⟨c0, c1, f0, f1, zl⟩ := two_cells (Below.refl wq.heap.size wq) hk; go_simp) rfl (by decide +kernel) (by kernel_rfl) (by kernel_rfl) ?_ 4 none none none none _ (fun h => h) rfl ⟨hSd, (Below.refl _ _).drew, (fun _ _ h => by cases h), (fun _ _ h => by cases h), (fun _ h => by cases h), by simp [gl2]⟩
    intro B1 d1 B2 d2 g1 g2 w' hC
    dsimp only [numL]
    go_wp2_with fail
    go_meet
    exact hC
  case rest =>
    obtain ⟨gx, Bx, ex, gy, By, ey, rfl, rfl, Vx, Vy, hcb⟩ := hcut
    rename_i wx
    replace Va := Aside0.mk (Va.out.below hcb.out)
    replace Vb := Aside0.mk (Vb.out.below hcb.out)
    replace HB := Aside0.mk (below_then HB.out HB.out.size hcb.out)
    clear hcb HW1
    obtain ⟨cx0x, cx1x, cxlx⟩ := Vx.out.cells
    obtain ⟨cx0y, cx1y, cxly⟩ := Vy.out.cells
    go_wp2_with fail
    refine (cmp_t s1 s2 _ _ _ _ l1 l2 c1 c2 HCC.out (by have := Vx.out.cap; rw [lk_len] at this; omega) (by have := Vy.out.cap; rw [lk_len] at this; omega) ho1 ho2 hm1 hm2 _ Vx.out.lent Vy.out.lent).mono ?_
    rintro e w1_ ⟨rfl, b⟩
    clear cx0x cx1x cxlx cx0y cx1y cxly
    replace Va := Aside0.mk (Va.out.below b.out)
    replace Vb := Aside0.mk (Vb.out.below b.out)
    replace Vx := Aside0.mk (Vx.out.below b.out)
    replace Vy := Aside0.mk (Vy.out.below b.out)
    replace HB := Aside0.mk (below_then HB.out HB.out.size b.out)
    clear b
    obtain ⟨cx0a, cx1a, cxla⟩ := Va.out.cells
    obtain ⟨cx0b, cx1b, cxlb⟩ := Vb.out.cells
    go_wp2_with fail
    refine (refCmp_t s1 s2 _ _ _ _ l1 l2 c1 c2 HCC.out hq1 hq2 ho1 ho2 hm1 hm2 _ Va.out.all Vb.out.all).mono ?_
    rintro e w2_ ⟨rfl, b⟩
    clear cx0a cx1a cxla cx0b cx1b cxlb
    replace Va := Aside0.mk (Va.out.below b.out)
    replace Vb := Aside0.mk (Vb.out.below b.out)
    replace Vx := Aside0.mk (Vx.out.below b.out)
    replace Vy := Aside0.mk (Vy.out.below b.out)
    replace HB := Aside0.mk (below_then HB.out HB.out.size b.out)
    clear b
    obtain ⟨cx0x, cx1x, cxlx⟩ := Vx.out.cells
    obtain ⟨cx0y, cx1y, cxly⟩ := Vy.out.cells
    go_wp2_with fail
    refine (add_t s1 s2 _ _ _ _ l1 l2 a1 a2 a3 HAA.out (by have := Vx.out.cap; rw [lk_len] at this; omega) (by have := Vy.out.cap; rw [lk_len] at this; omega) ho1 ho2 hm1 hm2 _ Vx.out.lent Vy.out.lent).mono ?_
    rintro e w3_ ⟨As, cs, rfl, Rs, b⟩
    clear cx0x cx1x cxlx cx0y cx1y cxly
    replace Va := Aside0.mk (Va.out.below b.out)
    replace Vb := Aside0.mk (Vb.out.below b.out)
    replace Vx := Aside0.mk (Vx.out.below b.out)
    replace Vy := Aside0.mk (Vy.out.below b.out)
    replace HB := Aside0.mk (below_then HB.out HB.out.size b.out)
    clear b
    have Vs := Aside0.mk (NV.new (g := w3_.heap.size) a1 a2.length cs rfl (Nat.le_refl _) Rs.out.1 Rs.out.2)
    clear Rs
    obtain ⟨cx0a, cx1a, cxla⟩ := Va.out.cells
    obtain ⟨cx0b, cx1b, cxlb⟩ := Vb.out.cells
    go_wp2_with fail
    refine (refAdd_t s1 s2 _ _ _ _ l1 l2 a1 a2 a3 HAA.out hq1 hq2 ho1 ho2 hm1 hm2 _ (Va.out.alloc _).all (Vb.out.alloc _).all).mono ?_
    rintro e w4_ ⟨At, ct, rfl, Rt, b⟩
    clear cx0a cx1a cxla cx0b cx1b cxlb
    replace Va := Aside0.mk ((Va.out.alloc _).below b.out)
    replace Vb := Aside0.mk ((Vb.out.alloc _).below b.out)
    replace Vx := Aside0.mk ((Vx.out.alloc _).below b.out)
    replace Vy := Aside0.mk ((Vy.out.alloc _).below b.out)
    replace Vs := Aside0.mk (Vs.out.below b.out)
    replace HB := Aside0.mk (below_then HB.out HB.out.size (((Below.refl w3_.heap.size w3_).alloc (Nat.le_refl _) _).trans (b.out.mono (by simp))))
    clear b
    have Vt := Aside0.mk (NV.new (g := w4_.heap.size) a1 a2.length ct rfl (Nat.le_refl _) Rt.out.1 Rt.out.2)
    clear Rt
    obtain ⟨cx0x, cx1x, cxlx⟩ := Vx.out.cells
    obtain ⟨cx0y, cx1y, cxly⟩ := Vy.out.cells
    go_wp2_with fail
    refine (sub_t s1 s2 _ _ _ _ l1 l2 d1 d2 d3 HDD.out (by have := Vx.out.cap; rw [lk_len] at this; omega) (by have := Vy.out.cap; rw [lk_len] at this; omega) ho1 ho2 hm1 hm2 _ (Vx.out.alloc _).lent (Vy.out.alloc _).lent).mono ?_
    rintro e w5_ ⟨Au, cu, rfl, Ru, b⟩
    clear cx0x cx1x cxlx cx0y cx1y cxly
    replace Va := Aside0.mk ((Va.out.alloc _).below b.out)
    replace Vb := Aside0.mk ((Vb.out.alloc _).below b.out)
    replace Vx := Aside0.mk ((Vx.out.alloc _).below b.out)
    replace Vy := Aside0.mk ((Vy.out.alloc _).below b.out)
    replace Vs := Aside0.mk ((Vs.out.alloc _).below b.out)
    replace Vt := Aside0.mk (Vt.out.below b.out)
    replace HB := Aside0.mk (below_then HB.out HB.out.size (((Below.refl w4_.heap.size w4_).alloc (Nat.le_refl _) _).trans (b.out.mono (by simp))))
    clear b
    have Vu := Aside0.mk (NV.new (g := w5_.heap.size) d1 d2.length cu rfl (Nat.le_refl _) Ru.out.1 Ru.out.2)
    clear Ru
    obtain ⟨cx0a, cx1a, cxla⟩ := Va.out.cells
    obtain ⟨cx0b, cx1b, cxlb⟩ := Vb.out.cells
    go_wp2_with fail
    refine (refSub_t s1 s2 _ _ _ _ l1 l2 d1 d2 d3 HDD.out hq1 hq2 ho1 ho2 hm1 hm2 _ (Va.out.alloc _).all (Vb.out.alloc _).all).mono ?_
    rintro e w6_ ⟨Av, cv, rfl, Rv, b⟩
    clear cx0a cx1a cxla cx0b cx1b cxlb
    replace Va := Aside0.mk ((Va.out.alloc _).below b.out)
    replace Vb := Aside0.mk ((Vb.out.alloc _).below b.out)
    replace Vx := Aside0.mk ((Vx.out.alloc _).below b.out)
    replace Vy := Aside0.mk ((Vy.out.alloc _).below b.out)
    replace Vs := Aside0.mk ((Vs.out.alloc _).below b.out)
    replace Vt := Aside0.mk ((Vt.out.alloc _).below b.out)
    replace Vu := Aside0.mk (Vu.out.below b.out)
    replace HB := Aside0.mk (below_then HB.out HB.out.size (((Below.refl w5_.heap.size w5_).alloc (Nat.le_refl _) _).trans (b.out.mono (by simp))))
    clear b
    have Vv := Aside0.mk (NV.new (g := w6_.heap.size) d1 d2.length cv rfl (Nat.le_refl _) Rv.out.1 Rv.out.2)
    clear Rv
    obtain ⟨cx0s, cx1s, cxls⟩ := Vs.out.cells
    obtain ⟨cx0t, cx1t, cxlt⟩ := Vt.out.cells
    go_wp2_with fail
    refine (isT a1 _ _ _ _ a2 a3 HAL.out Vs.out.cap Vt.out.cap _ (Vs.out.alloc _).all (Vt.out.alloc _).all).mono ?_
    rintro e w7_ ⟨rfl, b⟩
    clear cx0s cx1s cxls cx0t cx1t cxlt
    replace Va := Aside0.mk ((Va.out.alloc _).below b.out)
    replace Vb := Aside0.mk ((Vb.out.alloc _).below b.out)
    replace Vx := Aside0.mk ((Vx.out.alloc _).below b.out)
    replace Vy := Aside0.mk ((Vy.out.alloc _).below b.out)
    replace Vs := Aside0.mk ((Vs.out.alloc _).below b.out)
    replace Vt := Aside0.mk ((Vt.out.alloc _).below b.out)
    replace Vu := Aside0.mk ((Vu.out.alloc _).below b.out)
    replace Vv := Aside0.mk (Vv.out.below b.out)
    replace HB := Aside0.mk (below_then HB.out HB.out.size (((Below.refl w6_.heap.size w6_).alloc (Nat.le_refl _) _).trans (b.out.mono (by simp))))
    clear b
    obtain ⟨cx0u, cx1u, cxlu⟩ := Vu.out.cells
    obtain ⟨cx0v, cx1v, cxlv⟩ := Vv.out.cells
    go_wp2_with fail
    refine (isT d1 _ _ _ _ d2 d3 HDL.out Vu.out.cap Vv.out.cap _ Vu.out.all Vv.out.all).mono ?_
    rintro e w8_ ⟨rfl, b⟩
    clear cx0u cx1u cxlu cx0v cx1v cxlv
    replace Va := Aside0.mk (Va.out.below b.out)
    replace Vb := Aside0.mk (Vb.out.below b.out)
    replace Vx := Aside0.mk (Vx.out.below b.out)
    replace Vy := Aside0.mk (Vy.out.below b.out)
    replace Vs := Aside0.mk (Vs.out.below b.out)
    replace Vt := Aside0.mk (Vt.out.below b.out)
    replace Vu := Aside0.mk (Vu.out.below b.out)
    replace Vv := Aside0.mk (Vv.out.below b.out)
    replace HB := Aside0.mk (below_then HB.out HB.out.size b.out)
    clear b
    obtain ⟨cx0x, cx1x, cxlx⟩ := Vx.out.cells
    obtain ⟨cx0a, cx1a, cxla⟩ := Va.out.cells
    go_wp2_with fail
    refine (keptI_c s1 _ _ _ _ l1 hm1 hq1 Vx.out.cap _ Vx.out.row Va.out.all).mono ?_
    rintro e w9_ ⟨rfl, b⟩
    clear cx0x cx1x cxlx cx0a cx1a cxla
    replace Va := Aside0.mk (Va.out.below b.out)
    replace Vb := Aside0.mk (Vb.out.below b.out)
    replace Vx := Aside0.mk (Vx.out.below b.out)
    replace Vy := Aside0.mk (Vy.out.below b.out)
    replace Vs := Aside0.mk (Vs.out.below b.out)
    replace Vt := Aside0.mk (Vt.out.below b.out)
    replace Vu := Aside0.mk (Vu.out.below b.out)
    replace Vv := Aside0.mk (Vv.out.below b.out)
    replace HB := Aside0.mk (below_then HB.out HB.out.size b.out)
    clear b
    obtain ⟨cx0y, cx1y, cxly⟩ := Vy.out.cells
    obtain ⟨cx0b, cx1b, cxlb⟩ := Vb.out.cells
    go_wp2_with fail
    refine (keptI_c s2 _ _ _ _ l2 hm2 hq2 Vy.out.cap _ Vy.out.row Vb.out.all).mono ?_
    rintro e w10_ ⟨rfl, b⟩
    clear cx0y cx1y cxly cx0b cx1b cxlb
    replace Va := Aside0.mk (Va.out.below b.out)
    replace Vb := Aside0.mk (Vb.out.below b.out)
    replace Vx := Aside0.mk (Vx.out.below b.out)
    replace Vy := Aside0.mk (Vy.out.below b.out)
    replace Vs := Aside0.mk (Vs.out.below b.out)
    replace Vt := Aside0.mk (Vt.out.below b.out)
    replace Vu := Aside0.mk (Vu.out.below b.out)
    replace Vv := Aside0.mk (Vv.out.below b.out)
    replace HB := Aside0.mk (below_then HB.out HB.out.size b.out)
    clear b
    go_wp2_with fail
    refine (awake_z _).mono ?_
    rintro e w11_ ⟨rfl, b⟩
    replace Va := Aside0.mk (Va.out.below b.out)
    replace Vb := Aside0.mk (Vb.out.below b.out)
    replace Vx := Aside0.mk (Vx.out.below b.out)
    replace Vy := Aside0.mk (Vy.out.below b.out)
    replace Vs := Aside0.mk (Vs.out.below b.out)
    replace Vt := Aside0.mk (Vt.out.below b.out)
    replace Vu := Aside0.mk (Vu.out.below b.out)
    replace Vv := Aside0.mk (Vv.out.below b.out)
    replace HB := Aside0.mk (below_then HB.out HB.out.size b.out)
    clear b
    go_wp2
    go_ret
    exact ⟨rfl, HB.out⟩
end Go.Proofs.Ytlcjnahfahobjaa.Lb
