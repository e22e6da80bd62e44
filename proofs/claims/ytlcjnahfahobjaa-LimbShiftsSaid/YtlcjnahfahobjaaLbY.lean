/- limb: LimbShifts. -/
import Derived.Test.YtlcjnahfahobjaaLbSh
import Derived.Deep.RegionHeld3
namespace Go.Proofs.Ytlcjnahfahobjaa.Lb
open Go.RowKit Go.Proofs.YtlcjnahfahobjaaW.PrintWords Go.Proofs.YtlcjnahfahobjaaW.PrintLast Go.Proofs.YtlcjnahfahobjaaW.PrintMore
set_option linter.unusedVariables false
set_option linter.unusedSimpArgs false

set_option maxRecDepth 100000 in
set_option maxHeartbeats 16000000 in
theorem shifts_c (s1 : Bool) (P1 : Option Addr) (q1 : Nat) (l1 : List Int) (hq1 : l1.length ≤ q1) (ho1 : okL l1) (hm1 : l1.length < 17592186044416) (m n : Int) (w : World) (hr1 : u64.C w P1 l1.length l1) (hm : -9223372036854775808 ≤ m ∧ m ≤ 9223372036854775807) (hn : -9223372036854775808 ≤ n ∧ n ≤ 9223372036854775807) :
    Calls Try.prog 5 #[.agg #[.bool s1, .slice P1 l1.length q1], .int .i64 m, .int .i64 n] w fun e w' => e = .returned (.bool true) ∧ Below w.heap.size w w' := by
  obtain ⟨M, hM, hM5⟩ : ∃ M : Nat, m % 5000 = M ∧ M < 5000 := ⟨(m % 5000).toNat, by omega, by omega⟩
  obtain ⟨N, hN, hN5⟩ : ∃ N : Nat, n % 5000 = N ∧ N < 5000 := ⟨(n % 5000).toNat, by omega, by omega⟩
  have EM := Aside0.mk hM
  have EN := Aside0.mk hN
  clear hM hN hm hn
  have hu := Try.underlying24
  have hu2 := Try.underlying35
  have hus := Try.underlying22
  have H1 := Aside0.mk (WB.new s1 q1 rfl hr1)
  have HB := Aside0.mk ((Below.refl w.heap.size w).alloc (Nat.le_refl _) (.cells #[.bool s1, .slice P1 l1.length q1] 35))
  clear hr1
  go_enter Try.func5, Try.ntmps5
  go_wp2_with fail
  refine (whole_z s1 P1 q1 l1 60 hq1 ho1 hm1 (by omega) _ H1.out.reads).mono ?_
  rintro e w0_ ⟨Aa, ca, rfl, Ra, b⟩
  replace HB := Aside0.mk (below_then HB.out HB.out.size b.out)
  clear b H1
  have La := Aside0.mk (zW_lim s1 l1 60 ho1)
  generalize zW s1 l1 60 = a at *
  have Va := Aside0.mk (BV.new Ra.out)
  clear Ra
  obtain ⟨zu, hz⟩ : ∃ z, shZ a (M : Int) = z := ⟨_, rfl⟩
  have Eu := Aside0.mk hz
  have Lu : Aside0 (lim 139 zu) := ⟨by rw [← hz]; exact lim_up (j := 79) M La.out (by omega)⟩
  clear hz
  obtain ⟨zb, hz⟩ : ∃ z, shZ zu (-(M : Int)) = z := ⟨_, rfl⟩
  have Eb := Aside0.mk hz
  have Lb : Aside0 (lim 139 zb) := ⟨by rw [← hz]; exact lim_down M Lu.out⟩
  clear hz
  obtain ⟨zt, hz⟩ : ∃ z, shZ zu (N : Int) = z := ⟨_, rfl⟩
  have Et := Aside0.mk hz
  have Lt : Aside0 (lim 218 zt) := ⟨by rw [← hz]; exact lim_up (j := 79) N Lu.out (by omega)⟩
  clear hz
  obtain ⟨zo, hz⟩ : ∃ z, shZ a ((M : Int) + (N : Int)) = z := ⟨_, rfl⟩
  have Eo := Aside0.mk hz
  have Lo : Aside0 (lim 218 zo) := ⟨by rw [← hz]; exact by rw [show (M : Int) + (N : Int) = ((M + N : Nat) : Int) by omega]; exact lim_up (j := 158) (M + N) La.out (by omega)⟩
  clear hz
  obtain ⟨zd, hz⟩ : ∃ z, shZ a (-(M : Int)) = z := ⟨_, rfl⟩
  have Ed := Aside0.mk hz
  have Ld : Aside0 (lim 60 zd) := ⟨by rw [← hz]; exact lim_down M La.out⟩
  clear hz
  obtain ⟨zl, hz⟩ : ∃ z, shZ zd (M : Int) = z := ⟨_, rfl⟩
  have El := Aside0.mk hz
  have Ll : Aside0 (lim 139 zl) := ⟨by rw [← hz]; exact lim_up (j := 79) M Ld.out (by omega)⟩
  clear hz
  obtain ⟨zm, hz⟩ : ∃ z, zd + 1 = z := ⟨_, rfl⟩
  have Em := Aside0.mk hz
  have Lm : Aside0 (lim 61 zm) := ⟨by rw [← hz]; exact lim_add Ld.out (lim_one 60 (by omega))⟩
  clear hz
  obtain ⟨zh, hz⟩ : ∃ z, shZ zm (M : Int) = z := ⟨_, rfl⟩
  have Eh := Aside0.mk hz
  have Lh : Aside0 (lim 140 zh) := ⟨by rw [← hz]; exact lim_up (j := 79) M Lm.out (by omega)⟩
  clear hz
  go_wp2_with fail
  refine (pick_zv m 5000 M EM (by omega) (by omega) _).mono ?_
  rintro e w1_ ⟨rfl, b⟩
  replace Va := Aside0.mk (Va.out.below b.out)
  replace HB := Aside0.mk (below_then HB.out HB.out.size (((Below.refl w0_.heap.size w0_).alloc (Nat.le_refl _) _).trans (b.out.mono (by simp))))
  clear b
  go_wp2_with fail
  refine (pick_zv n 5000 N EN (by omega) (by omega) _).mono ?_
  rintro e w2_ ⟨rfl, b⟩
  replace Va := Aside0.mk (Va.out.below b.out)
  replace HB := Aside0.mk (below_then HB.out HB.out.size b.out)
  clear b
  obtain ⟨cx0a, cx1a, cxla⟩ := Va.out.cells
  go_wp2_with fail
  refine (shift_zv a ((M : Int)) zu Eu (lim_le La.out (by omega)) (by omega) (by omega) (lim_le Lu.out (by omega)) (may_up _ La.out (by omega) (by omega)) _ _ _ (Va.out.rv)).mono ?_
  rintro e w3_ ⟨Au, cu, rfl, Ru, b⟩
  clear cx0a cx1a cxla
  replace Va := Aside0.mk (Va.out.below b.out)
  replace HB := Aside0.mk (below_then HB.out HB.out.size b.out)
  clear b
  have Vu := Aside0.mk (BV.new Ru.out)
  clear Ru
  go_wp2_with fail
  refine (shift_zv zu (-(M : Int)) zb Eb (lim_le Lu.out (by omega)) (by omega) (by omega) (lim_le Lb.out (by omega)) (may_up _ Lu.out (by omega) (by omega)) _ _ _ (Vu.out.rv)).mono ?_
  rintro e w4_ ⟨Ab, cb, rfl, Rb, b⟩
  replace Va := Aside0.mk ((Va.out.alloc _).below b.out)
  replace Vu := Aside0.mk (Vu.out.below b.out)
  replace HB := Aside0.mk (below_then HB.out HB.out.size (((Below.refl w3_.heap.size w3_).alloc (Nat.le_refl _) _).trans (b.out.mono (by simp))))
  clear b
  have Vb := Aside0.mk (BV.new Rb.out)
  clear Rb
  obtain ⟨cx0u, cx1u, cxlu⟩ := Vu.out.cells
  go_wp2_with fail
  refine (shift_zv zu ((N : Int)) zt Et (lim_le Lu.out (by omega)) (by omega) (by omega) (lim_le Lt.out (by omega)) (may_up _ Lu.out (by omega) (by omega)) _ _ _ (Vu.out.alloc _).rv).mono ?_
  rintro e w5_ ⟨At, ct, rfl, Rt, b⟩
  clear cx0u cx1u cxlu
  replace Va := Aside0.mk ((Va.out.alloc _).below b.out)
  replace Vu := Aside0.mk ((Vu.out.alloc _).below b.out)
  replace Vb := Aside0.mk (Vb.out.below b.out)
  replace HB := Aside0.mk (below_then HB.out HB.out.size (((Below.refl w4_.heap.size w4_).alloc (Nat.le_refl _) _).trans (b.out.mono (by simp))))
  clear b
  have Vt := Aside0.mk (BV.new Rt.out)
  clear Rt
  obtain ⟨cx0a, cx1a, cxla⟩ := Va.out.cells
  go_wp2_with fail
  refine (shift_zv a ((M : Int) + (N : Int)) zo Eo (lim_le La.out (by omega)) (by omega) (by omega) (lim_le Lo.out (by omega)) (may_up _ La.out (by omega) (by omega)) _ _ _ (Va.out.alloc _).rv).mono ?_
  rintro e w6_ ⟨Ao, co, rfl, Ro, b⟩
  clear cx0a cx1a cxla
  replace Va := Aside0.mk ((Va.out.alloc _).below b.out)
  replace Vu := Aside0.mk ((Vu.out.alloc _).below b.out)
  replace Vb := Aside0.mk ((Vb.out.alloc _).below b.out)
  replace Vt := Aside0.mk (Vt.out.below b.out)
  replace HB := Aside0.mk (below_then HB.out HB.out.size (((Below.refl w5_.heap.size w5_).alloc (Nat.le_refl _) _).trans (b.out.mono (by simp))))
  clear b
  have Vo := Aside0.mk (BV.new Ro.out)
  clear Ro
  obtain ⟨cx0a, cx1a, cxla⟩ := Va.out.cells
  go_wp2_with fail
  refine (shift_zv a (-(M : Int)) zd Ed (lim_le La.out (by omega)) (by omega) (by omega) (lim_le Ld.out (by omega)) (may_up _ La.out (by omega) (by omega)) _ _ _ (Va.out.alloc _).rv).mono ?_
  rintro e w7_ ⟨Ad, cd, rfl, Rd, b⟩
  clear cx0a cx1a cxla
  replace Va := Aside0.mk ((Va.out.alloc _).below b.out)
  replace Vu := Aside0.mk ((Vu.out.alloc _).below b.out)
  replace Vb := Aside0.mk ((Vb.out.alloc _).below b.out)
  replace Vt := Aside0.mk ((Vt.out.alloc _).below b.out)
  replace Vo := Aside0.mk (Vo.out.below b.out)
  replace HB := Aside0.mk (below_then HB.out HB.out.size (((Below.refl w6_.heap.size w6_).alloc (Nat.le_refl _) _).trans (b.out.mono (by simp))))
  clear b
  have Vd := Aside0.mk (BV.new Rd.out)
  clear Rd
  go_wp2_with fail
  refine (shift_zv zd ((M : Int)) zl El (lim_le Ld.out (by omega)) (by omega) (by omega) (lim_le Ll.out (by omega)) (may_up _ Ld.out (by omega) (by omega)) _ _ _ (Vd.out.rv)).mono ?_
  rintro e w8_ ⟨Al, cl, rfl, Rl, b⟩
  replace Va := Aside0.mk ((Va.out.alloc _).below b.out)
  replace Vu := Aside0.mk ((Vu.out.alloc _).below b.out)
  replace Vb := Aside0.mk ((Vb.out.alloc _).below b.out)
  replace Vt := Aside0.mk ((Vt.out.alloc _).below b.out)
  replace Vo := Aside0.mk ((Vo.out.alloc _).below b.out)
  replace Vd := Aside0.mk (Vd.out.below b.out)
  replace HB := Aside0.mk (below_then HB.out HB.out.size (((Below.refl w7_.heap.size w7_).alloc (Nat.le_refl _) _).trans (b.out.mono (by simp))))
  clear b
  have Vl := Aside0.mk (BV.new Rl.out)
  clear Rl
  go_upto_region 9 with fail
  go_cut [20, 21] (fun y1 y2 wx => Cut1 (w8_.alloc (.cells #[.bool (sg zl), .slice Al (lm zl).length cl] 24)) zm y1 y2 wx)
  case first =>
    obtain ⟨U, hU⟩ : ∃ U, (w8_.alloc (.cells #[.bool (sg zl), .slice Al (lm zl).length cl] 24)) = U := ⟨_, rfl⟩
    replace Vd := Aside0.mk (Vd.out.alloc (.cells #[.bool (sg zl), .slice Al (lm zl).length cl] 24))
    rw [hU] at Vd ⊢
    have HE := Aside0.mk hU
    clear hU
    clear Va Vu Vb Vt Vo Vl HB
    have HU : Aside0 (Below U.heap.size U U.drew) := ⟨(Below.refl _ _).drew⟩
    obtain ⟨pc0, pc1, pcl⟩ := Vd.out.cells
    have n0 : w7_.heap.size < U.heap.size := pcl
    go_region_held3 (fun w' => w'.cell? ⟨w7_.heap.size, 0, none⟩ = some (.bool (sg zd)) ∧ w'.cell? ⟨w7_.heap.size, 1, none⟩ = some (.slice Ad (lm zd).length cd)) (first | go_keep | (refine ⟨?_, ?_⟩ <;> (rw [World.cell?_setCell_far _ _ _ _ (by simp <;> omega), World.cell?_setCell_far _ _ _ _ (by simp <;> omega)]; assumption))) (first | (go_at_call 26; refine (of_z 1 (by decide) (by decide) _).mono ?_; rintro e u1 ⟨B1, d1, rfl, r1, b1⟩; replace Vd := Aside0.mk (BV.below (g := w7_.heap.size) (A := Ad) (c := cd) (z := zd) (by repeat (first | exact Vd.out | refine BV.alloc ?_ _ | refine BV.drew ?_)) b1.out); replace HU := Aside0.mk (bthen (U := U) (by repeat (first | exact HU.out | exact Below.refl _ _ | refine balloc ?_ _ | refine Below.drew ?_)) b1.out); have kb1 := Aside0.mk (kbl b1.out); have su1 := Aside0.mk HU.out.size; have n1 : w7_.heap.size < u1.heap.size := Vd.out.cells.2.2; (try (have hk1 := Aside0.mk (kb1.out _ _ (heap_alloc_new _ _)))); clear pc0 pc1 pcl; obtain ⟨pc0, pc1, pcl⟩ := Vd.out.cells) | (go_at_call 13; refine (add_n zd 1 zm Em (lim_le Ld.out (by omega)) (lim_one 4096 (by omega)) (lim_le Lm.out (by omega)) _ _ _ _ _ (BV.rv (g := w7_.heap.size) (A := Ad) (c := cd) (z := zd) (by repeat (first | exact Vd.out | refine BV.alloc ?_ _ | refine BV.drew ?_))) (by repeat (first | exact r1.out | refine RV.alloc ?_ _))).mono ?_; rintro e u2 ⟨B2, d2, rfl, r2, b2⟩; have r2 := Aside0.mk r2; have b2 := Aside0.mk b2; replace Vd := Aside0.mk (BV.below (g := w7_.heap.size) (A := Ad) (c := cd) (z := zd) (by repeat (first | exact Vd.out | refine BV.alloc ?_ _ | refine BV.drew ?_)) b2.out); replace HU := Aside0.mk (bthen (U := U) (by repeat (first | exact HU.out | exact Below.refl _ _ | refine balloc ?_ _ | refine Below.drew ?_)) b2.out); have kb2 := Aside0.mk (kbl b2.out); (first | (have hk2 := Aside0.mk (kb2.out _ _ hk1.out); obtain ⟨qa, qb, qf, qg, ql⟩ := two_cells (Below.refl _ _) hk2.out) | (have hk2 := Aside0.mk (kb2.out _ _ (heap_alloc_new _ _)); obtain ⟨qa, qb, qf, qg, ql⟩ := two_cells (Below.refl _ _) hk2.out) | skip); clear pc0 pc1 pcl; obtain ⟨pc0, pc1, pcl⟩ := Vd.out.cells))
    all_goals (go_wp2_with fail; go_meet; rw [HE.out]; first | exact cut1a (rvV r2.out) HU.out | exact cut1b r2.out hk2.out (by first | exact blk_lt hk1.out | simp) (by first | exact Nat.le_refl _ | exact su1.out) HU.out)
  case rest =>
    obtain ⟨gm, Am, cm, rfl, rfl, Vm, Hb⟩ := hcut
    rename_i wc
    replace Va := Aside0.mk ((Va.out.alloc _).below Hb.out)
    replace Vu := Aside0.mk ((Vu.out.alloc _).below Hb.out)
    replace Vb := Aside0.mk ((Vb.out.alloc _).below Hb.out)
    replace Vt := Aside0.mk ((Vt.out.alloc _).below Hb.out)
    replace Vo := Aside0.mk ((Vo.out.alloc _).below Hb.out)
    replace Vd := Aside0.mk ((Vd.out.alloc _).below Hb.out)
    replace Vl := Aside0.mk (Vl.out.below Hb.out)
    replace HB := Aside0.mk (below_then HB.out HB.out.size (((Below.refl w8_.heap.size w8_).alloc (Nat.le_refl _) _).trans (Hb.out.mono (by simp))))
    clear Hb
    obtain ⟨cx0m, cx1m, cxlm⟩ := Vm.out.cells
    go_wp2_with fail
    refine (shift_zv zm ((M : Int)) zh Eh (lim_le Lm.out (by omega)) (by omega) (by omega) (lim_le Lh.out (by omega)) (may_up _ Lm.out (by omega) (by omega)) _ _ _ (Vm.out.rv)).mono ?_
    rintro e w1_ ⟨Ah, ch, rfl, Rh, b⟩
    clear cx0m cx1m cxlm
    replace Va := Aside0.mk (Va.out.below b.out)
    replace Vu := Aside0.mk (Vu.out.below b.out)
    replace Vb := Aside0.mk (Vb.out.below b.out)
    replace Vt := Aside0.mk (Vt.out.below b.out)
    replace Vo := Aside0.mk (Vo.out.below b.out)
    replace Vd := Aside0.mk (Vd.out.below b.out)
    replace Vl := Aside0.mk (Vl.out.below b.out)
    replace Vm := Aside0.mk (Vm.out.below b.out)
    replace HB := Aside0.mk (below_then HB.out HB.out.size b.out)
    clear b
    have Vh := Aside0.mk (BV.new Rh.out)
    clear Rh
    have Gb : Aside0 (decide (zb = a) = true) := ⟨decide_eq_true (by rw [← Eb.out, ← Eu.out]; exact shZ_back a M)⟩
    have Gt : Aside0 (decide (zt = zo) = true) := ⟨decide_eq_true (by rw [← Et.out, ← Eu.out, ← Eo.out]; exact shZ_twice a M N)⟩
    obtain ⟨cx0b, cx1b, cxlb⟩ := Vb.out.cells
    obtain ⟨cx0a, cx1a, cxla⟩ := Va.out.cells
    go_wp2_with fail
    refine (same_z zb a (lim_le Lb.out (by omega)) _ _ _ _ _ (Vb.out.alloc _).rv (Va.out.alloc _).rv true Gb.out).mono ?_
    rintro e w2_ ⟨rfl, b⟩
    clear cx0b cx1b cxlb cx0a cx1a cxla
    replace Va := Aside0.mk ((Va.out.alloc _).below b.out)
    replace Vu := Aside0.mk ((Vu.out.alloc _).below b.out)
    replace Vb := Aside0.mk ((Vb.out.alloc _).below b.out)
    replace Vt := Aside0.mk ((Vt.out.alloc _).below b.out)
    replace Vo := Aside0.mk ((Vo.out.alloc _).below b.out)
    replace Vd := Aside0.mk ((Vd.out.alloc _).below b.out)
    replace Vl := Aside0.mk ((Vl.out.alloc _).below b.out)
    replace Vm := Aside0.mk ((Vm.out.alloc _).below b.out)
    replace Vh := Aside0.mk (Vh.out.below b.out)
    replace HB := Aside0.mk (below_then HB.out HB.out.size (((Below.refl w1_.heap.size w1_).alloc (Nat.le_refl _) _).trans (b.out.mono (by simp))))
    clear b
    obtain ⟨cx0t, cx1t, cxlt⟩ := Vt.out.cells
    obtain ⟨cx0o, cx1o, cxlo⟩ := Vo.out.cells
    go_wp2_with fail
    refine (same_z zt zo (lim_le Lt.out (by omega)) _ _ _ _ _ (Vt.out.rv) (Vo.out.rv) true Gt.out).mono ?_
    rintro e w3_ ⟨rfl, b⟩
    clear cx0t cx1t cxlt cx0o cx1o cxlo
    replace Va := Aside0.mk (Va.out.below b.out)
    replace Vu := Aside0.mk (Vu.out.below b.out)
    replace Vb := Aside0.mk (Vb.out.below b.out)
    replace Vt := Aside0.mk (Vt.out.below b.out)
    replace Vo := Aside0.mk (Vo.out.below b.out)
    replace Vd := Aside0.mk (Vd.out.below b.out)
    replace Vl := Aside0.mk (Vl.out.below b.out)
    replace Vm := Aside0.mk (Vm.out.below b.out)
    replace Vh := Aside0.mk (Vh.out.below b.out)
    replace HB := Aside0.mk (below_then HB.out HB.out.size b.out)
    clear b
    have Gl : Aside0 (zl ≤ a) := ⟨by rw [← El.out, ← Ed.out]; exact shZ_low a M⟩
    have Gh : Aside0 (a < zh) := ⟨by rw [← Eh.out, ← Em.out, ← Ed.out]; exact shZ_high a M⟩
    obtain ⟨p1, hp1⟩ : ∃ p, cmpZ zl a = p := ⟨_, rfl⟩
    have Q1 := Aside0.mk hp1
    have Qp : p1 ≤ 0 := by rw [← hp1]; have := Gl.out; unfold cmpZ; split <;> (try split) <;> omega
    have Qd : decide (0 < p1) = false := decide_eq_false (by omega)
    clear hp1
    obtain ⟨cx0l, cx1l, cxll⟩ := Vl.out.cells
    obtain ⟨cx0a, cx1a, cxla⟩ := Va.out.cells
    go_wp2_with fail
    refine (cmp_zv zl a (lim_le Ll.out (by omega)) (lim_le La.out (by omega)) _ _ _ _ _ (Vl.out.rv) (Va.out.rv) p1 Q1.out).mono ?_
    rintro e w4_ ⟨rfl, b⟩
    clear cx0l cx1l cxll cx0a cx1a cxla
    replace Va := Aside0.mk (Va.out.below b.out)
    replace Vu := Aside0.mk (Vu.out.below b.out)
    replace Vb := Aside0.mk (Vb.out.below b.out)
    replace Vt := Aside0.mk (Vt.out.below b.out)
    replace Vo := Aside0.mk (Vo.out.below b.out)
    replace Vd := Aside0.mk (Vd.out.below b.out)
    replace Vl := Aside0.mk (Vl.out.below b.out)
    replace Vm := Aside0.mk (Vm.out.below b.out)
    replace Vh := Aside0.mk (Vh.out.below b.out)
    replace HB := Aside0.mk (below_then HB.out HB.out.size b.out)
    clear b
    obtain ⟨cx0a, cx1a, cxla⟩ := Va.out.cells
    obtain ⟨cx0h, cx1h, cxlh⟩ := Vh.out.cells
    go_wp2_with fail
    refine (cmp_zv a zh (lim_le La.out (by omega)) (lim_le Lh.out (by omega)) _ _ _ _ _ (Va.out.rv) (Vh.out.rv) (-1) (cmpZ_lt Gh.out)).mono ?_
    rintro e w5_ ⟨rfl, b⟩
    clear cx0a cx1a cxla cx0h cx1h cxlh
    replace Va := Aside0.mk (Va.out.below b.out)
    replace Vu := Aside0.mk (Vu.out.below b.out)
    replace Vb := Aside0.mk (Vb.out.below b.out)
    replace Vt := Aside0.mk (Vt.out.below b.out)
    replace Vo := Aside0.mk (Vo.out.below b.out)
    replace Vd := Aside0.mk (Vd.out.below b.out)
    replace Vl := Aside0.mk (Vl.out.below b.out)
    replace Vm := Aside0.mk (Vm.out.below b.out)
    replace Vh := Aside0.mk (Vh.out.below b.out)
    replace HB := Aside0.mk (below_then HB.out HB.out.size b.out)
    clear b
    have Gu := Aside0.mk (bits_up a M)
    rw [Eu.out] at Gu
    by_cases ha0 : a = 0
    · have HA0 := Aside0.mk ha0
      clear ha0
      have hl0 : (((lm a).length : Int) == 0) = true := by have := (len_zero a).2 HA0.out; simp [this]
      have hl1 : (((lm a).length : Int) != 0) = false := by have := (len_zero a).2 HA0.out; simp [this]
      have B1 : Aside0 (((bitN a.natAbs : Nat) : Int) = 0) := ⟨by rw [HA0.out]; rfl⟩
      have B2 : Aside0 (((bitN zu.natAbs : Nat) : Int) = 0) := ⟨by rw [Gu.out, if_pos HA0.out]; rfl⟩
      obtain ⟨cx0a, cx1a, cxla⟩ := Va.out.cells
      go_wp2_with fail
      refine (bits_zv a 0 B1 (lim_le La.out (by omega)) _ _ _ (Va.out.rv)).mono ?_
      rintro e w6_ ⟨rfl, b⟩
      clear cx0a cx1a cxla
      replace Va := Aside0.mk (Va.out.below b.out)
      replace Vu := Aside0.mk (Vu.out.below b.out)
      replace Vb := Aside0.mk (Vb.out.below b.out)
      replace Vt := Aside0.mk (Vt.out.below b.out)
      replace Vo := Aside0.mk (Vo.out.below b.out)
      replace Vd := Aside0.mk (Vd.out.below b.out)
      replace Vl := Aside0.mk (Vl.out.below b.out)
      replace Vm := Aside0.mk (Vm.out.below b.out)
      replace Vh := Aside0.mk (Vh.out.below b.out)
      replace HB := Aside0.mk (below_then HB.out HB.out.size b.out)
      clear b
      obtain ⟨cx0u, cx1u, cxlu⟩ := Vu.out.cells
      go_wp2_with fail
      refine (bits_zv zu 0 B2 (lim_le Lu.out (by omega)) _ _ _ (Vu.out.rv)).mono ?_
      rintro e w7_ ⟨rfl, b⟩
      clear cx0u cx1u cxlu
      replace Va := Aside0.mk (Va.out.below b.out)
      replace Vu := Aside0.mk (Vu.out.below b.out)
      replace Vb := Aside0.mk (Vb.out.below b.out)
      replace Vt := Aside0.mk (Vt.out.below b.out)
      replace Vo := Aside0.mk (Vo.out.below b.out)
      replace Vd := Aside0.mk (Vd.out.below b.out)
      replace Vl := Aside0.mk (Vl.out.below b.out)
      replace Vm := Aside0.mk (Vm.out.below b.out)
      replace Vh := Aside0.mk (Vh.out.below b.out)
      replace HB := Aside0.mk (below_then HB.out HB.out.size b.out)
      clear b
      have Vs := Aside0.mk (SV.new Va.out.rv)
      obtain ⟨cx0a, cx1a, cxla⟩ := Va.out.cells
      go_wp2_with fail
      refine (of_z 1 (by decide) (by decide) _).mono ?_
      rintro e w8_ ⟨Aq, cq, rfl, Rq, b⟩
      clear cx0a cx1a cxla
      replace Va := Aside0.mk ((Va.out.alloc _).below b.out)
      replace Vu := Aside0.mk ((Vu.out.alloc _).below b.out)
      replace Vb := Aside0.mk ((Vb.out.alloc _).below b.out)
      replace Vt := Aside0.mk ((Vt.out.alloc _).below b.out)
      replace Vo := Aside0.mk ((Vo.out.alloc _).below b.out)
      replace Vd := Aside0.mk ((Vd.out.alloc _).below b.out)
      replace Vl := Aside0.mk ((Vl.out.alloc _).below b.out)
      replace Vm := Aside0.mk ((Vm.out.alloc _).below b.out)
      replace Vh := Aside0.mk ((Vh.out.alloc _).below b.out)
      replace Vs := Aside0.mk (Vs.out.below b.out)
      replace HB := Aside0.mk (below_then HB.out HB.out.size (((Below.refl w7_.heap.size w7_).alloc (Nat.le_refl _) _).trans (b.out.mono (by simp))))
      clear b
      obtain ⟨zp, hz⟩ : ∃ z, shZ 1 0 = z := ⟨_, rfl⟩
      have Ep := Aside0.mk hz
      clear hz
      have Lp : Aside0 (lim 61 zp) := ⟨by rw [← Ep.out]; exact lim_up (k := 1) (j := 60) 0 (lim_one 1 (by omega)) (by omega)⟩
      go_wp2_with fail
      refine (shift_zv 1 0 zp Ep (lim_one 4096 (by omega)) (by omega) (by omega) (lim_le Lp.out (by omega)) (may_up _ (lim_one 1 (by omega)) (by omega) (by omega)) _ _ _ Rq.out).mono ?_
      rintro e w9_ ⟨Ap, cp, rfl, Rp, b⟩
      replace Va := Aside0.mk (Va.out.below b.out)
      replace Vu := Aside0.mk (Vu.out.below b.out)
      replace Vb := Aside0.mk (Vb.out.below b.out)
      replace Vt := Aside0.mk (Vt.out.below b.out)
      replace Vo := Aside0.mk (Vo.out.below b.out)
      replace Vd := Aside0.mk (Vd.out.below b.out)
      replace Vl := Aside0.mk (Vl.out.below b.out)
      replace Vm := Aside0.mk (Vm.out.below b.out)
      replace Vh := Aside0.mk (Vh.out.below b.out)
      replace Vs := Aside0.mk (Vs.out.below b.out)
      replace Rq := Aside0.mk ((Rq.out).below b.out)
      replace HB := Aside0.mk (below_then HB.out HB.out.size b.out)
      clear b
      have Vp := Aside0.mk (BV.new Rp.out)
      clear Rp
      clear Rq
      have Gs : Aside0 (cmpZ ((a.natAbs : Nat) : Int) zp = -1) := ⟨cmpZ_lt (by have := size_top a; rw [B1.out, Ep.out] at this; exact this)⟩
      obtain ⟨cx0s, cx1s, cxls⟩ := Vs.out.cells
      go_wp2_with fail
      refine (cmp_abs1 a zp (lim_le La.out (by omega)) (lim_le Lp.out (by omega)) _ _ _ _ _ (Vs.out.alloc _).rv (Vp.out.rv) (-1) Gs.out).mono ?_
      rintro e w10_ ⟨rfl, b⟩
      clear cx0s cx1s cxls
      replace Va := Aside0.mk ((Va.out.alloc _).below b.out)
      replace Vu := Aside0.mk ((Vu.out.alloc _).below b.out)
      replace Vb := Aside0.mk ((Vb.out.alloc _).below b.out)
      replace Vt := Aside0.mk ((Vt.out.alloc _).below b.out)
      replace Vo := Aside0.mk ((Vo.out.alloc _).below b.out)
      replace Vd := Aside0.mk ((Vd.out.alloc _).below b.out)
      replace Vl := Aside0.mk ((Vl.out.alloc _).below b.out)
      replace Vm := Aside0.mk ((Vm.out.alloc _).below b.out)
      replace Vh := Aside0.mk ((Vh.out.alloc _).below b.out)
      replace Vs := Aside0.mk ((Vs.out.alloc _).below b.out)
      replace Vp := Aside0.mk (Vp.out.below b.out)
      replace HB := Aside0.mk (below_then HB.out HB.out.size (((Below.refl w9_.heap.size w9_).alloc (Nat.le_refl _) _).trans (b.out.mono (by simp))))
      clear b
      go_wp2_with fail
      refine (of_z 1 (by decide) (by decide) _).mono ?_
      rintro e w11_ ⟨Aq, cq, rfl, Rq, b⟩
      replace Va := Aside0.mk (Va.out.below b.out)
      replace Vu := Aside0.mk (Vu.out.below b.out)
      replace Vb := Aside0.mk (Vb.out.below b.out)
      replace Vt := Aside0.mk (Vt.out.below b.out)
      replace Vo := Aside0.mk (Vo.out.below b.out)
      replace Vd := Aside0.mk (Vd.out.below b.out)
      replace Vl := Aside0.mk (Vl.out.below b.out)
      replace Vm := Aside0.mk (Vm.out.below b.out)
      replace Vh := Aside0.mk (Vh.out.below b.out)
      replace Vs := Aside0.mk (Vs.out.below b.out)
      replace Vp := Aside0.mk (Vp.out.below b.out)
      replace HB := Aside0.mk (below_then HB.out HB.out.size b.out)
      clear b
      obtain ⟨zf, hz⟩ : ∃ z, shZ 1 0 = z := ⟨_, rfl⟩
      have Ef := Aside0.mk hz
      clear hz
      have Lf : Aside0 (lim 61 zf) := ⟨by rw [← Ef.out]; exact lim_up (k := 1) (j := 60) 0 (lim_one 1 (by omega)) (by omega)⟩
      go_wp2_with fail
      refine (shift_zv 1 0 zf Ef (lim_one 4096 (by omega)) (by omega) (by omega) (lim_le Lf.out (by omega)) (may_up _ (lim_one 1 (by omega)) (by omega) (by omega)) _ _ _ Rq.out).mono ?_
      rintro e w12_ ⟨Af, cf, rfl, Rf, b⟩
      replace Va := Aside0.mk (Va.out.below b.out)
      replace Vu := Aside0.mk (Vu.out.below b.out)
      replace Vb := Aside0.mk (Vb.out.below b.out)
      replace Vt := Aside0.mk (Vt.out.below b.out)
      replace Vo := Aside0.mk (Vo.out.below b.out)
      replace Vd := Aside0.mk (Vd.out.below b.out)
      replace Vl := Aside0.mk (Vl.out.below b.out)
      replace Vm := Aside0.mk (Vm.out.below b.out)
      replace Vh := Aside0.mk (Vh.out.below b.out)
      replace Vs := Aside0.mk (Vs.out.below b.out)
      replace Vp := Aside0.mk (Vp.out.below b.out)
      replace Rq := Aside0.mk ((Rq.out).below b.out)
      replace HB := Aside0.mk (below_then HB.out HB.out.size b.out)
      clear b
      have Vf := Aside0.mk (BV.new Rf.out)
      clear Rf
      clear Rq
      obtain ⟨p2, hp2⟩ : ∃ p, cmpZ zf ((a.natAbs : Nat) : Int) = p := ⟨_, rfl⟩
      have Q2 := Aside0.mk hp2
      clear hp2
      obtain ⟨cx0s, cx1s, cxls⟩ := Vs.out.cells
      go_wp2_with fail
      refine (cmp_abs2 zf a (lim_le Lf.out (by omega)) (lim_le La.out (by omega)) _ _ _ _ _ (Vf.out.rv) (Vs.out.alloc _).rv p2 Q2.out).mono ?_
      rintro e w13_ ⟨rfl, b⟩
      clear cx0s cx1s cxls
      replace Va := Aside0.mk ((Va.out.alloc _).below b.out)
      replace Vu := Aside0.mk ((Vu.out.alloc _).below b.out)
      replace Vb := Aside0.mk ((Vb.out.alloc _).below b.out)
      replace Vt := Aside0.mk ((Vt.out.alloc _).below b.out)
      replace Vo := Aside0.mk ((Vo.out.alloc _).below b.out)
      replace Vd := Aside0.mk ((Vd.out.alloc _).below b.out)
      replace Vl := Aside0.mk ((Vl.out.alloc _).below b.out)
      replace Vm := Aside0.mk ((Vm.out.alloc _).below b.out)
      replace Vh := Aside0.mk ((Vh.out.alloc _).below b.out)
      replace Vs := Aside0.mk ((Vs.out.alloc _).below b.out)
      replace Vp := Aside0.mk ((Vp.out.alloc _).below b.out)
      replace Vf := Aside0.mk (Vf.out.below b.out)
      replace HB := Aside0.mk (below_then HB.out HB.out.size (((Below.refl w12_.heap.size w12_).alloc (Nat.le_refl _) _).trans (b.out.mono (by simp))))
      clear b
      go_wp2_with fail
      refine (awake_z _).mono ?_
      rintro e w14_ ⟨rfl, b⟩
      replace Va := Aside0.mk (Va.out.below b.out)
      replace Vu := Aside0.mk (Vu.out.below b.out)
      replace Vb := Aside0.mk (Vb.out.below b.out)
      replace Vt := Aside0.mk (Vt.out.below b.out)
      replace Vo := Aside0.mk (Vo.out.below b.out)
      replace Vd := Aside0.mk (Vd.out.below b.out)
      replace Vl := Aside0.mk (Vl.out.below b.out)
      replace Vm := Aside0.mk (Vm.out.below b.out)
      replace Vh := Aside0.mk (Vh.out.below b.out)
      replace Vs := Aside0.mk (Vs.out.below b.out)
      replace Vp := Aside0.mk (Vp.out.below b.out)
      replace Vf := Aside0.mk (Vf.out.below b.out)
      replace HB := Aside0.mk (below_then HB.out HB.out.size b.out)
      clear b
      go_wp2
      go_ret
      exact ⟨rfl, HB.out⟩
    · have HA0 := Aside0.mk ha0
      clear ha0
      obtain ⟨kk, hkk, hk4⟩ : ∃ kk : Nat, bitN a.natAbs = kk + 1 ∧ kk < 3840 := by
        have h1 := bitN_lim La.out
        have h2 : bitN a.natAbs ≠ 0 := fun e => HA0.out ((bits_zero a).1 e)
        exact ⟨bitN a.natAbs - 1, by omega, by omega⟩
      have HK := Aside0.mk hkk
      clear hkk
      have hl0 : ((kk : Int) + 1 == 0) = false := by simp; omega
      have hl1 : decide (0 < (kk : Int) + 1) = true := decide_eq_true (by omega)
      have B1 : Aside0 (((bitN a.natAbs : Nat) : Int) = (kk : Int) + 1) := ⟨by rw [HK.out]; rfl⟩
      have B2 : Aside0 (((bitN zu.natAbs : Nat) : Int) = (kk : Int) + 1 + (M : Int)) := ⟨by rw [Gu.out, if_neg HA0.out, HK.out]; omega⟩
      obtain ⟨cx0a, cx1a, cxla⟩ := Va.out.cells
      go_wp2_with fail
      refine (bits_zv a ((kk : Int) + 1) B1 (lim_le La.out (by omega)) _ _ _ (Va.out.rv)).mono ?_
      rintro e w6_ ⟨rfl, b⟩
      clear cx0a cx1a cxla
      replace Va := Aside0.mk (Va.out.below b.out)
      replace Vu := Aside0.mk (Vu.out.below b.out)
      replace Vb := Aside0.mk (Vb.out.below b.out)
      replace Vt := Aside0.mk (Vt.out.below b.out)
      replace Vo := Aside0.mk (Vo.out.below b.out)
      replace Vd := Aside0.mk (Vd.out.below b.out)
      replace Vl := Aside0.mk (Vl.out.below b.out)
      replace Vm := Aside0.mk (Vm.out.below b.out)
      replace Vh := Aside0.mk (Vh.out.below b.out)
      replace HB := Aside0.mk (below_then HB.out HB.out.size b.out)
      clear b
      obtain ⟨cx0u, cx1u, cxlu⟩ := Vu.out.cells
      go_wp2_with fail
      refine (bits_zv zu ((kk : Int) + 1 + (M : Int)) B2 (lim_le Lu.out (by omega)) _ _ _ (Vu.out.rv)).mono ?_
      rintro e w7_ ⟨rfl, b⟩
      clear cx0u cx1u cxlu
      replace Va := Aside0.mk (Va.out.below b.out)
      replace Vu := Aside0.mk (Vu.out.below b.out)
      replace Vb := Aside0.mk (Vb.out.below b.out)
      replace Vt := Aside0.mk (Vt.out.below b.out)
      replace Vo := Aside0.mk (Vo.out.below b.out)
      replace Vd := Aside0.mk (Vd.out.below b.out)
      replace Vl := Aside0.mk (Vl.out.below b.out)
      replace Vm := Aside0.mk (Vm.out.below b.out)
      replace Vh := Aside0.mk (Vh.out.below b.out)
      replace HB := Aside0.mk (below_then HB.out HB.out.size b.out)
      clear b
      have Vs := Aside0.mk (SV.new Va.out.rv)
      obtain ⟨cx0a, cx1a, cxla⟩ := Va.out.cells
      go_wp2_with fail
      refine (of_z 1 (by decide) (by decide) _).mono ?_
      rintro e w8_ ⟨Aq, cq, rfl, Rq, b⟩
      clear cx0a cx1a cxla
      replace Va := Aside0.mk ((Va.out.alloc _).below b.out)
      replace Vu := Aside0.mk ((Vu.out.alloc _).below b.out)
      replace Vb := Aside0.mk ((Vb.out.alloc _).below b.out)
      replace Vt := Aside0.mk ((Vt.out.alloc _).below b.out)
      replace Vo := Aside0.mk ((Vo.out.alloc _).below b.out)
      replace Vd := Aside0.mk ((Vd.out.alloc _).below b.out)
      replace Vl := Aside0.mk ((Vl.out.alloc _).below b.out)
      replace Vm := Aside0.mk ((Vm.out.alloc _).below b.out)
      replace Vh := Aside0.mk ((Vh.out.alloc _).below b.out)
      replace Vs := Aside0.mk (Vs.out.below b.out)
      replace HB := Aside0.mk (below_then HB.out HB.out.size (((Below.refl w7_.heap.size w7_).alloc (Nat.le_refl _) _).trans (b.out.mono (by simp))))
      clear b
      obtain ⟨zp, hz⟩ : ∃ z, shZ 1 ((kk : Int) + 1) = z := ⟨_, rfl⟩
      have Ep := Aside0.mk hz
      clear hz
      have Lp : Aside0 (lim 61 zp) := ⟨by rw [← Ep.out, show (kk : Int) + 1 = ((kk + 1 : Nat) : Int) by omega]; exact lim_up (k := 1) (j := 60) (kk + 1) (lim_one 1 (by omega)) (by omega)⟩
      go_wp2_with fail
      refine (shift_zv 1 ((kk : Int) + 1) zp Ep (lim_one 4096 (by omega)) (by omega) (by omega) (lim_le Lp.out (by omega)) (may_up _ (lim_one 1 (by omega)) (by omega) (by omega)) _ _ _ Rq.out).mono ?_
      rintro e w9_ ⟨Ap, cp, rfl, Rp, b⟩
      replace Va := Aside0.mk (Va.out.below b.out)
      replace Vu := Aside0.mk (Vu.out.below b.out)
      replace Vb := Aside0.mk (Vb.out.below b.out)
      replace Vt := Aside0.mk (Vt.out.below b.out)
      replace Vo := Aside0.mk (Vo.out.below b.out)
      replace Vd := Aside0.mk (Vd.out.below b.out)
      replace Vl := Aside0.mk (Vl.out.below b.out)
      replace Vm := Aside0.mk (Vm.out.below b.out)
      replace Vh := Aside0.mk (Vh.out.below b.out)
      replace Vs := Aside0.mk (Vs.out.below b.out)
      replace Rq := Aside0.mk ((Rq.out).below b.out)
      replace HB := Aside0.mk (below_then HB.out HB.out.size b.out)
      clear b
      have Vp := Aside0.mk (BV.new Rp.out)
      clear Rp
      clear Rq
      have Gs : Aside0 (cmpZ ((a.natAbs : Nat) : Int) zp = -1) := ⟨cmpZ_lt (by have := size_top a; rw [B1.out, Ep.out] at this; exact this)⟩
      obtain ⟨cx0s, cx1s, cxls⟩ := Vs.out.cells
      go_wp2_with fail
      refine (cmp_abs1 a zp (lim_le La.out (by omega)) (lim_le Lp.out (by omega)) _ _ _ _ _ (Vs.out.alloc _).rv (Vp.out.rv) (-1) Gs.out).mono ?_
      rintro e w10_ ⟨rfl, b⟩
      clear cx0s cx1s cxls
      replace Va := Aside0.mk ((Va.out.alloc _).below b.out)
      replace Vu := Aside0.mk ((Vu.out.alloc _).below b.out)
      replace Vb := Aside0.mk ((Vb.out.alloc _).below b.out)
      replace Vt := Aside0.mk ((Vt.out.alloc _).below b.out)
      replace Vo := Aside0.mk ((Vo.out.alloc _).below b.out)
      replace Vd := Aside0.mk ((Vd.out.alloc _).below b.out)
      replace Vl := Aside0.mk ((Vl.out.alloc _).below b.out)
      replace Vm := Aside0.mk ((Vm.out.alloc _).below b.out)
      replace Vh := Aside0.mk ((Vh.out.alloc _).below b.out)
      replace Vs := Aside0.mk ((Vs.out.alloc _).below b.out)
      replace Vp := Aside0.mk (Vp.out.below b.out)
      replace HB := Aside0.mk (below_then HB.out HB.out.size (((Below.refl w9_.heap.size w9_).alloc (Nat.le_refl _) _).trans (b.out.mono (by simp))))
      clear b
      go_wp2_with fail
      refine (of_z 1 (by decide) (by decide) _).mono ?_
      rintro e w11_ ⟨Aq, cq, rfl, Rq, b⟩
      replace Va := Aside0.mk (Va.out.below b.out)
      replace Vu := Aside0.mk (Vu.out.below b.out)
      replace Vb := Aside0.mk (Vb.out.below b.out)
      replace Vt := Aside0.mk (Vt.out.below b.out)
      replace Vo := Aside0.mk (Vo.out.below b.out)
      replace Vd := Aside0.mk (Vd.out.below b.out)
      replace Vl := Aside0.mk (Vl.out.below b.out)
      replace Vm := Aside0.mk (Vm.out.below b.out)
      replace Vh := Aside0.mk (Vh.out.below b.out)
      replace Vs := Aside0.mk (Vs.out.below b.out)
      replace Vp := Aside0.mk (Vp.out.below b.out)
      replace HB := Aside0.mk (below_then HB.out HB.out.size b.out)
      clear b
      obtain ⟨zf, hz⟩ : ∃ z, shZ 1 (kk : Int) = z := ⟨_, rfl⟩
      have Ef := Aside0.mk hz
      clear hz
      have Lf : Aside0 (lim 61 zf) := ⟨by rw [← Ef.out]; exact lim_up (k := 1) (j := 60) kk (lim_one 1 (by omega)) (by omega)⟩
      go_wp2_with fail
      refine (shift_zv 1 (kk : Int) zf Ef (lim_one 4096 (by omega)) (by omega) (by omega) (lim_le Lf.out (by omega)) (may_up _ (lim_one 1 (by omega)) (by omega) (by omega)) _ _ _ Rq.out).mono ?_
      rintro e w12_ ⟨Af, cf, rfl, Rf, b⟩
      replace Va := Aside0.mk (Va.out.below b.out)
      replace Vu := Aside0.mk (Vu.out.below b.out)
      replace Vb := Aside0.mk (Vb.out.below b.out)
      replace Vt := Aside0.mk (Vt.out.below b.out)
      replace Vo := Aside0.mk (Vo.out.below b.out)
      replace Vd := Aside0.mk (Vd.out.below b.out)
      replace Vl := Aside0.mk (Vl.out.below b.out)
      replace Vm := Aside0.mk (Vm.out.below b.out)
      replace Vh := Aside0.mk (Vh.out.below b.out)
      replace Vs := Aside0.mk (Vs.out.below b.out)
      replace Vp := Aside0.mk (Vp.out.below b.out)
      replace Rq := Aside0.mk ((Rq.out).below b.out)
      replace HB := Aside0.mk (below_then HB.out HB.out.size b.out)
      clear b
      have Vf := Aside0.mk (BV.new Rf.out)
      clear Rf
      clear Rq
      obtain ⟨p2, hp2⟩ : ∃ p, cmpZ zf ((a.natAbs : Nat) : Int) = p := ⟨_, rfl⟩
      have Q2 := Aside0.mk hp2
      have Q3 : p2 ≤ 0 := by
        have h1 := half_size a HA0.out
        rw [HK.out, Nat.add_sub_cancel, Ef.out] at h1
        rw [← hp2]; unfold cmpZ; split <;> (try split) <;> omega
      have Q4 : decide (p2 ≤ 0) = true := decide_eq_true Q3
      clear hp2
      obtain ⟨cx0s, cx1s, cxls⟩ := Vs.out.cells
      go_wp2_with fail
      refine (cmp_abs2 zf a (lim_le Lf.out (by omega)) (lim_le La.out (by omega)) _ _ _ _ _ (Vf.out.rv) (Vs.out.alloc _).rv p2 Q2.out).mono ?_
      rintro e w13_ ⟨rfl, b⟩
      clear cx0s cx1s cxls
      replace Va := Aside0.mk ((Va.out.alloc _).below b.out)
      replace Vu := Aside0.mk ((Vu.out.alloc _).below b.out)
      replace Vb := Aside0.mk ((Vb.out.alloc _).below b.out)
      replace Vt := Aside0.mk ((Vt.out.alloc _).below b.out)
      replace Vo := Aside0.mk ((Vo.out.alloc _).below b.out)
      replace Vd := Aside0.mk ((Vd.out.alloc _).below b.out)
      replace Vl := Aside0.mk ((Vl.out.alloc _).below b.out)
      replace Vm := Aside0.mk ((Vm.out.alloc _).below b.out)
      replace Vh := Aside0.mk ((Vh.out.alloc _).below b.out)
      replace Vs := Aside0.mk ((Vs.out.alloc _).below b.out)
      replace Vp := Aside0.mk ((Vp.out.alloc _).below b.out)
      replace Vf := Aside0.mk (Vf.out.below b.out)
      replace HB := Aside0.mk (below_then HB.out HB.out.size (((Below.refl w12_.heap.size w12_).alloc (Nat.le_refl _) _).trans (b.out.mono (by simp))))
      clear b
      go_wp2_with fail
      refine (awake_z _).mono ?_
      rintro e w14_ ⟨rfl, b⟩
      replace Va := Aside0.mk (Va.out.below b.out)
      replace Vu := Aside0.mk (Vu.out.below b.out)
      replace Vb := Aside0.mk (Vb.out.below b.out)
      replace Vt := Aside0.mk (Vt.out.below b.out)
      replace Vo := Aside0.mk (Vo.out.below b.out)
      replace Vd := Aside0.mk (Vd.out.below b.out)
      replace Vl := Aside0.mk (Vl.out.below b.out)
      replace Vm := Aside0.mk (Vm.out.below b.out)
      replace Vh := Aside0.mk (Vh.out.below b.out)
      replace Vs := Aside0.mk (Vs.out.below b.out)
      replace Vp := Aside0.mk (Vp.out.below b.out)
      replace Vf := Aside0.mk (Vf.out.below b.out)
      replace HB := Aside0.mk (below_then HB.out HB.out.size b.out)
      clear b
      go_wp2
      go_ret
      exact ⟨rfl, HB.out⟩
end Go.Proofs.Ytlcjnahfahobjaa.Lb
