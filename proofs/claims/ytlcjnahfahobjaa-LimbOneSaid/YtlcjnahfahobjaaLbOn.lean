/- limb: LimbOne: the walk. -/
import Derived.Test.YtlcjnahfahobjaaLbKi
import Derived.Test.YtlcjnahfahobjaaLbSm
import Derived.Test.YtlcjnahfahobjaaLbX
namespace Go.Proofs.Ytlcjnahfahobjaa.Lb
open Go.RowKit Go.Proofs.YtlcjnahfahobjaaW.PrintWords Go.Proofs.YtlcjnahfahobjaaW.PrintLast Go.Proofs.YtlcjnahfahobjaaW.PrintMore
set_option linter.unusedVariables false
set_option linter.unusedSimpArgs false

theorem small_t (s : Bool) (A : Option Addr) (c : Nat) (l : List Int) (n : Int) (d : Bool) (hr : smallS s l = (n, d)) (hc : l.length ≤ c) (ol : okL l) (hm : l.length ≤ 17592186043904) (w : World) (h : u64.C w A l.length l) :
    Calls Try.prog 32 #[.agg #[.bool s, .slice A l.length c]] w (OutP w (.tuple #[.int .i64 n, .bool d])) := by
  obtain ⟨k, hk⟩ := small_f s l ol (by omega)
  exact (PC.limb_Small.calls k s A c l n d w h hc (hk.trans (congrArg some hr))).mono fun e w' h => ⟨h.1, ⟨h.2⟩⟩
theorem refSmall_t (s : Bool) (A : Option Addr) (c : Nat) (l : List Int) (n : Int) (d : Bool) (hr : smallS s l = (n, d)) (hc : l.length ≤ c) (ol : okL l) (hm : l.length ≤ 17592186043904) (w : World) (h : u64.C w A l.length l) :
    Calls Try.prog 33 #[.agg #[.bool s, .slice A l.length c]] w (OutP w (.tuple #[.int .i64 n, .bool d])) := (refSmall_c s A c l hc ol hm n d hr w h).mono fun e w' h => h
theorem neg_t (s : Bool) (A : Option Addr) (c : Nat) (l : List Int) (r1 : Bool) (r2 : List Int) (r3 : Int) (hr : negS s l = (r1, r2, r3)) (hc : l.length ≤ c) (ol : okL l) (hm : l.length ≤ 17592186043904) (w : World) (h : u64.C w A l.length l) :
    Calls Try.prog 21 #[.agg #[.bool s, .slice A l.length c]] w (OutT w r1 r2 r3) := (neg_c s A c l hc ol (by omega) w h).mono fun e w' h => outT_V hr h
theorem refNeg_t (s : Bool) (A : Option Addr) (c : Nat) (l : List Int) (r1 : Bool) (r2 : List Int) (r3 : Int) (hr : negS s l = (r1, r2, r3)) (hc : l.length ≤ c) (ol : okL l) (hm : l.length ≤ 17592186043904) (w : World) (h : u64.C w A l.length l) :
    Calls Try.prog 34 #[.agg #[.bool s, .slice A l.length c]] w (OutT w r1 r2 r3) := (PD.rosetteref13_Neg.calls 50000001 s A c l r1 r2 r3 w h hc ((refNeg_f s l ol (by omega)).trans (congrArg some hr))).mono fun e w' h => outT_R h
theorem bits_t (s : Bool) (A : Option Addr) (c : Nat) (l : List Int) (r1 r2 : Int) (hr : ((if rightB s l then ((bitN (nv l) : Nat) : Int) else 0), (if rightB s l then (0 : Int) else 2)) = (r1, r2)) (hc : l.length ≤ c) (ol : okL l) (hm : l.length ≤ 17592186043904) (w : World) (h : u64.C w A l.length l) :
    Calls Try.prog 27 #[.agg #[.bool s, .slice A l.length c]] w (OutP w (.tuple #[.int .i64 r1, .int .i64 r2])) := by
  simp only [Prod.mk.injEq] at hr
  rw [← hr.1, ← hr.2]
  exact (bits_c s A c l hc ol (by omega) w h).mono fun e w' h => ⟨h.1, ⟨h.2⟩⟩
theorem refBits_t (s : Bool) (A : Option Addr) (c : Nat) (l : List Int) (r1 r2 : Int) (hr : ((if rightB s l then ((bitN (nv l) : Nat) : Int) else 0), (if rightB s l then (0 : Int) else 2)) = (r1, r2)) (hc : l.length ≤ c) (ol : okL l) (hm : l.length ≤ 17592186043904) (w : World) (h : u64.C w A l.length l) :
    Calls Try.prog 35 #[.agg #[.bool s, .slice A l.length c]] w (OutP w (.tuple #[.int .i64 r1, .int .i64 r2])) := (PD.rosetteref13_Bits.calls 50000001 s A c l r1 r2 w h hc ((refBits_f s l ol (by omega)).trans (congrArg some hr))).mono fun e w' h => ⟨h.1, ⟨h.2⟩⟩
theorem shift_t (s : Bool) (A : Option Addr) (c : Nat) (l : List Int) (b : Int) (b0 : -9223372036854775808 ≤ b) (b1 : b ≤ 9223372036854775807) (r1 : Bool) (r2 : List Int) (r3 : Int) (hr : shiftS s l b = (r1, r2, r3)) (hc : l.length ≤ c) (ol : okL l) (hm : l.length ≤ 17592186043904) (w : World) (h : u64.C w A l.length l) :
    Calls Try.prog 25 #[.agg #[.bool s, .slice A l.length c], .int .i64 b] w (OutT w r1 r2 r3) := (shift_c s A c l b hc ol (by omega) b0 b1 w h).mono fun e w' h => outT_V hr h
theorem refShift_t (s : Bool) (A : Option Addr) (c : Nat) (l : List Int) (b : Int) (b0 : -9223372036854775808 ≤ b) (b1 : b ≤ 9223372036854775807) (r1 : Bool) (r2 : List Int) (r3 : Int) (hr : shiftS s l b = (r1, r2, r3)) (hc : l.length ≤ c) (ol : okL l) (hm : l.length ≤ 17592186043904) (w : World) (h : u64.C w A l.length l) :
    Calls Try.prog 36 #[.agg #[.bool s, .slice A l.length c], .int .i64 b] w (OutT w r1 r2 r3) := (PD.rosetteref13_Shift.calls 50000003 s A c l b r1 r2 r3 w h hc ((refShift_f s l b ol (by omega) b0 b1).trans (congrArg some hr))).mono fun e w' h => outT_R h
theorem right_t (s : Bool) (A : Option Addr) (c : Nat) (l : List Int) (v : Bool) (hr : rightB s l = v) (hc : l.length ≤ c) (ol : okL l) (hm : l.length ≤ 17592186043904) (w : World) (h : u64.C w A l.length l) :
    Calls Try.prog 23 #[.agg #[.bool s, .slice A l.length c]] w (OutP w (.bool v)) := by
  subst hr
  exact (right_c s A c l hc (by omega) w h).mono fun e w' h => ⟨h.1, ⟨h.2⟩⟩
theorem rightR2_t (s : Bool) (A : Option Addr) (c : Nat) (l : List Int) (v : Bool) (hr : rightB s l = v) (hc : l.length ≤ c) (ol : okL l) (hm : l.length ≤ 17592186043904) (w : World) (h : u64.C w A l.length l) :
    Calls Try.prog 37 #[.agg #[.bool s, .slice A l.length c]] w (OutP w (.bool v)) := (rightR_t s A c l v hr hc hm w h).mono fun e w' h => h
/-- What a call that answers a number alone comes to, as limbs. -/
def OutU (w : World) (r1 : Bool) (r2 : List Int) (e : Ending) (w' : World) : Prop := ∃ A c, e = .returned (.agg #[.bool r1, .slice A r2.length c]) ∧ Aside0 (r2.length ≤ c ∧ u64.C w' A r2.length r2) ∧ Aside0 (Below w.heap.size w w')
theorem of_t (n : Int) (h0 : -9223372036854775808 ≤ n) (h1 : n ≤ 9223372036854775807) (r1 : Bool) (r2 : List Int) (hr : mkS n = (r1, r2, 0)) (hl : lim 4096 n) (w : World) : Calls Try.prog 26 #[.int .i64 n] w (OutU w r1 r2) := by
  rw [mkS_lim hl] at hr
  simp only [Prod.mk.injEq] at hr
  obtain ⟨rfl, rfl, _⟩ := hr
  exact (of_z n h0 h1 w).mono fun e w' ⟨A, c, h, hr, hb⟩ => ⟨A, c, h, ⟨hr.out.cap, hr.out.reads⟩, hb⟩
theorem refOf_t (n : Int) (h0 : -9223372036854775808 ≤ n) (h1 : n ≤ 9223372036854775807) (r1 : Bool) (r2 : List Int) (hr : mkS n = (r1, r2, 0)) (w : World) : Calls Try.prog 38 #[.int .i64 n] w (OutU w r1 r2) :=
  (PD.rosetteref13_Of.calls 50000001 n r1 r2 w ((refOf_f n h0 h1).trans (by rw [hr]))).mono fun e w' ⟨v, h, hR, hb⟩ => by
    obtain ⟨A, c, rfl⟩ := Kd.R_slice hR
    have h2 := Kd.R_reads' hR
    exact ⟨A, c, h, ⟨h2.2.1, h2.2.2⟩, ⟨hb⟩⟩
theorem toldS_le (s : Bool) (n : Nat) : (toldS s n).2.1.length ≤ 4096 := by
  unfold toldS
  split
  · simp
  · split
    · simp
    · simp; omega
theorem negS_len (s : Bool) (l : List Int) : (negS s l).2.1.length ≤ 4096 := by
  unfold negS
  split
  · exact toldS_le _ _
  · simp
theorem shiftS_len (s : Bool) (l : List Int) (b : Int) : (shiftS s l b).2.1.length ≤ 4096 := by
  unfold shiftS
  split
  · split
    · simp
    · split
      · simp
      · split
        · exact toldS_le _ _
        · exact toldS_le _ _
  · simp
/-- What is known in LimbOne: the number, it lent, the two opposites, the two shifted ones. -/
structure OneI (w0 w : World) (s : Bool) (l : List Int) (A : Option Addr) (c gi : Nat) (B : Option Addr) (d : Nat) (a1 : Bool) (a2 : List Int) (ge : Nat) (Ae : Option Addr) (ce gg : Nat) (Ag : Option Addr) (cg : Nat) (e1 : Bool) (e2 : List Int) (gm : Nat) (Am : Option Addr) (cm gp : Nat) (Ap : Option Addr) (cp : Nat) : Prop where
  x : NV w w0.heap.size s A l.length c l
  i : NV w gi s B l.length d (lk l)
  e : NV w ge a1 Ae a2.length ce a2
  g : NV w gg a1 Ag a2.length cg a2
  m : NV w gm e1 Am e2.length cm e2
  p : NV w gp e1 Ap e2.length cp e2
  b : Below w0.heap.size w0 w
section
variable {w0 w w' : World} {s : Bool} {l : List Int} {A : Option Addr} {c gi : Nat} {B : Option Addr} {d : Nat} {a1 : Bool} {a2 : List Int} {ge : Nat} {Ae : Option Addr} {ce gg : Nat} {Ag : Option Addr} {cg : Nat} {e1 : Bool} {e2 : List Int} {gm : Nat} {Am : Option Addr} {cm gp : Nat} {Ap : Option Addr} {cp : Nat}
theorem OneI.below (h : OneI w0 w s l A c gi B d a1 a2 ge Ae ce gg Ag cg e1 e2 gm Am cm gp Ap cp) (hb : Below w.heap.size w w') : OneI w0 w' s l A c gi B d a1 a2 ge Ae ce gg Ag cg e1 e2 gm Am cm gp Ap cp :=
  ⟨h.x.below hb, h.i.below hb, h.e.below hb, h.g.below hb, h.m.below hb, h.p.below hb, below_then h.b h.b.size hb⟩
theorem OneI.drew (h : OneI w0 w s l A c gi B d a1 a2 ge Ae ce gg Ag cg e1 e2 gm Am cm gp Ap cp) : OneI w0 w.drew s l A c gi B d a1 a2 ge Ae ce gg Ag cg e1 e2 gm Am cm gp Ap cp := h.below (Below.refl _ _).drew
theorem OneI.cells (h : OneI w0 w s l A c gi B d a1 a2 ge Ae ce gg Ag cg e1 e2 gm Am cm gp Ap cp) :
    (w.cell? ⟨w0.heap.size, 0, none⟩ = some (.bool s) ∧ w.cell? ⟨w0.heap.size, 1, none⟩ = some (.slice A l.length c) ∧ w.cell? ⟨gi, 0, none⟩ = some (.bool s) ∧ w.cell? ⟨gi, 1, none⟩ = some (.slice B l.length d)) ∧
    (w.cell? ⟨ge, 0, none⟩ = some (.bool a1) ∧ w.cell? ⟨ge, 1, none⟩ = some (.slice Ae a2.length ce) ∧ w.cell? ⟨gg, 0, none⟩ = some (.bool a1) ∧ w.cell? ⟨gg, 1, none⟩ = some (.slice Ag a2.length cg)) ∧
    (w.cell? ⟨gm, 0, none⟩ = some (.bool e1) ∧ w.cell? ⟨gm, 1, none⟩ = some (.slice Am e2.length cm) ∧ w.cell? ⟨gp, 0, none⟩ = some (.bool e1) ∧ w.cell? ⟨gp, 1, none⟩ = some (.slice Ap e2.length cp)) :=
  ⟨⟨h.x.cells.1, h.x.cells.2.1, h.i.cells.1, h.i.cells.2.1⟩, ⟨h.e.cells.1, h.e.cells.2.1, h.g.cells.1, h.g.cells.2.1⟩, ⟨h.m.cells.1, h.m.cells.2.1, h.p.cells.1, h.p.cells.2.1⟩⟩
end
set_option maxRecDepth 100000 in
set_option maxHeartbeats 4000000 in
theorem one_c (s : Bool) (A : Option Addr) (c : Nat) (l : List Int) (hc : l.length ≤ c) (ol : okL l) (hm : l.length ≤ 17592186043904) (b n : Int) (w : World) (hr : u64.C w A l.length l) (hb : -9223372036854775808 ≤ b ∧ b ≤ 9223372036854775807) (hn : -9223372036854775808 ≤ n ∧ n ≤ 9223372036854775807) :
    Calls Try.prog 8 #[.agg #[.bool s, .slice A l.length c], .int .i64 b, .int .i64 n] w fun e w' => e = .returned (.bool true) ∧ Below w.heap.size w w' := by
  have hu := Try.underlying24
  have hus := Try.underlying22
  have Vx := Aside0.mk (NV.new (g := w.heap.size) s l.length c rfl (Nat.le_refl _) hc hr)
  have HB := Aside0.mk ((Below.refl w.heap.size w).alloc (Nat.le_refl _) (.cells #[.bool s, .slice A l.length c] 24))
  clear hr
  obtain ⟨⟨n1, d1⟩, hss⟩ : ∃ p, smallS s l = p := ⟨_, rfl⟩
  obtain ⟨⟨a1, a2, a3⟩, hnn⟩ : ∃ p, negS s l = p := ⟨_, rfl⟩
  obtain ⟨⟨b1, b2⟩, hbb⟩ : ∃ p, ((if rightB s l then ((bitN (nv l) : Nat) : Int) else 0), (if rightB s l then (0 : Int) else 2)) = p := ⟨_, rfl⟩
  obtain ⟨⟨e1, e2, e3⟩, hee⟩ : ∃ p, shiftS s l b = p := ⟨_, rfl⟩
  obtain ⟨rb, hrb⟩ : ∃ p, rightB s l = p := ⟨_, rfl⟩
  have hlm : lim 4096 n := lim_le (k := 1) (by unfold lim B64; omega) (by omega)
  obtain ⟨o1, o2, hoo, hol⟩ : ∃ o1 o2, mkS n = (o1, o2, 0) ∧ o2.length ≤ 17592186043904 := ⟨_, _, mkS_lim hlm, by have := lm_len hlm; omega⟩
  have hal : a2.length ≤ 17592186043904 := by have := negS_len s l; rw [hnn] at this; simp only at this; omega
  have hel : e2.length ≤ 17592186043904 := by have := shiftS_len s l b; rw [hee] at this; simp only at this; omega
  have HSS := Aside0.mk hss
  have HNN := Aside0.mk hnn
  have HBB := Aside0.mk hbb
  have HEE := Aside0.mk hee
  have HRB := Aside0.mk hrb
  have HOO := Aside0.mk hoo
  have HOL := Aside0.mk hol
  have HAL := Aside0.mk hal
  have HEL := Aside0.mk hel
  have HLM := Aside0.mk hlm
  have HOK := Aside0.mk ol
  have HRN := Aside0.mk hn
  have HRG := Aside0.mk hb
  clear hss hnn hbb hee hrb hoo hol hal hel hlm ol hn hb
  obtain ⟨cx0x, cx1x, cxlx⟩ := Vx.out.cells
  go_enter Try.func8, Try.ntmps8
  go_wp2_with fail
  refine (lentI_c s _ _ l hc hm _ Vx.out.all).mono ?_
  rintro e w0_ ⟨B, d, rfl, RV_, b⟩
  have RB_ := Aside0.mk (Kd.V_reads' RV_)
  have b' := Aside0.mk b
  clear RV_ b cx0x cx1x cxlx
  replace Vx := Aside0.mk (Vx.out.below b'.out)
  replace HB := Aside0.mk (below_then HB.out HB.out.size b'.out)
  have Vi := Aside0.mk (NV.new (g := w0_.heap.size) s l.length d rfl (by rw [lk_len]; omega) RB_.out.2.1 RB_.out.2.2)
  clear b' RB_
  go_wp2_with fail
  refine (small_t s _ _ l n1 d1 HSS.out (by have := Vi.out.cap; rw [lk_len] at this; omega) HOK.out hm _ Vi.out.lent).mono ?_
  rintro e w1_ ⟨rfl, bq⟩
  replace Vx := Aside0.mk ((Vx.out.alloc _).below bq.out)
  replace Vi := Aside0.mk (Vi.out.below bq.out)
  replace HB := Aside0.mk (below_then HB.out HB.out.size (((Below.refl w0_.heap.size w0_).alloc (Nat.le_refl _) _).trans (bq.out.mono (by simp))))
  clear bq
  obtain ⟨cx0x, cx1x, cxlx⟩ := Vx.out.cells
  go_wp2_with fail
  refine (refSmall_t s _ _ l n1 d1 HSS.out hc HOK.out hm _ Vx.out.all).mono ?_
  rintro e w2_ ⟨rfl, bq⟩
  clear cx0x cx1x cxlx
  replace Vx := Aside0.mk (Vx.out.below bq.out)
  replace Vi := Aside0.mk (Vi.out.below bq.out)
  replace HB := Aside0.mk (below_then HB.out HB.out.size bq.out)
  clear bq
  obtain ⟨cx0i, cx1i, cxli⟩ := Vi.out.cells
  go_wp2_with fail
  refine (neg_t s _ _ l a1 a2 a3 HNN.out (by have := Vi.out.cap; rw [lk_len] at this; omega) HOK.out hm _ Vi.out.lent).mono ?_
  rintro e w3_ ⟨Ae, ce, rfl, Re, bq⟩
  clear cx0i cx1i cxli
  replace Vx := Aside0.mk (Vx.out.below bq.out)
  replace Vi := Aside0.mk (Vi.out.below bq.out)
  replace HB := Aside0.mk (below_then HB.out HB.out.size bq.out)
  clear bq
  have Ve := Aside0.mk (NV.new (g := w3_.heap.size) a1 a2.length ce rfl (Nat.le_refl _) Re.out.1 Re.out.2)
  clear Re
  obtain ⟨cx0x, cx1x, cxlx⟩ := Vx.out.cells
  go_wp2_with fail
  refine (refNeg_t s _ _ l a1 a2 a3 HNN.out hc HOK.out hm _ (Vx.out.alloc _).all).mono ?_
  rintro e w4_ ⟨Ag, cg, rfl, Rg, bq⟩
  clear cx0x cx1x cxlx
  replace Vx := Aside0.mk ((Vx.out.alloc _).below bq.out)
  replace Vi := Aside0.mk ((Vi.out.alloc _).below bq.out)
  replace Ve := Aside0.mk (Ve.out.below bq.out)
  replace HB := Aside0.mk (below_then HB.out HB.out.size (((Below.refl w3_.heap.size w3_).alloc (Nat.le_refl _) _).trans (bq.out.mono (by simp))))
  clear bq
  have Vg := Aside0.mk (NV.new (g := w4_.heap.size) a1 a2.length cg rfl (Nat.le_refl _) Rg.out.1 Rg.out.2)
  clear Rg
  obtain ⟨cx0i, cx1i, cxli⟩ := Vi.out.cells
  go_wp2_with fail
  refine (bits_t s _ _ l b1 b2 HBB.out (by have := Vi.out.cap; rw [lk_len] at this; omega) HOK.out hm _ (Vi.out.alloc _).lent).mono ?_
  rintro e w5_ ⟨rfl, bq⟩
  clear cx0i cx1i cxli
  replace Vx := Aside0.mk ((Vx.out.alloc _).below bq.out)
  replace Vi := Aside0.mk ((Vi.out.alloc _).below bq.out)
  replace Ve := Aside0.mk ((Ve.out.alloc _).below bq.out)
  replace Vg := Aside0.mk (Vg.out.below bq.out)
  replace HB := Aside0.mk (below_then HB.out HB.out.size (((Below.refl w4_.heap.size w4_).alloc (Nat.le_refl _) _).trans (bq.out.mono (by simp))))
  clear bq
  obtain ⟨cx0x, cx1x, cxlx⟩ := Vx.out.cells
  go_wp2_with fail
  refine (refBits_t s _ _ l b1 b2 HBB.out hc HOK.out hm _ Vx.out.all).mono ?_
  rintro e w6_ ⟨rfl, bq⟩
  clear cx0x cx1x cxlx
  replace Vx := Aside0.mk (Vx.out.below bq.out)
  replace Vi := Aside0.mk (Vi.out.below bq.out)
  replace Ve := Aside0.mk (Ve.out.below bq.out)
  replace Vg := Aside0.mk (Vg.out.below bq.out)
  replace HB := Aside0.mk (below_then HB.out HB.out.size bq.out)
  clear bq
  obtain ⟨cx0i, cx1i, cxli⟩ := Vi.out.cells
  go_wp2_with fail
  refine (shift_t s _ _ l b HRG.out.1 HRG.out.2 e1 e2 e3 HEE.out (by have := Vi.out.cap; rw [lk_len] at this; omega) HOK.out hm _ Vi.out.lent).mono ?_
  rintro e w7_ ⟨Am, cm, rfl, Rm, bq⟩
  clear cx0i cx1i cxli
  replace Vx := Aside0.mk (Vx.out.below bq.out)
  replace Vi := Aside0.mk (Vi.out.below bq.out)
  replace Ve := Aside0.mk (Ve.out.below bq.out)
  replace Vg := Aside0.mk (Vg.out.below bq.out)
  replace HB := Aside0.mk (below_then HB.out HB.out.size bq.out)
  clear bq
  have Vm := Aside0.mk (NV.new (g := w7_.heap.size) e1 e2.length cm rfl (Nat.le_refl _) Rm.out.1 Rm.out.2)
  clear Rm
  obtain ⟨cx0x, cx1x, cxlx⟩ := Vx.out.cells
  go_wp2_with fail
  refine (refShift_t s _ _ l b HRG.out.1 HRG.out.2 e1 e2 e3 HEE.out hc HOK.out hm _ (Vx.out.alloc _).all).mono ?_
  rintro e w8_ ⟨Ap, cp, rfl, Rp, bq⟩
  clear cx0x cx1x cxlx
  replace Vx := Aside0.mk ((Vx.out.alloc _).below bq.out)
  replace Vi := Aside0.mk ((Vi.out.alloc _).below bq.out)
  replace Ve := Aside0.mk ((Ve.out.alloc _).below bq.out)
  replace Vg := Aside0.mk ((Vg.out.alloc _).below bq.out)
  replace Vm := Aside0.mk (Vm.out.below bq.out)
  replace HB := Aside0.mk (below_then HB.out HB.out.size (((Below.refl w7_.heap.size w7_).alloc (Nat.le_refl _) _).trans (bq.out.mono (by simp))))
  clear bq
  have Vp := Aside0.mk (NV.new (g := w8_.heap.size) e1 e2.length cp rfl (Nat.le_refl _) Rp.out.1 Rp.out.2)
  clear Rp
  have I0 := Aside0.mk (OneI.mk (w0 := w) (Vx.out.alloc _) (Vi.out.alloc _) (Ve.out.alloc _) (Vg.out.alloc _) (Vm.out.alloc _) Vp.out (HB.out.alloc HB.out.size _))
  clear Vx Vi Ve Vg Vm Vp HB
  obtain ⟨⟨x0_0, x1_0, i0_0, i1_0⟩, ⟨ee0_0, ee1_0, gg0_0, gg1_0⟩, ⟨m0_0, m1_0, p0_0, p1_0⟩⟩ := I0.out.cells
  go_upto_region 10 with fail
  generalize hWW : (World.alloc _ _) = WW at I0 x0_0 x1_0 i0_0 i1_0 ee0_0 ee1_0 gg0_0 gg1_0 m0_0 m1_0 p0_0 p1_0 ⊢
  clear hWW
  go_region_held3 (fun w' => (w'.cell? ⟨w.heap.size, 0, none⟩ = some (.bool s) ∧ w'.cell? ⟨w.heap.size, 1, none⟩ = some (.slice A l.length c) ∧ w'.cell? ⟨w0_.heap.size, 0, none⟩ = some (.bool s) ∧ w'.cell? ⟨w0_.heap.size, 1, none⟩ = some (.slice B l.length d)) ∧ (w'.cell? ⟨w3_.heap.size, 0, none⟩ = some (.bool a1) ∧ w'.cell? ⟨w3_.heap.size, 1, none⟩ = some (.slice Ae a2.length ce) ∧ w'.cell? ⟨w4_.heap.size, 0, none⟩ = some (.bool a1) ∧ w'.cell? ⟨w4_.heap.size, 1, none⟩ = some (.slice Ag a2.length cg)) ∧ (w'.cell? ⟨w7_.heap.size, 0, none⟩ = some (.bool e1) ∧ w'.cell? ⟨w7_.heap.size, 1, none⟩ = some (.slice Am e2.length cm) ∧ w'.cell? ⟨w8_.heap.size, 0, none⟩ = some (.bool e1) ∧ w'.cell? ⟨w8_.heap.size, 1, none⟩ = some (.slice Ap e2.length cp))) (go_keep) (first | (go_at_call 23; refine (right_t s _ _ l rb HRB.out (by have := I0.out.drew.i.cap; rw [lk_len] at this; omega) HOK.out hm _ I0.out.drew.i.lent).mono ?_; rintro e v1_ ⟨rfl, bq1⟩; have I1 := Aside0.mk (I0.out.drew.below bq1.out); obtain ⟨⟨x0_1, x1_1, i0_1, i1_1⟩, ⟨ee0_1, ee1_1, gg0_1, gg1_1⟩, ⟨m0_1, m1_1, p0_1, p1_1⟩⟩ := I1.out.cells) | (go_at_call 37; refine (rightR2_t s _ _ l rb HRB.out hc HOK.out hm _ I1.out.x.all).mono ?_; rintro e v2_ ⟨rfl, bq2⟩; have I2 := Aside0.mk (I1.out.below bq2.out); obtain ⟨⟨x0_2, x1_2, i0_2, i1_2⟩, ⟨ee0_2, ee1_2, gg0_2, gg1_2⟩, ⟨m0_2, m1_2, p0_2, p1_2⟩⟩ := I2.out.cells) | (go_at_call_of 17 (Value.agg #[.bool a1, .slice Ae a2.length ce]); refine (isT a1 _ _ _ _ a2 a3 HAL.out I2.out.e.cap I2.out.g.cap _ I2.out.e.all I2.out.g.all).mono ?_; rintro e v3_ ⟨rfl, bq3⟩; have I3 := Aside0.mk (I2.out.below bq3.out); obtain ⟨⟨x0_3, x1_3, i0_3, i1_3⟩, ⟨ee0_3, ee1_3, gg0_3, gg1_3⟩, ⟨m0_3, m1_3, p0_3, p1_3⟩⟩ := I3.out.cells) | (go_at_call 17; refine (isT e1 _ _ _ _ e2 e3 HEL.out I3.out.m.cap I3.out.p.cap _ I3.out.m.all I3.out.p.all).mono ?_; rintro e v4_ ⟨rfl, bq4⟩; have I4 := Aside0.mk (I3.out.below bq4.out); obtain ⟨⟨x0_4, x1_4, i0_4, i1_4⟩, ⟨ee0_4, ee1_4, gg0_4, gg1_4⟩, ⟨m0_4, m1_4, p0_4, p1_4⟩⟩ := I4.out.cells))
  clear x0_0 x1_0 i0_0 i1_0 ee0_0 ee1_0 gg0_0 gg1_0 m0_0 m1_0 p0_0 p1_0 x0_1 x1_1 i0_1 i1_1 ee0_1 ee1_1 gg0_1 gg1_1 m0_1 m1_1 p0_1 p1_1 x0_2 x1_2 i0_2 i1_2 ee0_2 ee1_2 gg0_2 gg1_2 m0_2 m1_2 p0_2 p1_2 x0_3 x1_3 i0_3 i1_3 ee0_3 ee1_3 gg0_3 gg1_3 m0_3 m1_3 p0_3 p1_3 ee0_4 ee1_4 gg0_4 gg1_4 m0_4 m1_4 p0_4 p1_4
  go_wp2_with fail
  refine (of_t n HRN.out.1 HRN.out.2 o1 o2 HOO.out HLM.out _).mono ?_
  rintro e v5_ ⟨A5, c5, rfl, R5, b5⟩
  have I5 := Aside0.mk (I4.out.below b5.out)
  go_wp2_with fail
  refine (refOf_t n HRN.out.1 HRN.out.2 o1 o2 HOO.out _).mono ?_
  rintro e v6_ ⟨A6, c6, rfl, R6, b6⟩
  have I6 := Aside0.mk (I5.out.below b6.out)
  have R5' := Aside0.mk (Kd.C_below R5.out.2 b6.out)
  go_wp2_with fail
  refine (sameT o1 _ _ _ _ o2 HOL.out R5.out.1 R6.out.1 _ R5'.out R6.out.2).mono ?_
  rintro e v7_ ⟨rfl, b7⟩
  have I7 := Aside0.mk (I6.out.below b7.out)
  clear x0_4 x1_4 i0_4 i1_4 R5 R5' R6 b5 b6 b7 I4 I5 I6
  obtain ⟨⟨x0_7, x1_7, i0_7, i1_7⟩, ⟨ee0_7, ee1_7, gg0_7, gg1_7⟩, ⟨m0_7, m1_7, p0_7, p1_7⟩⟩ := I7.out.cells
  go_wp2_with fail
  refine (keptI_c s _ _ _ _ l hm hc I7.out.i.cap _ I7.out.i.row I7.out.x.all).mono ?_
  rintro e v8_ ⟨rfl, b8⟩
  have I8 := Aside0.mk (I7.out.below b8.out)
  go_wp2_with fail
  refine (awake_c _).mono ?_
  rintro e v9_ ⟨rfl, b9⟩
  go_wp2
  go_ret
  exact ⟨rfl, below_then I8.out.b I8.out.b.size b9⟩
end Go.Proofs.Ytlcjnahfahobjaa.Lb
