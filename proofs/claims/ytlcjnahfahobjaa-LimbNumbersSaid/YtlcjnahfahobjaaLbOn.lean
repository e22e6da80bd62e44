/- limb: LimbOne: the walk. -/
import Derived.Test.YtlcjnahfahobjaaLbKi
import Derived.Test.YtlcjnahfahobjaaLbCr
import Derived.Test.YtlcjnahfahobjaaLbLe
import Derived.Test.YtlcjnahfahobjaaPDx0
import Derived.Test.YtlcjnahfahobjaaLbC
import Derived.Test.YtlcjnahfahobjaaLbPc
import Derived.Test.YtlcjnahfahobjaaLbU
import Derived.Test.YtlcjnahfahobjaaLbI
import Derived.Test.YtlcjnahfahobjaaLbX
namespace Go.Proofs.Ytlcjnahfahobjaa.Lb
open Go.RowKit Go.Proofs.YtlcjnahfahobjaaW.PrintWords Go.Proofs.YtlcjnahfahobjaaW.PrintLast Go.Proofs.YtlcjnahfahobjaaW.PrintMore
set_option linter.unusedVariables false
set_option linter.unusedSimpArgs false

theorem small_t (s : Bool) (A : Option Addr) (c : Nat) (l : List Int) (n : Int) (d : Bool) (hr : smallS s l = (n, d)) (hc : l.length ≤ c) (ol : okL l) (hm : l.length ≤ 17592186043904) (w : World) (h : u64.C w A l.length l) :
    Calls Try.prog 32 #[.agg #[.bool s, .slice A l.length c]] w (OutP w (.tuple #[.int .i64 n, .bool d])) := by
  obtain ⟨k, hk⟩ := small_f s l ol (by omega)
  exact (PC.limb_Small.calls k s A c l n d w h hc (hk.trans (congrArg some hr))).mono fun e w' h => ⟨h.1, ⟨h.2⟩⟩
theorem neg_t (s : Bool) (A : Option Addr) (c : Nat) (l : List Int) (r1 : Bool) (r2 : List Int) (r3 : Int) (hr : negS s l = (r1, r2, r3)) (hc : l.length ≤ c) (ol : okL l) (hm : l.length ≤ 17592186043904) (w : World) (h : u64.C w A l.length l) :
    Calls Try.prog 21 #[.agg #[.bool s, .slice A l.length c]] w (OutT w r1 r2 r3) := (neg_c s A c l hc ol (by omega) w h).mono fun e w' h => outT_V hr h
theorem bits_t (s : Bool) (A : Option Addr) (c : Nat) (l : List Int) (r1 r2 : Int) (hr : ((if rightB s l then ((bitN (nv l) : Nat) : Int) else 0), (if rightB s l then (0 : Int) else 2)) = (r1, r2)) (hc : l.length ≤ c) (ol : okL l) (hm : l.length ≤ 17592186043904) (w : World) (h : u64.C w A l.length l) :
    Calls Try.prog 27 #[.agg #[.bool s, .slice A l.length c]] w (OutP w (.tuple #[.int .i64 r1, .int .i64 r2])) := by
  simp only [Prod.mk.injEq] at hr
  rw [← hr.1, ← hr.2]
  exact (bits_c s A c l hc ol (by omega) w h).mono fun e w' h => ⟨h.1, ⟨h.2⟩⟩
theorem shift_t (s : Bool) (A : Option Addr) (c : Nat) (l : List Int) (b : Int) (b0 : -9223372036854775808 ≤ b) (b1 : b ≤ 9223372036854775807) (r1 : Bool) (r2 : List Int) (r3 : Int) (hr : shiftS s l b = (r1, r2, r3)) (hc : l.length ≤ c) (ol : okL l) (hm : l.length ≤ 17592186043904) (w : World) (h : u64.C w A l.length l) :
    Calls Try.prog 25 #[.agg #[.bool s, .slice A l.length c], .int .i64 b] w (OutT w r1 r2 r3) := (shift_c s A c l b hc ol (by omega) b0 b1 w h).mono fun e w' h => outT_V hr h
theorem right_t (s : Bool) (A : Option Addr) (c : Nat) (l : List Int) (v : Bool) (hr : rightB s l = v) (hc : l.length ≤ c) (ol : okL l) (hm : l.length ≤ 17592186043904) (w : World) (h : u64.C w A l.length l) :
    Calls Try.prog 23 #[.agg #[.bool s, .slice A l.length c]] w (OutP w (.bool v)) := by
  subst hr
  exact (right_c s A c l hc (by omega) w h).mono fun e w' h => ⟨h.1, ⟨h.2⟩⟩
/-- What a call that answers a number alone comes to, as limbs. -/
def OutU (w : World) (r1 : Bool) (r2 : List Int) (e : Ending) (w' : World) : Prop := ∃ A c, e = .returned (.agg #[.bool r1, .slice A r2.length c]) ∧ Aside0 (r2.length ≤ c ∧ u64.C w' A r2.length r2) ∧ Aside0 (Below w.heap.size w w')
theorem of_t (n : Int) (h0 : -9223372036854775808 ≤ n) (h1 : n ≤ 9223372036854775807) (r1 : Bool) (r2 : List Int) (hr : mkS n = (r1, r2, 0)) (hl : lim 4096 n) (w : World) : Calls Try.prog 26 #[.int .i64 n] w (OutU w r1 r2) := by
  rw [mkS_lim hl] at hr
  simp only [Prod.mk.injEq] at hr
  obtain ⟨rfl, rfl, _⟩ := hr
  exact (of_z n h0 h1 w).mono fun e w' ⟨A, c, h, hr, hb⟩ => ⟨A, c, h, ⟨hr.out.cap, hr.out.reads⟩, hb⟩
/-- What is known in LimbOne: the number, it lent, the two opposites, the two shifted ones. -/
structure OneI (w0 w : World) (s : Bool) (l : List Int) (A : Option Addr) (c gi : Nat) (B : Option Addr) (d : Nat) (a1 : Bool) (a2 : List Int) (ge : Nat) (Ae : Option Addr) (ce gg : Nat) (Ag : Option Addr) (cg : Nat) (e1 : Bool) (e2 : List Int) (gm : Nat) (Am : Option Addr) (cm gp : Nat) (Ap : Option Addr) (cp : Nat) : Prop where
  x : NV w w0.heap.size s A l.length c l
  i : NV w gi s B l.length d (lk l)
  e : NV w ge a1 Ae a2.length ce a2
  g : NV w gg a1 Ag a2.length cg a2
  m : NV w gm e1 Am e2.length cm e2
  p : NV w gp e1 Ap e2.length cp e2
  b : Below w0.heap.size w0 w
section
variable {w0 w w' : World} {s : Bool} {l : List Int} {A : Option Addr} {c gi : Nat} {B : Option Addr} {d : Nat} {a1 : Bool} {a2 : List Int} {ge : Nat} {Ae : Option Addr} {ce gg : Nat} {Ag : Option Addr} {cg : Nat} {e1 : Bool} {e2 : List Int} {gm : Nat} {Am : Option Addr} {cm gp : Nat} {Ap : Option Addr} {cp : Nat}
theorem OneI.below (h : OneI w0 w s l A c gi B d a1 a2 ge Ae ce gg Ag cg e1 e2 gm Am cm gp Ap cp) (hb : Below w.heap.size w w') : OneI w0 w' s l A c gi B d a1 a2 ge Ae ce gg Ag cg e1 e2 gm Am cm gp Ap cp :=
  ⟨h.x.below hb, h.i.below hb, h.e.below hb, h.g.below hb, h.m.below hb, h.p.below hb, below_then h.b h.b.size hb⟩
theorem OneI.drew (h : OneI w0 w s l A c gi B d a1 a2 ge Ae ce gg Ag cg e1 e2 gm Am cm gp Ap cp) : OneI w0 w.drew s l A c gi B d a1 a2 ge Ae ce gg Ag cg e1 e2 gm Am cm gp Ap cp := h.below (Below.refl _ _).drew
theorem OneI.cells (h : OneI w0 w s l A c gi B d a1 a2 ge Ae ce gg Ag cg e1 e2 gm Am cm gp Ap cp) :
    (w.cell? ⟨w0.heap.size, 0, none⟩ = some (.bool s) ∧ w.cell? ⟨w0.heap.size, 1, none⟩ = some (.slice A l.length c) ∧ w.cell? ⟨gi, 0, none⟩ = some (.bool s) ∧ w.cell? ⟨gi, 1, none⟩ = some (.slice B l.length d)) ∧
    (w.cell? ⟨ge, 0, none⟩ = some (.bool a1) ∧ w.cell? ⟨ge, 1, none⟩ = some (.slice Ae a2.length ce) ∧ w.cell? ⟨gg, 0, none⟩ = some (.bool a1) ∧ w.cell? ⟨gg, 1, none⟩ = some (.slice Ag a2.length cg)) ∧
    (w.cell? ⟨gm, 0, none⟩ = some (.bool e1) ∧ w.cell? ⟨gm, 1, none⟩ = some (.slice Am e2.length cm) ∧ w.cell? ⟨gp, 0, none⟩ = some (.bool e1) ∧ w.cell? ⟨gp, 1, none⟩ = some (.slice Ap e2.length cp)) :=
  ⟨⟨h.x.cells.1, h.x.cells.2.1, h.i.cells.1, h.i.cells.2.1⟩, ⟨h.e.cells.1, h.e.cells.2.1, h.g.cells.1, h.g.cells.2.1⟩, ⟨h.m.cells.1, h.m.cells.2.1, h.p.cells.1, h.p.cells.2.1⟩⟩
end
end Go.Proofs.Ytlcjnahfahobjaa.Lb
