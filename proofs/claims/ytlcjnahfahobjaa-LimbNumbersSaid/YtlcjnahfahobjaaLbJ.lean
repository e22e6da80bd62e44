/- limb: three numbers in variables. -/
import Derived.Test.YtlcjnahfahobjaaLbX
import Derived.Deep.DeepCutAuto
namespace Go.Proofs.Ytlcjnahfahobjaa.Lb
open Go.RowKit Go.Proofs.YtlcjnahfahobjaaW.PrintWords Go.Proofs.YtlcjnahfahobjaaW.PrintLast Go.Proofs.YtlcjnahfahobjaaW.PrintMore
set_option linter.unusedVariables false
set_option linter.unusedSimpArgs false

/-- A Whole in a variable. -/
structure WB (w : World) (g : Nat) (s : Bool) (A : Option Addr) (c : Nat) (l : List Int) : Prop where
  blk : w.heap[g]? = some (.cells #[.bool s, .slice A l.length c] 35 (0, 0))
  reads : u64.C w A l.length l
theorem WB.below {w w' : World} {g : Nat} {s : Bool} {A : Option Addr} {c : Nat} {l : List Int} (h : WB w g s A c l) (hb : Below w.heap.size w w') : WB w' g s A c l :=
  ⟨(hb.block g (Array.getElem?_eq_some_iff.1 h.blk).1).trans h.blk, Kd.C_below h.reads hb⟩
theorem WB.drew {w : World} {g : Nat} {s : Bool} {A : Option Addr} {c : Nat} {l : List Int} (h : WB w g s A c l) : WB w.drew g s A c l := h.below (Below.refl _ _).drew
theorem WB.alloc {w : World} {g : Nat} {s : Bool} {A : Option Addr} {c : Nat} {l : List Int} (h : WB w g s A c l) (o : Obj) : WB (w.alloc o) g s A c l := h.below ((Below.refl _ _).alloc (Nat.le_refl _) o)
theorem WB.new {w : World} {g : Nat} (s : Bool) {A : Option Addr} (c : Nat) {l : List Int} (hg : g = w.heap.size) (h : u64.C w A l.length l) : WB (w.alloc (.cells #[.bool s, .slice A l.length c] 35)) g s A c l := by
  subst hg
  exact ⟨heap_alloc_new w _, Kd.C_alloc h _⟩
theorem WB.cells {w : World} {g : Nat} {s : Bool} {A : Option Addr} {c : Nat} {l : List Int} (h : WB w g s A c l) : w.cell? ⟨g, 0, none⟩ = some (.bool s) ∧ w.cell? ⟨g, 1, none⟩ = some (.slice A l.length c) ∧ g < w.heap.size := by
  obtain ⟨c0, c1, _, _, c2⟩ := two_cells (Below.refl w.heap.size w) h.blk
  exact ⟨c0, c1, c2⟩
/-- Three numbers in variables. -/
def Cut3 (w : World) (z1 z2 z3 : Int) (s1 s2 s3 : Value) (wx : World) : Prop := ∃ g1 A1 c1 g2 A2 c2 g3 A3 c3,
  s1 = .pointer (some ⟨g1, 0, none⟩) ∧ s2 = .pointer (some ⟨g2, 0, none⟩) ∧ s3 = .pointer (some ⟨g3, 0, none⟩) ∧
  Aside0 (BV wx g1 A1 c1 z1) ∧ Aside0 (BV wx g2 A2 c2 z2) ∧ Aside0 (BV wx g3 A3 c3 z3) ∧ Aside0 (Below w.heap.size w wx)
/-- 0, laid as Go lays it. -/
theorem lm0 : lm 0 = [] := toL_zero
theorem RV.zero (w : World) : RV w none 0 0 := ⟨by rw [lm0]; exact Nat.le_refl _, by rw [lm0]; exact Kd.C_nil _ _⟩
end Go.Proofs.Ytlcjnahfahobjaa.Lb
