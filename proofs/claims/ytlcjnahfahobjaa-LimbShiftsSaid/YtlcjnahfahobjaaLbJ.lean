/- limb: three numbers in variables. -/
import Derived.Test.YtlcjnahfahobjaaLbX
import Derived.Deep.DeepCutAuto
namespace Go.Proofs.Ytlcjnahfahobjaa.Lb
open Go.RowKit Go.Proofs.YtlcjnahfahobjaaW.PrintWords Go.Proofs.YtlcjnahfahobjaaW.PrintLast Go.Proofs.YtlcjnahfahobjaaW.PrintMore
set_option linter.unusedVariables false
set_option linter.unusedSimpArgs false

/-- A Whole in a variable. -/
structure WB (w : World) (g : Nat) (s : Bool) (A : Option Addr) (c : Nat) (l : List Int) : Prop where
  blk : w.heap[g]? = some (.cells #[.bool s, .slice A l.length c] 35 (0, 0))
  reads : u64.C w A l.length l
theorem WB.below {w w' : World} {g : Nat} {s : Bool} {A : Option Addr} {c : Nat} {l : List Int} (h : WB w g s A c l) (hb : Below w.heap.size w w') : WB w' g s A c l :=
  ⟨(hb.block g (Array.getElem?_eq_some_iff.1 h.blk).1).trans h.blk, Kd.C_below h.reads hb⟩
theorem WB.drew {w : World} {g : Nat} {s : Bool} {A : Option Addr} {c : Nat} {l : List Int} (h : WB w g s A c l) : WB w.drew g s A c l := h.below (Below.refl _ _).drew
theorem WB.alloc {w : World} {g : Nat} {s : Bool} {A : Option Addr} {c : Nat} {l : List Int} (h : WB w g s A c l) (o : Obj) : WB (w.alloc o) g s A c l := h.below ((Below.refl _ _).alloc (Nat.le_refl _) o)
theorem WB.new {w : World} {g : Nat} (s : Bool) {A : Option Addr} (c : Nat) {l : List Int} (hg : g = w.heap.size) (h : u64.C w A l.length l) : WB (w.alloc (.cells #[.bool s, .slice A l.length c] 35)) g s A c l := by
  subst hg
  exact ⟨heap_alloc_new w _, Kd.C_alloc h _⟩
theorem WB.cells {w : World} {g : Nat} {s : Bool} {A : Option Addr} {c : Nat} {l : List Int} (h : WB w g s A c l) : w.cell? ⟨g, 0, none⟩ = some (.bool s) ∧ w.cell? ⟨g, 1, none⟩ = some (.slice A l.length c) ∧ g < w.heap.size := by
  obtain ⟨c0, c1, _, _, c2⟩ := two_cells (Below.refl w.heap.size w) h.blk
  exact ⟨c0, c1, c2⟩
theorem BV.new' {w : World} {g : Nat} {A : Option Addr} {c : Nat} {z : Int} (hg : g = w.heap.size) (h : RV w A c z) : BV (w.alloc (.cells #[.bool (sg z), .slice A (lm z).length c] 24)) g A c z := by
  subst hg
  exact BV.new h
/-- Three numbers in variables. -/
def Cut3 (w : World) (z1 z2 z3 : Int) (s1 s2 s3 : Value) (wx : World) : Prop := ∃ g1 A1 c1 g2 A2 c2 g3 A3 c3,
  s1 = .pointer (some ⟨g1, 0, none⟩) ∧ s2 = .pointer (some ⟨g2, 0, none⟩) ∧ s3 = .pointer (some ⟨g3, 0, none⟩) ∧
  Aside0 (BV wx g1 A1 c1 z1) ∧ Aside0 (BV wx g2 A2 c2 z2) ∧ Aside0 (BV wx g3 A3 c3 z3) ∧ Aside0 (Below w.heap.size w wx)
theorem cut3 {w wl : World} {A1 A2 A3 : Option Addr} {c1 c2 c3 : Nat} {z1 z2 z3 : Int} (r1 : RV wl A1 c1 z1) (r2 : RV wl A2 c2 z2) (r3 : RV wl A3 c3 z3) (hb : Below w.heap.size w wl) :
    Cut3 w z1 z2 z3 (.pointer (some ⟨wl.heap.size, 0, none⟩)) (.pointer (some ⟨wl.heap.size + 1, 0, none⟩)) (.pointer (some ⟨wl.heap.size + 2, 0, none⟩)) (((wl.alloc (.cells #[.bool (sg z1), .slice A1 (lm z1).length c1] 24)).alloc (.cells #[.bool (sg z2), .slice A2 (lm z2).length c2] 24)).alloc (.cells #[.bool (sg z3), .slice A3 (lm z3).length c3] 24)) :=
  ⟨_, A1, c1, _, A2, c2, _, A3, c3, rfl, rfl, rfl, ⟨((BV.new r1).alloc _).alloc _⟩, ⟨(BV.new' (by simp) (r2.alloc _)).alloc _⟩, ⟨BV.new' (by simp) ((r3.alloc _).alloc _)⟩,
    ⟨((hb.alloc hb.size _).alloc (by have := hb.size; simp; omega) _).alloc (by have := hb.size; simp; omega) _⟩⟩
/-- 0, laid as Go lays it. -/
theorem lm0 : lm 0 = [] := toL_zero
theorem RV.zero (w : World) : RV w none 0 0 := ⟨by rw [lm0]; exact Nat.le_refl _, by rw [lm0]; exact Kd.C_nil _ _⟩
theorem same_z0 (a : Int) (ha : lim 4096 a) (A1 : Option Addr) (c1 : Nat) (w : World) (r1 : RV w A1 c1 a) (v : Bool) (hv : decide (a = 0) = v) :
    Calls Try.prog 22 #[.agg #[.bool (sg a), .slice A1 (lm a).length c1], .agg #[.bool false, .slice none 0 0]] w (OutP w (.bool v)) := by
  have h := same_z a 0 ha A1 none c1 0 w r1 (RV.zero w) v hv
  rw [lm0] at h
  exact h
theorem cmp_z0 (a : Int) (ha : lim 4096 a) (A1 : Option Addr) (c1 : Nat) (w : World) (r1 : RV w A1 c1 a) (v : Int) (hv : cmpZ a 0 = v) :
    Calls Try.prog 11 #[.agg #[.bool (sg a), .slice A1 (lm a).length c1], .agg #[.bool false, .slice none 0 0]] w (OutP w (.tuple #[.int .i64 v, .int .i64 0])) := by
  subst hv
  have h := cmp_z a 0 ha (lim_zero _) A1 none c1 0 w r1 (RV.zero w)
  rw [lm0] at h
  exact h
theorem cmp_zv (a b : Int) (ha : lim 4096 a) (hb : lim 4096 b) (A1 A2 : Option Addr) (c1 c2 : Nat) (w : World) (r1 : RV w A1 c1 a) (r2 : RV w A2 c2 b) (v : Int) (hv : cmpZ a b = v) :
    Calls Try.prog 11 #[.agg #[.bool (sg a), .slice A1 (lm a).length c1], .agg #[.bool (sg b), .slice A2 (lm b).length c2]] w (OutP w (.tuple #[.int .i64 v, .int .i64 0])) := by
  subst hv
  exact cmp_z a b ha hb A1 A2 c1 c2 w r1 r2
theorem add_zv (a b z : Int) (hz : Aside0 (a + b = z)) (ha : lim 4096 a) (hb : lim 4096 b) (hab : lim 4096 z) (A1 A2 : Option Addr) (c1 c2 : Nat) (w : World) (r1 : RV w A1 c1 a) (r2 : RV w A2 c2 b) :
    Calls Try.prog 13 #[.agg #[.bool (sg a), .slice A1 (lm a).length c1], .agg #[.bool (sg b), .slice A2 (lm b).length c2]] w (OutZ w z) := by
  obtain ⟨rfl⟩ := hz
  exact add_z a b ha hb hab A1 A2 c1 c2 w r1 r2
theorem sub_zv (a b z : Int) (hz : Aside0 (a - b = z)) (ha : lim 4096 a) (hb : lim 4096 b) (hab : lim 4096 z) (A1 A2 : Option Addr) (c1 c2 : Nat) (w : World) (r1 : RV w A1 c1 a) (r2 : RV w A2 c2 b) :
    Calls Try.prog 15 #[.agg #[.bool (sg a), .slice A1 (lm a).length c1], .agg #[.bool (sg b), .slice A2 (lm b).length c2]] w (OutZ w z) := by
  obtain ⟨rfl⟩ := hz
  exact sub_z a b ha hb hab A1 A2 c1 c2 w r1 r2
theorem neg_zv (a z : Int) (hz : Aside0 (-a = z)) (ha : lim 4096 a) (A1 : Option Addr) (c1 : Nat) (w : World) (r1 : RV w A1 c1 a) :
    Calls Try.prog 21 #[.agg #[.bool (sg a), .slice A1 (lm a).length c1]] w (OutZ w z) := by
  obtain ⟨rfl⟩ := hz
  exact neg_z a ha A1 c1 w r1
theorem shift_zv (a b z : Int) (hz : Aside0 (shZ a b = z)) (ha : lim 4096 a) (h0 : -9223372036854775808 ≤ b) (h1 : b ≤ 9223372036854775807) (hr : lim 4096 z) (hb : a = 0 ∨ ¬ 262144 - (bitN a.natAbs : Int) < b) (A1 : Option Addr) (c1 : Nat) (w : World) (r1 : RV w A1 c1 a) :
    Calls Try.prog 25 #[.agg #[.bool (sg a), .slice A1 (lm a).length c1], .int .i64 b] w (OutZ w z) := by
  obtain ⟨rfl⟩ := hz
  exact shift_z a b ha h0 h1 hr hb A1 c1 w r1
theorem awake_z (w : World) : Calls Try.prog 19 #[] w (OutP w (.bool true)) := (awake_c w).mono fun e w' h => ⟨h.1, ⟨h.2⟩⟩
end Go.Proofs.Ytlcjnahfahobjaa.Lb
