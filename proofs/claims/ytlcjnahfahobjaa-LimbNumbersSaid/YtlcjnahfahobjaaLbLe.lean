/- limb: numbers that are lent: their limbs with marks behind them, in their spare room; two of them made in a region. -/
import Derived.Test.YtlcjnahfahobjaaLbRg
namespace Go.Proofs.Ytlcjnahfahobjaa.Lb
open Go.RowKit Go.Proofs.YtlcjnahfahobjaaW.PrintWords Go.Proofs.YtlcjnahfahobjaaW.PrintLast Go.Proofs.YtlcjnahfahobjaaW.PrintMore
set_option linter.unusedVariables false
set_option linter.unusedSimpArgs false

/-- The marks; limbs with marks behind. -/
def marks : List Int := [8000024, 8000025, 8000026, 8000027, 8000028, 8000029, 8000030, 8000031, 8000032, 8000033, 8000034, 8000035]
def lk (l : List Int) : List Int := l ++ marks
theorem lk_len (l : List Int) : (lk l).length = l.length + 12 := by unfold lk; rw [List.length_append]; rfl
theorem lk_take (l : List Int) : (lk l).take l.length = l := by unfold lk; simp
/-- A variable that holds a number, whose row is the front of R. -/
structure NV (w : World) (g : Nat) (s : Bool) (A : Option Addr) (n c : Nat) (R : List Int) : Prop where
  blk : w.heap[g]? = some (.cells #[.bool s, .slice A n c] 24 (0, 0))
  row : u64.C w A R.length R
  n_le : n ≤ R.length
  cap : R.length ≤ c
theorem NV.below {w w' : World} {g : Nat} {s : Bool} {A : Option Addr} {n c : Nat} {R : List Int} (h : NV w g s A n c R) (hb : Below w.heap.size w w') : NV w' g s A n c R :=
  ⟨(hb.block g (Array.getElem?_eq_some_iff.1 h.blk).1).trans h.blk, Kd.C_below h.row hb, h.n_le, h.cap⟩
theorem NV.drew {w : World} {g : Nat} {s : Bool} {A : Option Addr} {n c : Nat} {R : List Int} (h : NV w g s A n c R) : NV w.drew g s A n c R := h.below (Below.refl _ _).drew
theorem NV.alloc {w : World} {g : Nat} {s : Bool} {A : Option Addr} {n c : Nat} {R : List Int} (h : NV w g s A n c R) (o : Obj) : NV (w.alloc o) g s A n c R := h.below ((Below.refl _ _).alloc (Nat.le_refl _) o)
theorem NV.new {w : World} {g : Nat} (s : Bool) {A : Option Addr} (n c : Nat) {R : List Int} (hg : g = w.heap.size) (hn : n ≤ R.length) (hc : R.length ≤ c) (h : u64.C w A R.length R) : NV (w.alloc (.cells #[.bool s, .slice A n c] 24)) g s A n c R := by
  subst hg
  exact ⟨heap_alloc_new w _, Kd.C_alloc h _, hn, hc⟩
theorem NV.cells {w : World} {g : Nat} {s : Bool} {A : Option Addr} {n c : Nat} {R : List Int} (h : NV w g s A n c R) : w.cell? ⟨g, 0, none⟩ = some (.bool s) ∧ w.cell? ⟨g, 1, none⟩ = some (.slice A n c) ∧ g < w.heap.size := by
  obtain ⟨c0, c1, _, _, c2⟩ := two_cells (Below.refl w.heap.size w) h.blk
  exact ⟨c0, c1, c2⟩
theorem NV.reads {w : World} {g : Nat} {s : Bool} {A : Option Addr} {n c : Nat} {R l : List Int} (h : NV w g s A n c R) (hl : R.take n = l) : u64.C w A l.length l := by
  subst hl
  exact Kd.C_take h.row h.n_le
/-- A lent number's variable is a number's. -/
theorem NV.lent {w : World} {g : Nat} {s : Bool} {A : Option Addr} {c : Nat} {l : List Int} (h : NV w g s A l.length c (lk l)) : u64.C w A l.length l := h.reads (lk_take l)
theorem NV.all {w : World} {g : Nat} {s : Bool} {A : Option Addr} {c : Nat} {l : List Int} (h : NV w g s A l.length c l) : u64.C w A l.length l := h.row
/-- What a call that lends a number answers. -/
abbrev numL (s : Bool) (l : List Int) (B : Option Addr) (d : Nat) : Value := .agg #[.bool s, .slice B l.length d]
def OutL (w : World) (s : Bool) (l : List Int) (e : Ending) (w' : World) : Prop := ∃ B d, e = .returned (numL s l B d) ∧ Kd.V u64 50 w' w.heap.size (fun k => w.heap.size ≤ k) (.slice B (lk l).length d) (lk l) ∧ Below w.heap.size w w'
/-- A lent row, which lies in none of the blocks G. -/
def RdL (w : World) (l : List Int) (B : Option Addr) (d : Nat) (G : List Nat) : Prop := ∃ ok : Nat → Prop, Kd.V u64 50 w 0 ok (.slice B (lk l).length d) (lk l) ∧ ∀ k, ok k → k < w.heap.size ∧ k ∉ G
theorem RdL.row {w : World} {l : List Int} {B : Option Addr} {d : Nat} {G : List Nat} (h : RdL w l B d G) : (lk l).length ≤ d ∧ u64.C w B (lk l).length (lk l) := by
  obtain ⟨ok, hV, _⟩ := h
  have := Kd.V_reads' hV
  exact ⟨this.2.1, this.2.2⟩
theorem RdL.below {w w' : World} {l : List Int} {B : Option Addr} {d : Nat} {G : List Nat} (h : RdL w l B d G) (hb : Below w.heap.size w w') : RdL w' l B d G := by
  obtain ⟨ok, hV, ho⟩ := h
  exact ⟨ok, Kd.V_below hV hb, fun k hk => ⟨Nat.lt_of_lt_of_le (ho k hk).1 hb.size, (ho k hk).2⟩⟩
theorem RdL.alloc {w : World} {l : List Int} {B : Option Addr} {d : Nat} {G G' : List Nat} (h : RdL w l B d G) (o : Obj) (hG : ∀ k, k ∈ G' → k ∈ G ∨ k = w.heap.size) : RdL (w.alloc o) l B d G' := by
  obtain ⟨ok, hV, ho⟩ := h
  refine ⟨ok, Kd.V_alloc hV _, fun k hk => ⟨by have := (ho k hk).1; simp; omega, fun hm => ?_⟩⟩
  rcases hG k hm with h1 | h1
  · exact (ho k hk).2 h1
  · have := (ho k hk).1; omega
theorem RdL.set {w : World} {l : List Int} {B : Option Addr} {d : Nat} {G : List Nat} (h : RdL w l B d G) {g : Nat} (hg : g ∈ G) (i : Nat) (u : Value) : RdL (w.setCell ⟨g, i, none⟩ u) l B d G := by
  obtain ⟨ok, hV, ho⟩ := h
  refine ⟨ok, Kd.V_far hV (fun k hk he => (ho k hk).2 (by rw [he]; exact hg)) _, fun k hk => ⟨by have := (ho k hk).1; simpa using this, (ho k hk).2⟩⟩
theorem RdL.new {w w' : World} {l : List Int} {B : Option Addr} {d : Nat} {G : List Nat} {b : Nat} (hV : Kd.V u64 50 w' b (fun k => w.heap.size ≤ k) (.slice B (lk l).length d) (lk l)) (hG : ∀ k ∈ G, k < w.heap.size) : RdL w' l B d G :=
  ⟨_, Kd.V_map (base' := 0) (Kd.V_bound hV) (fun _ hf => hf), fun k hk => ⟨hk.2, fun hm => by have := hG k hm; have := hk.1; omega⟩⟩
def gl2 (a1 a2 : Option Nat) : List Nat := a1.toList ++ a2.toList
/-- What is known once some of the calls and some of the variables are made. -/
structure Fy (H : World → Prop) (w0 : World) (l1 l2 : List Int) (c1 c2 : Option (Option Addr × Nat)) (a1 a2 : Option Nat) (w : World) : Prop where
  h : H w
  b : Below w0.heap.size w0 w
  r1 : ∀ B d, c1 = some (B, d) → RdL w l1 B d (gl2 a1 a2)
  r2 : ∀ B d, c2 = some (B, d) → RdL w l2 B d (gl2 a1 a2)
  g : ∀ k ∈ gl2 a1 a2, w.heap[k]? = some (.cells #[.bool false, .slice none 0 0] 24 (0, 0)) ∧ w0.heap.size ≤ k
  n : (gl2 a1 a2).Nodup
theorem Fy.lt {H : World → Prop} {w0 : World} {l1 l2 : List Int} {c1 c2 : Option (Option Addr × Nat)} {a1 a2 : Option Nat} {w : World} (h : Fy H w0 l1 l2 c1 c2 a1 a2 w) : ∀ k ∈ gl2 a1 a2, k < w.heap.size := fun k hk => (Array.getElem?_eq_some_iff.1 (h.g k hk).1).1
theorem Fy.step {H : World → Prop} (hH : ∀ w w' : World, H w → Below w.heap.size w w' → H w') {w0 : World} {l1 l2 : List Int} {c1 c2 c1' c2' : Option (Option Addr × Nat)} {a1 a2 : Option Nat} {w w' : World} (h : Fy H w0 l1 l2 c1 c2 a1 a2 w) (hb : Below w.heap.size w w')
    (h1 : ∀ B d, c1' = some (B, d) → c1 = some (B, d) ∨ RdL w' l1 B d (gl2 a1 a2)) (h2 : ∀ B d, c2' = some (B, d) → c2 = some (B, d) ∨ RdL w' l2 B d (gl2 a1 a2)) :
    Fy H w0 l1 l2 c1' c2' a1 a2 w' :=
  ⟨hH _ _ h.h hb, below_then h.b h.b.size hb, fun B d e => (h1 B d e).elim (fun e => (h.r1 B d e).below hb) id, fun B d e => (h2 B d e).elim (fun e => (h.r2 B d e).below hb) id,
    fun k hk => ⟨(hb.block k (h.lt k hk)).trans (h.g k hk).1, (h.g k hk).2⟩, h.n⟩
theorem Fy.made {H : World → Prop} (hH : ∀ w w' : World, H w → Below w.heap.size w w' → H w') {w0 : World} {l1 l2 : List Int} {c1 c2 : Option (Option Addr × Nat)} {a1 a2 a1' a2' : Option Nat} {w : World} (h : Fy H w0 l1 l2 c1 c2 a1 a2 w)
    (hm : ∀ k, k ∈ gl2 a1' a2' → k ∈ gl2 a1 a2 ∨ k = w.heap.size) (hn : (∀ k ∈ gl2 a1 a2, k < w.heap.size) → (gl2 a1' a2').Nodup) :
    Fy H w0 l1 l2 c1 c2 a1' a2' (w.alloc blank) := by
  have hb := (Below.refl w.heap.size w).alloc (Nat.le_refl _) blank
  refine ⟨hH _ _ h.h hb, below_then h.b h.b.size hb, fun B d e => (h.r1 B d e).alloc _ hm, fun B d e => (h.r2 B d e).alloc _ hm, fun k hk => ?_, hn h.lt⟩
  rcases hm k hk with h1 | h1
  · exact ⟨(hb.block k (h.lt k h1)).trans (h.g k h1).1, (h.g k h1).2⟩
  · subst h1
    exact ⟨heap_alloc_new w _, h.b.size⟩
/-- Two lent numbers in variables. -/
def Cut2 (w : World) (s1 : Bool) (l1 : List Int) (s2 : Bool) (l2 : List Int) (p1 p2 : Value) (wx : World) : Prop := ∃ g1 B1 d1 g2 B2 d2,
  p1 = .pointer (some ⟨g1, 0, none⟩) ∧ p2 = .pointer (some ⟨g2, 0, none⟩) ∧
  Aside0 (NV wx g1 s1 B1 l1.length d1 (lk l1)) ∧ Aside0 (NV wx g2 s2 B2 l2.length d2 (lk l2)) ∧ Aside0 (Below w.heap.size w wx)
theorem Fy.cut {H : World → Prop} {w0 : World} {s1 s2 : Bool} {l1 l2 : List Int} {B1 B2 : Option Addr} {d1 d2 g1 g2 : Nat} {w : World} (h : Fy H w0 l1 l2 (some (B1, d1)) (some (B2, d2)) (some g1) (some g2) w) :
    Cut2 w0 s1 l1 s2 l2 (.pointer (some ⟨g1, 0, none⟩)) (.pointer (some ⟨g2, 0, none⟩))
      ((((w.setCell ⟨g1, 0, none⟩ (.bool s1)).setCell ⟨g1, 1, none⟩ (.slice B1 l1.length d1)).setCell ⟨g2, 0, none⟩ (.bool s2)).setCell ⟨g2, 1, none⟩ (.slice B2 l2.length d2)) := by
  have m1 : g1 ∈ gl2 (some g1) (some g2) := by simp [gl2]
  have m2 : g2 ∈ gl2 (some g1) (some g2) := by simp [gl2]
  obtain ⟨k1, e1⟩ := h.g g1 m1
  obtain ⟨k2, e2⟩ := h.g g2 m2
  have hn := h.n
  have n12 : g1 ≠ g2 := fun e => by subst e; simp [gl2] at hn
  have R : ∀ {l : List Int} {B : Option Addr} {d : Nat}, RdL w l B d (gl2 (some g1) (some g2)) → (lk l).length ≤ d ∧ u64.C ((((w.setCell ⟨g1, 0, none⟩ (.bool s1)).setCell ⟨g1, 1, none⟩ (.slice B1 l1.length d1)).setCell ⟨g2, 0, none⟩ (.bool s2)).setCell ⟨g2, 1, none⟩ (.slice B2 l2.length d2)) B (lk l).length (lk l) := fun hr =>
    ((((hr.set m1 _ _).set m1 _ _).set m2 _ _).set m2 _ _).row
  refine ⟨g1, B1, d1, g2, B2, d2, rfl, rfl, ⟨⟨?_, (R (h.r1 _ _ rfl)).2, by rw [lk_len]; omega, (R (h.r1 _ _ rfl)).1⟩⟩, ⟨⟨?_, (R (h.r2 _ _ rfl)).2, by rw [lk_len]; omega, (R (h.r2 _ _ rfl)).1⟩⟩, ⟨?_⟩⟩
  · have q := blk_set (blk_set k1 0 (.bool s1)) 1 (.slice B1 l1.length d1)
    exact blk_far (blk_far q (p := ⟨g2, 0, none⟩) n12 _) (p := ⟨g2, 1, none⟩) n12 _
  · exact blk_set (blk_set (blk_far (blk_far k2 (p := ⟨g1, 0, none⟩) (Ne.symm n12) (.bool s1)) (p := ⟨g1, 1, none⟩) (Ne.symm n12) (.slice B1 l1.length d1)) 0 (.bool s2)) 1 (.slice B2 l2.length d2)
  · exact (((h.b.setCell e1 _).setCell e1 _).setCell e2 _).setCell e2 _
def l8 (b1 b2 b3 b4 : Bool) : Array Bool := #[true, b1, true, b2, b3, b4, false, false]
def rs8 (b1 b2 b3 b4 : Bool) : List Nat := (if b1 then [] else [1]) ++ (if b2 || !b1 then [] else [3]) ++ (if b3 then [] else [4]) ++ (if b4 then [] else [5]) ++ (if b1 && b2 && b3 && b4 then [6] else [])
section
variable {P : Program} {ops : Array Oper} {Q : Exit → Act → World → Prop} (H : World → Prop) (hH : ∀ w w' : World, H w → Below w.heap.size w w' → H w') (w0 : World) (s1 s2 : Bool) (l1 l2 : List Int) (f : FuncId) (x1 x2 : Array Value)
  (Fr : Value → Value → Value → Value → Act)
  {o1 o2 v1 v2 t1 t2 : Oper}
  (e_o1 : ops[1]? = some o1) (W_o1 : ∀ q1 q2 p1 p2, Region.wanted o1 (yielded ops (Fr q1 q2 p1 p2).tmps) = true)
  (e_o2 : ops[3]? = some o2) (W_o2 : ∀ q1 q2 p1 p2, Region.wanted o2 (yielded ops (Fr q1 q2 p1 p2).tmps) = true)
  (e_v1 : ops[4]? = some v1) (W_v1 : ∀ q1 q2 p1 p2, Region.wanted v1 (yielded ops (Fr q1 q2 p1 p2).tmps) = true)
  (e_v2 : ops[5]? = some v2) (W_v2 : ∀ q1 q2 p1 p2, Region.wanted v2 (yielded ops (Fr q1 q2 p1 p2).tmps) = true)
  (e_s1 : ops[6]? = some t1) (W_s1 : ∀ q1 q2 p1 p2, Region.wanted t1 (yielded ops (Fr q1 q2 p1 p2).tmps) = true)
  (e_s2 : ops[7]? = some t2) (W_s2 : ∀ q1 q2 p1 p2, Region.wanted t2 (yielded ops (Fr q1 q2 p1 p2).tmps) = true)
  (put_o1 : ∀ q1 q2 p1 p2 u, (Fr q1 q2 p1 p2).put o1.dst u = Fr u q2 p1 p2)
  (put_o2 : ∀ q1 q2 p1 p2 u, (Fr q1 q2 p1 p2).put o2.dst u = Fr q1 u p1 p2)
  (put_v1 : ∀ q1 q2 p1 p2 u, (Fr q1 q2 p1 p2).put v1.dst u = Fr q1 q2 u p2)
  (put_v2 : ∀ q1 q2 p1 p2 u, (Fr q1 q2 p1 p2).put v2.dst u = Fr q1 q2 p1 u)
  (run_o1 : ∀ q1 q2 p1 p2 w, (execOp (Fr q1 q2 p1 p2).eval o1).run P w = .ok (.enter f x1) w) (hc1 : ∀ w, H w → Calls P f x1 w (OutL w s1 l1))
  (run_o2 : ∀ q1 q2 p1 p2 w, (execOp (Fr q1 q2 p1 p2).eval o2).run P w = .ok (.enter f x2) w) (hc2 : ∀ w, H w → Calls P f x2 w (OutL w s2 l2))
  (run_v1 : ∀ q1 q2 p1 p2 w, (execOp (Fr q1 q2 p1 p2).eval v1).run P w = .ok (.value (.pointer (some ⟨w.heap.size, 0, none⟩))) (w.alloc blank))
  (run_v2 : ∀ q1 q2 p1 p2 w, (execOp (Fr q1 q2 p1 p2).eval v2).run P w = .ok (.value (.pointer (some ⟨w.heap.size, 0, none⟩))) (w.alloc blank))
  (run_s1 : ∀ B d g q2 p2 w, w.heap[g]? = some (.cells #[.bool false, .slice none 0 0] 24 (0, 0)) → (execOp (Fr (numL s1 l1 B d) q2 (.pointer (some ⟨g, 0, none⟩)) p2).eval t1).run P w = .ok .skip ((w.setCell ⟨g, 0, none⟩ (.bool s1)).setCell ⟨g, 1, none⟩ (.slice B l1.length d))) (d_s1 : t1.dst = none)
  (run_s2 : ∀ B d g q1 p1 w, w.heap[g]? = some (.cells #[.bool false, .slice none 0 0] 24 (0, 0)) → (execOp (Fr q1 (numL s2 l2 B d) p1 (.pointer (some ⟨g, 0, none⟩))).eval t2).run P w = .ok .skip ((w.setCell ⟨g, 0, none⟩ (.bool s2)).setCell ⟨g, 1, none⟩ (.slice B l2.length d))) (d_s2 : t2.dst = none)
  (rdy : ∀ b1 b2 b3 b4, (b2 = true → b1 = true) → Region.ready .any ops (l8 b1 b2 b3 b4) = rs8 b1 b2 b3 b4)
  (rdy1 : Region.ready .any ops #[true, true, true, true, true, true, true, false] = [7])
  (rdy2 : Region.ready .any ops #[true, true, true, true, true, true, true, true] = [])
  (hQ : ∀ B1 d1 B2 d2 g1 g2 w', Cut2 w0 s1 l1 s2 l2 (.pointer (some ⟨g1, 0, none⟩)) (.pointer (some ⟨g2, 0, none⟩)) w' → Q .normal (Fr (numL s1 l1 B1 d1) (numL s2 l2 B2 d2) (.pointer (some ⟨g1, 0, none⟩)) (.pointer (some ⟨g2, 0, none⟩))) w')
include hH e_o1 e_o2 e_v1 e_v2 e_s1 e_s2 W_o1 W_o2 W_v1 W_v2 W_s1 W_s2 put_o1 put_o2 put_v1 put_v2 run_o1 run_o2 hc1 hc2 run_v1 run_v2 run_s1 run_s2 d_s1 d_s2 rdy rdy1 rdy2 hQ
end
end Go.Proofs.Ytlcjnahfahobjaa.Lb
