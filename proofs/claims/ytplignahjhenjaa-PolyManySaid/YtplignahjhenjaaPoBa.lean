/- poly: lists of whole numbers in memory: read (PL), a block of the call's own (OB). -/
import Derived.Test.YtplignahjhenjaaPoSk
namespace Go.Proofs.Ytplignahjhenjaa.Lb
open Go.RowKit Go.Proofs.YtplignahjhenjaaW.PrintWords Go.Proofs.YtplignahjhenjaaW.PrintLast Go.Proofs.YtplignahjhenjaaW.PrintMore
set_option linter.unusedVariables false
set_option linter.unusedSimpArgs false

/-- No limb. -/
def noLimb (v : Value) : Prop := ∀ x, v ≠ .int .u64 x
theorem noLimb_bool (b : Bool) : noLimb (.bool b) := fun x h => by cases h
theorem noLimb_slice (A : Option Addr) (n c : Nat) : noLimb (.slice A n c) := fun x h => by cases h
/-- Where no limb lies may be written: rows of limbs stay. -/
theorem C_setb {w : World} {G : Option Addr} {n : Nat} {l : List Int} (h : u64.C w G n l) {p : Addr} {v : Value} (hp : w.cell? p = some v) (hv : noLimb v) (u : Value) : u64.C (w.setCell p u) G n l :=
  ⟨h.1, h.2.1, fun hn => by
    obtain ⟨ad, e, hc⟩ := h.2.2 hn
    refine ⟨ad, e, fun j q hj => ?_⟩
    obtain ⟨c, hs, hr, hcell⟩ := hc j q hj
    refine ⟨c, hs, hr, fun i y hy => ?_⟩
    have h1 := hcell i y hy
    have hcq : c = [.int .u64 q] := hr
    have hy2 : y = .int .u64 q := by
      rw [hcq] at hy
      cases i with
      | zero => simpa using hy.symm
      | succ i => simp at hy
    rw [World.cell?_setCell_other _ _ _ _ (fun e2 => ?_)]
    · exact h1
    · rw [← e2, hp] at h1
      exact hv q (by rw [← hy2]; exact Option.some.inj h1)⟩
theorem RV.setb {w : World} {A : Option Addr} {c : Nat} {z : Int} (h : RV w A c z) {p : Addr} {v : Value} (hp : w.cell? p = some v) (hv : noLimb v) (u : Value) : RV (w.setCell p u) A c z := ⟨h.cap, C_setb h.reads hp hv u⟩
theorem RV.zero (w : World) (A : Option Addr) (c : Nat) : RV w A c 0 := ⟨by simp [lm, toL_zero], by
  have : lm 0 = [] := by simp [lm, toL_zero]
  rw [this]
  exact ⟨rfl, by simp, fun h => absurd h (by simp)⟩⟩
/-- A number in two cells. -/
def At2 (w : World) (p q : Addr) (z : Int) : Prop := ∃ B c, w.cell? p = some (.bool (sg z)) ∧ w.cell? q = some (.slice B (lm z).length c) ∧ RV w B c z
theorem At2.below {w w' : World} {p q : Addr} {z : Int} (h : At2 w p q z) (hb : Below w.heap.size w w') : At2 w' p q z := by
  obtain ⟨B, c, h1, h2, h3⟩ := h
  exact ⟨B, c, pw_cell_below hb h1, pw_cell_below hb h2, h3.below hb⟩
theorem add_one (ad : Addr) (n : Nat) : ad.add (n + 1) = ⟨(ad.add n).block, (ad.add n).off + 1, none⟩ := by
  unfold Addr.add
  by_cases h : n = 0
  · subst h; simp
  · simp [h, Nat.add_assoc]
/-- A list that is read. -/
structure PL (w : World) (A : Option Addr) (zs : List Int) : Prop where
  small : zs.length ≤ 4611686018427387904
  at_ : ∀ j, j < zs.length → ∃ ad, A = some ad ∧ At2 w (ad.add (j * 2)) ⟨(ad.add (j * 2)).block, (ad.add (j * 2)).off + 1, none⟩ (zs.getD j 0)
theorem PL.below {w w' : World} {A : Option Addr} {zs : List Int} (h : PL w A zs) (hb : Below w.heap.size w w') : PL w' A zs := ⟨h.small, fun j hj => by
  obtain ⟨ad, e, h2⟩ := h.at_ j hj
  exact ⟨ad, e, h2.below hb⟩⟩
theorem PL.nil (w : World) (A : Option Addr) : PL w A [] := ⟨by simp, fun j hj => absurd hj (by simp)⟩
theorem PL.drew {w : World} {A : Option Addr} {zs : List Int} (h : PL w A zs) : PL w.drew A zs := h.below (Below.refl _ _).drew
theorem PL.alloc {w : World} {A : Option Addr} {zs : List Int} (h : PL w A zs) (o : Obj) : PL (w.alloc o) A zs := h.below ((Below.refl _ _).alloc (Nat.le_refl _) o)
theorem PL.take {w : World} {A : Option Addr} {zs : List Int} (h : PL w A zs) (n : Nat) : PL w A (zs.take n) := ⟨by rw [List.length_take]; have := h.small; omega, fun j hj => by
  rw [List.length_take] at hj
  obtain ⟨ad, e, h2⟩ := h.at_ j (by omega)
  refine ⟨ad, e, ?_⟩
  rwa [show (zs.take n).getD j 0 = zs.getD j 0 by rw [List.getD_eq_getElem?_getD, List.getD_eq_getElem?_getD, List.getElem?_take, if_pos (by omega)]]⟩
/-- Number i of it, read where the list stood in an elder world. -/
theorem PL.get {w w' : World} {A : Option Addr} {zs : List Int} (h : PL w A zs) (hb : Below w.heap.size w w') (j : Nat) (hj : j < zs.length) : ∃ ad B c, A = some ad ∧ w'.cell? (ad.add (j * 2)) = some (.bool (sg (zs.getD j 0))) ∧ w'.cell? ⟨(ad.add (j * 2)).block, (ad.add (j * 2)).off + 1, none⟩ = some (.slice B (lm (zs.getD j 0)).length c) ∧ Aside0 (RV w' B c (zs.getD j 0)) := by
  obtain ⟨ad, e, h2⟩ := h.at_ j hj
  obtain ⟨B, c, a, b, r⟩ := h2.below hb
  exact ⟨ad, B, c, e, a, b, ⟨r⟩⟩
/-- A block of the call's own that holds a list. -/
structure OB (w : World) (g : Nat) (zs : List Int) : Prop where
  blk : ∃ cs, w.heap[g]? = some (.cells cs 25 (0, 0)) ∧ cs.size = zs.length * 2
  at_ : ∀ j, j < zs.length → At2 w ⟨g, j * 2, none⟩ ⟨g, j * 2 + 1, none⟩ (zs.getD j 0)
theorem OB.lt {w : World} {g : Nat} {zs : List Int} (h : OB w g zs) : g < w.heap.size := by
  obtain ⟨cs, h1, _⟩ := h.blk
  exact (Array.getElem?_eq_some_iff.1 h1).1
theorem OB.below {w w' : World} {g : Nat} {zs : List Int} (h : OB w g zs) (hb : Below w.heap.size w w') : OB w' g zs := by
  obtain ⟨cs, h1, h2⟩ := h.blk
  exact ⟨⟨cs, (hb.block g h.lt).trans h1, h2⟩, fun j hj => (h.at_ j hj).below hb⟩
theorem OB.drew {w : World} {g : Nat} {zs : List Int} (h : OB w g zs) : OB w.drew g zs := h.below (Below.refl _ _).drew
theorem OB.alloc {w : World} {g : Nat} {zs : List Int} (h : OB w g zs) (o : Obj) : OB (w.alloc o) g zs := h.below ((Below.refl _ _).alloc (Nat.le_refl _) o)
theorem OB.PL {w : World} {g : Nat} {zs : List Int} (h : OB w g zs) (hs : zs.length ≤ 4611686018427387904) : PL w (some ⟨g, 0, none⟩) zs := ⟨hs, fun j hj => ⟨_, rfl, by rw [add_plain]; exact h.at_ j hj⟩⟩
theorem OB.frozen {w : World} {g : Nat} {zs : List Int} (h : OB w g zs) (i : Nat) : w.frozen? ⟨g, i, none⟩ = false := by
  obtain ⟨cs, h1, _⟩ := h.blk
  simp [World.frozen?, h1]
/-- Number i is read. -/
theorem OB.get {w w' : World} {g : Nat} {zs : List Int} (h : OB w g zs) (hb : Below w.heap.size w w') (j : Nat) (hj : j < zs.length) : ∃ B c, w'.cell? ⟨g, j * 2, none⟩ = some (.bool (sg (zs.getD j 0))) ∧ w'.cell? ⟨g, j * 2 + 1, none⟩ = some (.slice B (lm (zs.getD j 0)).length c) ∧ Aside0 (RV w' B c (zs.getD j 0)) ∧ w'.frozen? ⟨g, j * 2, none⟩ = false ∧ w'.frozen? ⟨g, j * 2 + 1, none⟩ = false := by
  have h2 := h.below hb
  obtain ⟨B, c, a, b, r⟩ := h2.at_ j hj
  exact ⟨B, c, a, b, ⟨r⟩, h2.frozen _, h2.frozen _⟩
theorem blk_setCell {w : World} {g i : Nat} {cs : Array Value} {t : Nat} (h : w.heap[g]? = some (.cells cs t (0, 0))) (v : Value) : ∃ cs', (w.setCell ⟨g, i, none⟩ v).heap[g]? = some (.cells cs' t (0, 0)) ∧ cs'.size = cs.size := by
  refine ⟨cs.setIfInBounds i v, ?_, by simp⟩
  simp [World.setCell, Array.getElem?_modify, h]
/-- Number i is written. -/
theorem OB.set {w : World} {g : Nat} {zs : List Int} (h : OB w g zs) (j : Nat) (hj : j < zs.length) {B : Option Addr} {c : Nat} {z : Int} (hr : RV w B c z) : OB ((w.setCell ⟨g, j * 2, none⟩ (.bool (sg z))).setCell ⟨g, j * 2 + 1, none⟩ (.slice B (lm z).length c)) g (zs.set j z) := by
  obtain ⟨cs, h1, h2⟩ := h.blk
  obtain ⟨cs1, h3, h4⟩ := blk_setCell (i := j * 2) h1 (.bool (sg z))
  obtain ⟨cs2, h5, h6⟩ := blk_setCell (i := j * 2 + 1) h3 (.slice B (lm z).length c)
  obtain ⟨B0, c0, a0, b0, _⟩ := h.at_ j hj
  have b1 : (w.setCell ⟨g, j * 2, none⟩ (.bool (sg z))).cell? ⟨g, j * 2 + 1, none⟩ = some (.slice B0 (lm (zs.getD j 0)).length c0) := by
    rw [World.cell?_setCell_other _ _ _ _ (by simp)]; exact b0
  refine ⟨⟨cs2, h5, by rw [h6, h4, h2, List.length_set]⟩, fun k hk => ?_⟩
  rw [List.length_set] at hk
  by_cases e : k = j
  · subst e
    refine ⟨B, c, ?_, ?_, ?_⟩
    · rw [World.cell?_setCell_other _ _ _ _ (by simp), World.cell?_setCell_same _ _ _ a0]
      simp [List.getD_eq_getElem?_getD, List.getElem?_set, hj]
    · rw [World.cell?_setCell_same _ _ _ b1]
      simp [List.getD_eq_getElem?_getD, List.getElem?_set, hj]
    · have : (zs.set k z).getD k 0 = z := by simp [List.getD_eq_getElem?_getD, List.getElem?_set, hj]
      rw [this]
      exact (hr.setb a0 (noLimb_bool _) _).setb b1 (noLimb_slice _ _ _) _
  · obtain ⟨B1, c1, a1, b2, r1⟩ := h.at_ k hk
    have hz : (zs.set j z).getD k 0 = zs.getD k 0 := by
      rw [List.getD_eq_getElem?_getD, List.getD_eq_getElem?_getD, List.getElem?_set_ne (by omega)]
    rw [hz]
    refine ⟨B1, c1, ?_, ?_, ?_⟩
    · rw [World.cell?_setCell_other _ _ _ _ (by simp <;> omega), World.cell?_setCell_other _ _ _ _ (by simp <;> omega)]
      exact a1
    · rw [World.cell?_setCell_other _ _ _ _ (by simp <;> omega), World.cell?_setCell_other _ _ _ _ (by simp <;> omega)]
      exact b2
    · exact (r1.setb a0 (noLimb_bool _) _).setb b1 (noLimb_slice _ _ _) _
/-- A list of noughts, made. -/
theorem OB.made (w : World) (n : Nat) : OB (w.alloc (.cells (madeCells #[.bool false, .slice none 0 0] (n * 2)) 25)) w.heap.size (List.replicate n 0) := by
  have hc : ∀ i, i < n * 2 → (madeCells #[Value.bool false, .slice none 0 0] (n * 2))[i]? = some (if i % 2 = 0 then .bool false else .slice none 0 0) := fun i hi => by
    unfold madeCells
    rw [Array.getElem?_map, Array.getElem?_range, if_pos hi]
    rcases Nat.mod_two_eq_zero_or_one i with h | h <;> simp [h]
  have hl0 : lm 0 = [] := by simp [lm, toL_zero]
  refine ⟨⟨_, heap_alloc_new w _, by simp [size_madeCells]⟩, fun j hj => ?_⟩
  rw [List.length_replicate] at hj
  have hz : (List.replicate n (0 : Int)).getD j 0 = 0 := by simp [List.getD_eq_getElem?_getD, List.getElem?_replicate]; split <;> rfl
  rw [hz]
  refine ⟨none, 0, ?_, ?_, RV.zero _ _ _⟩
  · rw [World.cell?_alloc_new, hc _ (by omega), if_pos (by omega)]; rfl
  · rw [World.cell?_alloc_new, hc _ (by omega), if_neg (by omega), hl0]; rfl
/-- What comes of a call that answers a list of numbers. -/
def OutL (w : World) (zs : List Int) (e : Ending) (w' : World) : Prop := ∃ A c, e = .returned (.slice A zs.length c) ∧ zs.length ≤ c ∧ Aside0 (PL w' A zs) ∧ Aside0 (Below w.heap.size w w')
/-- .. and an error. -/
def OutLE (w : World) (zs : List Int) (er : Int) (e : Ending) (w' : World) : Prop := ∃ A c, e = .returned (.tuple #[.slice A zs.length c, .int .i64 er]) ∧ zs.length ≤ c ∧ Aside0 (PL w' A zs) ∧ Aside0 (Below w.heap.size w w')
end Go.Proofs.Ytplignahjhenjaa.Lb
