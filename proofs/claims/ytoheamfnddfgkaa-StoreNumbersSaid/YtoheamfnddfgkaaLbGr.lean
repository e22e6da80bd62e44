/- A region in which every operation only makes memory and yields a value of its own kind, in whatever order: what it comes to. -/
import Derived.Test.YtoheamfnddfgkaaWAll
namespace Go.Proofs.Ytoheamfnddfgkaa.Gr
open Go.RowKit Go.Proofs.YtoheamfnddfgkaaW.PrintWords Go.Proofs.YtoheamfnddfgkaaW.PrintLast Go.Proofs.YtoheamfnddfgkaaW.PrintMore
set_option linter.unusedVariables false
set_option linter.unusedSimpArgs false

def upd (f : Nat → Value) (i : Nat) (u : Value) : Nat → Value := fun j => if j = i then u else f j
theorem upd_same (f : Nat → Value) (i : Nat) (u : Value) : upd f i u i = u := by simp [upd]
theorem upd_other (f : Nat → Value) {i j : Nat} (u : Value) (h : j ≠ i) : upd f i u j = f j := by simp [upd, h]
/-- What must come ahead of operation i. -/
def needs (T : List (List Nat × List Nat)) (i : Nat) : List Nat := (T.getD i ([], [])).1
theorem ready_spec {ops : Array Oper} {T : Bool × List (List Nat × List Nat)} (hT : rtab .any ops = T) (l : Array Bool) (i : Nat) : i ∈ Region.ready .any ops l ↔ i < T.2.length ∧ l.toList.getD i true = false ∧ ∀ j ∈ needs T.2 i, l.toList.getD j false = true := by
 rw [ready_eq, hT]
 unfold readyT
 rw [List.mem_filter, List.mem_range]
 unfold readyAt needs
 constructor
 ·rintro ⟨h1, h2⟩
  rw [Bool.and_eq_true] at h2
  refine ⟨h1, by simpa using h2.1, ?_⟩
  have h3 := h2.2
  rw [List.getD_eq_getElem?_getD]
  rw [List.getElem?_eq_getElem h1] at h3 ⊢
  simp only [Option.getD_some] at h3 ⊢
  rw [List.all_eq_true] at h3
  exact h3
 ·rintro ⟨h1, h2, h3⟩
  refine ⟨h1, ?_⟩
  rw [Bool.and_eq_true]
  refine ⟨by simpa using h2, ?_⟩
  rw [List.getD_eq_getElem?_getD, List.getElem?_eq_getElem h1] at h3
  rw [List.getElem?_eq_getElem h1]
  simp only [Option.getD_some] at h3 ⊢
  rw [List.all_eq_true]
  exact h3
/-- The first that is not done. -/
theorem first_false : ∀ (l : List Bool), l.count false ≠ 0 → ∃ i, i < l.length ∧ l.getD i true = false ∧ ∀ j, j < i → l.getD j false = true
 | [], h => absurd rfl h
 | true :: l, h => by
  obtain ⟨i, h1, h2, h3⟩ := first_false l (by simpa using h)
  refine ⟨i + 1, by simp; omega, by simpa using h2, fun j hj => ?_⟩
  cases j with
  | zero => rfl
  | succ j => simpa using h3 j (by omega)
 | false :: l, h => ⟨0, by simp, rfl, fun j hj => by omega⟩
theorem count_set {l : List Bool} {i : Nat} (hi : i < l.length) (h : l.getD i true = false) : (l.set i true).count false + 1 = l.count false := by
 induction l generalizing i with
 | nil => simp at hi
 | cons x l ih =>
  cases i with
  | zero =>
   have : x = false := by simpa using h
   subst this
   simp
  | succ i =>
   have := ih (i := i) (by simpa using hi) (by simpa using h)
   cases x
   ·simp only [List.set_cons_succ, List.count_cons_self]
    omega
   ·simp only [List.set_cons_succ]
    simpa using this
section
variable {P : Program} {ops : Array Oper} {Q : Exit → Act → World → Prop} {T : Bool × List (List Nat × List Nat)} (hT : rtab .any ops = T) (hn : T.2.length = ops.size) (hac : ∀ i, i < T.2.length → ∀ j ∈ needs T.2 i, j < i)
 (J : World → Prop) (hJ : ∀ w w' : World, J w → Below w.heap.size w w' → J w')
 (K : Nat → World → Value → Prop) (hK : ∀ i (w w' : World) v, K i w v → Below w.heap.size w w' → K i w' v)
 (Fr : (Nat → Value) → Act)
 (step : ∀ i, i < ops.size → ∀ (f : Nat → Value) (w : World) (K' : Act → World → Prop), J w → (∀ j ∈ needs T.2 i, K j w (f j)) → (∀ u w', K i w' u → Below w.heap.size w w' → K' (Fr (upd f i u)) w') → wpOp P ops Q i K' (Fr f) w)
 (hQ : ∀ f w, J w → (∀ i, i < ops.size → K i w (f i)) → Q .normal (Fr f) w)
include hT hn hac hJ hK step hQ
end
/-! ### a law that is told of what is done -/
def updB (d : Nat → Bool) (i : Nat) : Nat → Bool := fun j => if j = i then true else d j
theorem updB_same (d : Nat → Bool) (i : Nat) : updB d i i = true := by simp [updB]
theorem updB_other (d : Nat → Bool) {i j : Nat} (h : j ≠ i) : updB d i j = d j := by simp [updB, h]
section
variable {P : Program} {ops : Array Oper} {Q : Exit → Act → World → Prop} {T : Bool × List (List Nat × List Nat)} (hT : rtab .any ops = T) (hn : T.2.length = ops.size) (hac : ∀ i, i < T.2.length → ∀ j ∈ needs T.2 i, j < i)
 (I : (Nat → Bool) → (Nat → Value) → World → Prop) (hI : ∀ d d' f w, (∀ i, i < ops.size → d i = d' i) → I d f w → I d' f w)
 (Fr : (Nat → Value) → Act)
 (step : ∀ i, i < ops.size → ∀ (d : Nat → Bool) (f : Nat → Value) (w : World) (K' : Act → World → Prop), I d f w → d i = false → (∀ j ∈ needs T.2 i, d j = true) → (∀ u w', I (updB d i) (upd f i u) w' → K' (Fr (upd f i u)) w') → wpOp P ops Q i K' (Fr f) w)
 (hQ : ∀ f w, I (fun _ => true) f w → Q .normal (Fr f) w)
include hT hn hac hI step hQ
theorem follows : ∀ (n : Nat) (l : Array Bool) (f : Nat → Value) (w : World), l.size = ops.size → l.toList.count false = n → I (fun i => l.toList.getD i true) f w → wpAny P .any ops Q n l (Fr f) w := by
 intro n
 induction n with
 | zero =>
  intro l f w hl hc hj
  have hall : ∀ i, i < ops.size → l.toList.getD i true = true := by
   intro i hi
   have hlt : i < l.toList.length := by simpa [hl] using hi
   rw [List.getD_eq_getElem?_getD, List.getElem?_eq_getElem hlt, Option.getD_some]
   cases hv : l.toList[i] with
   | true => rfl
   | false =>
    have : false ∈ l.toList := hv ▸ List.getElem_mem hlt
    exact absurd hc (by have := List.count_pos_iff.2 this; omega)
  have hr : Region.ready .any ops l = [] := by
   rw [List.eq_nil_iff_forall_not_mem]
   intro i hi
   obtain ⟨h1, h2, h3⟩ := (ready_spec hT l i).1 hi
   rw [hall i (by omega)] at h2
   cases h2
  exact ⟨hr, hQ f w (hI _ _ _ _ (fun i hi => hall i hi) hj)⟩
 | succ n ih =>
  intro l f w hl hc hj
  refine ⟨fun h0 => ?_, fun i hi => ?_⟩
  ·obtain ⟨i, h1, h2, h3⟩ := first_false l.toList (by omega)
   have hlt : i < T.2.length := by rw [hn]; simpa [hl] using h1
   have : i ∈ Region.ready .any ops l := (ready_spec hT l i).2 ⟨hlt, h2, fun j hj => h3 j (hac i hlt j hj)⟩
   rw [h0] at this
   cases this
  ·obtain ⟨h1, h2, h3⟩ := (ready_spec hT l i).1 hi
   have hlt : i < l.toList.length := by simp [hl]; omega
   refine step i (by omega) _ f w _ hj h2 (fun j hj => ?_) (fun u w' hu => ?_)
   ·have a1 := h3 j hj
    have a2 := hac i h1 j hj
    have hjl : j < l.toList.length := by omega
    rw [List.getD_eq_getElem?_getD, List.getElem?_eq_getElem hjl] at a1 ⊢
    exact a1
   ·refine ih _ _ _ (by simpa using hl) ?_ (hI _ _ _ _ (fun j hj2 => ?_) hu)
    ·have := count_set hlt h2
     rw [Array.toList_setIfInBounds]
     omega
    ·rw [Array.toList_setIfInBounds]
     have hjl : j < l.toList.length := by simp [hl]; omega
     by_cases e : j = i
     ·subst e
      rw [updB_same, List.getD_eq_getElem?_getD, List.getElem?_set_self hjl]
      rfl
     ·rw [updB_other _ e, List.getD_eq_getElem?_getD, List.getD_eq_getElem?_getD, List.getElem?_set_ne (Ne.symm e)]
theorem region_law_done {id : Nat} (hm : P.follows .mixedOrders = true) (f : Nat → Value) (w : World) (hj : I (fun _ => false) f w.drew) : (Code.region id ops true).wp P Q (Fr f) w := by
 refine wp_region_any hm ?_
 refine follows hT hn hac I hI Fr step hQ ops.size (Array.replicate ops.size false) f w.drew (by simp) (by simp) (hI _ _ _ _ (fun i hi => ?_) hj)
 rw [List.getD_eq_getElem?_getD]
 simp [hi]
end
/-! ### the same, told of a short table -/
def needsL (N : List (List Nat)) (i : Nat) : List Nat := N.getD i []
theorem needs_L {ops : Array Oper} {N : List (List Nat)} (hN : (rtab .any ops).2.map Prod.fst = N) (i : Nat) : needs (rtab .any ops).2 i = needsL N i := by
 subst hN
 unfold needs needsL
 rw [List.getD_eq_getElem?_getD, List.getD_eq_getElem?_getD, List.getElem?_map]
 cases (rtab .any ops).2[i]? <;> rfl
theorem rtab_len (ops : Array Oper) : (rtab .any ops).2.length = ops.size := by simp [rtab]
def aheadB (N : List (List Nat)) : Bool := (List.range N.length).all fun i => (needsL N i).all (fun j => decide (j < i))
theorem ahead_of {ops : Array Oper} {N : List (List Nat)} (hN : (rtab .any ops).2.map Prod.fst = N) (h : aheadB N = true) : ∀ i, i < (rtab .any ops).2.length → ∀ j ∈ needs (rtab .any ops).2 i, j < i := by
 intro i hi j hj
 rw [needs_L hN] at hj
 have hl : N.length = (rtab .any ops).2.length := by rw [← hN]; simp
 unfold aheadB at h
 rw [List.all_eq_true] at h
 have h2 := h i (by rw [List.mem_range]; omega)
 rw [List.all_eq_true] at h2
 simpa using h2 j hj
theorem region_done {P : Program} {ops : Array Oper} {Q : Exit → Act → World → Prop} {id : Nat} (N : List (List Nat)) (n : Nat) (hz : ops.size = n) (hN : (rtab .any ops).2.map Prod.fst = N) (ha : aheadB N = true) (hm : P.follows .mixedOrders = true)
  (I : (Nat → Bool) → (Nat → Value) → World → Prop) (hI : ∀ d d' f w, (∀ i, i < n → d i = d' i) → I d f w → I d' f w)
  (Fr : (Nat → Value) → Act)
  (step : ∀ i, i < n → ∀ (d : Nat → Bool) (f : Nat → Value) (w : World) (K' : Act → World → Prop), I d f w → d i = false → (∀ j ∈ needsL N i, d j = true) → (∀ u w', I (updB d i) (upd f i u) w' → K' (Fr (upd f i u)) w') → wpOp P ops Q i K' (Fr f) w)
  (hQ : ∀ f w, I (fun _ => true) f w → Q .normal (Fr f) w)
  (f : Nat → Value) (w : World) (hj : I (fun _ => false) f w.drew) : (Code.region id ops true).wp P Q (Fr f) w := by
 subst hz
 exact region_law_done rfl (rtab_len ops) (ahead_of hN ha) I hI Fr (fun i hi d f w K' h1 h2 h3 h4 => step i hi d f w K' h1 h2 (fun j hj => h3 j (by rw [needs_L hN]; exact hj)) h4) hQ hm f w hj
/-- A region that is carried out in its own order, every operation of which only makes memory. -/
theorem list_grow {P : Program} {ops : Array Oper} {Q : Exit → Act → World → Prop} {id : Nat} (n : Nat) (hz : ops.size = n)
  (J : World → Prop) (hJ : ∀ w w' : World, J w → Below w.heap.size w w' → J w')
  (K : Nat → World → Value → Prop) (hK : ∀ i (w w' : World) v, K i w v → Below w.heap.size w w' → K i w' v)
  (Fr : (Nat → Value) → Act)
  (step : ∀ i, i < n → ∀ (f : Nat → Value) (w : World) (K' : Act → World → Prop), J w → (∀ j, j < i → K j w (f j)) → (∀ u w', K i w' u → Below w.heap.size w w' → K' (Fr (upd f i u)) w') → wpOp P ops Q i K' (Fr f) w)
  (hQ : ∀ f w, J w → (∀ i, i < n → K i w (f i)) → Q .normal (Fr f) w)
  (f : Nat → Value) (w : World) (hj : J w) : (Code.region id ops false).wp P Q (Fr f) w := by
 have key : ∀ (m k : Nat) (f : Nat → Value) (w : World), k + m = n → J w → (∀ j, j < k → K j w (f j)) → wpOps P ops Q (List.range' k m) (Fr f) w := by
  intro m
  induction m with
  | zero => exact fun k f w hk hj hd => hQ f w hj (fun i hi => hd i (by omega))
  | succ m ih =>
   intro k f w hk hj hd
   rw [List.range'_succ, wpOps_cons]
   refine step k (by omega) f w _ hj hd (fun u w' hu hb => ih (k + 1) _ _ (by omega) (hJ _ _ hj hb) (fun j hjk => ?_))
   by_cases e : j = k
   ·subst e; rw [upd_same]; exact hu
   ·rw [upd_other _ _ e]; exact hK _ _ _ _ (hd j (by omega)) hb
 refine wp_region ?_
 have h := key n 0 f w (by omega) hj (fun j h => by omega)
 rwa [← List.range_eq_range', ← hz] at h
end Go.Proofs.Ytoheamfnddfgkaa.Gr
