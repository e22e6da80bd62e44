/- limb (for a seat without shifts): right whole numbers as integers: what the functions answer of them. -/
import Derived.Test.YtplignahjhenjaaLbH
namespace Go.Proofs.Ytplignahjhenjaa.Lb
open Go.RowKit Go.Proofs.YtplignahjhenjaaW.PrintWords Go.Proofs.YtplignahjhenjaaW.PrintLast Go.Proofs.YtplignahjhenjaaW.PrintMore
set_option linter.unusedVariables false
set_option linter.unusedSimpArgs false

theorem nv_pos_of {l : List Int} (ho : okL l) (hr : rightB true l = true) : 0 < nv l := by
  rcases Nat.eq_zero_or_pos (nv l) with h | h
  · have := canon_zero ho (right_canon hr) h
    subst this
    simp [rightB] at hr
  · exact h
/-- A whole number's sign, its limbs. -/
def sg (z : Int) : Bool := decide (z < 0)
def lm (z : Int) : List Int := toL z.natAbs
/-- No more than so many limbs. -/
def lim (k : Nat) (z : Int) : Prop := z.natAbs < B64 ^ k
theorem lim_le {k j : Nat} {z : Int} (h : lim k z) (hk : k ≤ j) : lim j z := Nat.lt_of_lt_of_le h (Nat.pow_le_pow_right (by decide) hk)
theorem lim_zero (k : Nat) : lim k 0 := by unfold lim; exact Nat.pow_pos (by decide)
theorem lim_neg {k : Nat} {z : Int} (h : lim k z) : lim k (-z) := by unfold lim at *; rwa [Int.natAbs_neg]
theorem lim_add {k : Nat} {a b : Int} (ha : lim k a) (hb : lim k b) : lim (k + 1) (a + b) := by
  unfold lim at *
  have h1 := Int.natAbs_add_le a b
  rw [Nat.pow_succ]
  have h2 : B64 ^ k * 2 ≤ B64 ^ k * B64 := Nat.mul_le_mul_left _ (by decide)
  omega
theorem lim_sub {k : Nat} {a b : Int} (ha : lim k a) (hb : lim k b) : lim (k + 1) (a - b) := by rw [Int.sub_eq_add_neg]; exact lim_add ha (lim_neg hb)
theorem lm_ok (z : Int) : okL (lm z) := okL_toL _
theorem nv_lm (z : Int) : nv (lm z) = z.natAbs := nv_toL _
theorem lm_len {k : Nat} {z : Int} (h : lim k z) : (lm z).length ≤ k := length_toL_le.2 h
theorem iv_mk (z : Int) : iv (sg z) (lm z) = z := by
  unfold iv sg
  rw [nv_lm]
  by_cases h : z < 0
  · simp [h]; omega
  · simp [h]; omega
theorem right_mk {z : Int} (h : lim 4096 z) : rightB (sg z) (lm z) = true :=
  right_toL _ _ h (fun e => by unfold sg; have : z = 0 := by omega
                               subst this; rfl)
theorem mkS_lim {z : Int} (h : lim 4096 z) : mkS z = (sg z, lm z, 0) := by
  unfold mkS toldS
  have hl := (length_toL_le (n := z.natAbs) (k := 4096)).2 h
  rw [if_neg (by omega)]
  by_cases h0 : z.natAbs = 0
  · rw [if_pos h0]
    have : z = 0 := by omega
    subst this
    simp [sg, lm, toL_zero]
  · rw [if_neg h0]; rfl
theorem mkS_big {z : Int} (h : ¬ lim 4096 z) : mkS z = (false, [], 3) := by
  unfold mkS toldS
  rw [if_pos]
  rcases Nat.lt_or_ge 4096 (toL z.natAbs).length with h1 | h1
  · exact h1
  · exact absurd (length_toL_le.1 h1) h
/-- A right number is its integer's. -/
theorem right_is {s : Bool} {l : List Int} (h : rightB s l = true) (ho : okL l) : s = sg (iv s l) ∧ l = lm (iv s l) ∧ lim 4096 (iv s l) := by
  have hc := right_canon h
  have hl : l = lm (iv s l) := by
    unfold lm iv
    rw [← toL_nv ho hc]
    congr 1
    rw [toL_nv ho hc]
    cases s <;> simp
  refine ⟨?_, hl, ?_⟩
  · unfold sg iv
    cases s
    · simp
    · have := nv_pos_of ho h
      simp; omega
  · have := nv_small h ho
    unfold lim iv
    cases s <;> simpa using this
/-- The limbs lie there, to be read. -/
structure RV (w : World) (A : Option Addr) (c : Nat) (z : Int) : Prop where
  cap : (lm z).length ≤ c
  reads : u64.C w A (lm z).length (lm z)
theorem RV.below {w w' : World} {A : Option Addr} {c : Nat} {z : Int} (h : RV w A c z) (hb : Below w.heap.size w w') : RV w' A c z := ⟨h.cap, Kd.C_below h.reads hb⟩
/-- A variable that holds a whole number. -/
def IV (w : World) (g : Nat) (z : Int) : Prop := ∃ A c, w.heap[g]? = some (.cells #[.bool (sg z), .slice A (lm z).length c] 25 (0, 0)) ∧ RV w A c z
theorem IV.below {w w' : World} {g : Nat} {z : Int} (h : IV w g z) (hb : Below w.heap.size w w') : IV w' g z := by
  obtain ⟨A, c, hg, hr⟩ := h
  exact ⟨A, c, (hb.block g (Array.getElem?_eq_some_iff.1 hg).1).trans hg, hr.below hb⟩
theorem IV.drew {w : World} {g : Nat} {z : Int} (h : IV w g z) : IV w.drew g z := h.below (Below.refl _ _).drew
theorem IV.lt {w : World} {g : Nat} {z : Int} (h : IV w g z) : g < w.heap.size := by
  obtain ⟨A, c, hg, hr⟩ := h
  exact (Array.getElem?_eq_some_iff.1 hg).1
theorem IV.new {w : World} {A : Option Addr} {c : Nat} {z : Int} (h : RV w A c z) : IV (w.alloc (.cells #[.bool (sg z), .slice A (lm z).length c] 25)) w.heap.size z :=
  ⟨A, c, heap_alloc_new w _, h.below ((Below.refl _ _).alloc (Nat.le_refl _) _)⟩
theorem IV.cells {w : World} {g : Nat} {z : Int} (h : IV w g z) : ∃ A c, w.cell? ⟨g, 0, none⟩ = some (.bool (sg z)) ∧ w.cell? ⟨g, 1, none⟩ = some (.slice A (lm z).length c) ∧ Aside0 (RV w A c z) := by
  obtain ⟨A, c, hg, hr⟩ := h
  obtain ⟨c0, c1, _, _, _⟩ := two_cells (Below.refl w.heap.size w) hg
  exact ⟨A, c, c0, c1, ⟨hr⟩⟩
/-- The same, the row by name. -/
structure BV (w : World) (g : Nat) (A : Option Addr) (c : Nat) (z : Int) : Prop where
  blk : w.heap[g]? = some (.cells #[.bool (sg z), .slice A (lm z).length c] 25 (0, 0))
  rv : RV w A c z
theorem BV.below {w w' : World} {g : Nat} {A : Option Addr} {c : Nat} {z : Int} (h : BV w g A c z) (hb : Below w.heap.size w w') : BV w' g A c z :=
  ⟨(hb.block g (Array.getElem?_eq_some_iff.1 h.blk).1).trans h.blk, h.rv.below hb⟩
theorem BV.drew {w : World} {g : Nat} {A : Option Addr} {c : Nat} {z : Int} (h : BV w g A c z) : BV w.drew g A c z := h.below (Below.refl _ _).drew
theorem BV.alloc {w : World} {g : Nat} {A : Option Addr} {c : Nat} {z : Int} (h : BV w g A c z) (o : Obj) : BV (w.alloc o) g A c z := h.below ((Below.refl _ _).alloc (Nat.le_refl _) o)
theorem RV.alloc {w : World} {A : Option Addr} {c : Nat} {z : Int} (h : RV w A c z) (o : Obj) : RV (w.alloc o) A c z := h.below ((Below.refl _ _).alloc (Nat.le_refl _) o)
theorem RV.drew {w : World} {A : Option Addr} {c : Nat} {z : Int} (h : RV w A c z) : RV w.drew A c z := h.below (Below.refl _ _).drew
theorem BV.new {w : World} {A : Option Addr} {c : Nat} {z : Int} (h : RV w A c z) : BV (w.alloc (.cells #[.bool (sg z), .slice A (lm z).length c] 25)) w.heap.size A c z :=
  ⟨heap_alloc_new w _, h.alloc _⟩
theorem BV.cells {w : World} {g : Nat} {A : Option Addr} {c : Nat} {z : Int} (h : BV w g A c z) : w.cell? ⟨g, 0, none⟩ = some (.bool (sg z)) ∧ w.cell? ⟨g, 1, none⟩ = some (.slice A (lm z).length c) ∧ g < w.heap.size := by
  obtain ⟨c0, c1, _, _, c2⟩ := two_cells (Below.refl w.heap.size w) h.blk
  exact ⟨c0, c1, c2⟩
/-- A number's limbs, laid. -/
theorem lm_lit {l : List Int} {z : Int} (ho : okL l) (hc : canon l) (hz : nv l = z.natAbs) : lm z = l := by
  unfold lm
  rw [← hz, toL_nv ho hc]
theorem lm_one {x : Int} (h0 : 0 < x) (h1 : x < 18446744073709551616) (z : Int) (hz : z.natAbs = x.toNat) : lm z = [x] :=
  lm_lit (by rw [okL_cons]; exact ⟨⟨by omega, h1⟩, okL_nil⟩) (.inr (by simp; omega)) (by simp [nv]; omega)
theorem RV.lit {w : World} {l : List Int} {z : Int} (hl : lm z = l) (hm : l.length ≤ 9223372036854775807) (cs : Array Value) (hcs : cs = (nums .u64 l).toArray) (n : Nat) (hn : l.length = n) : RV (w.alloc (.cells cs 50)) (some ⟨w.heap.size, 0, none⟩) n z := by
  subst hcs hn
  have hown := World.ownsRow_lit (base := w.heap.size) (e := 50) (size := 1) w (nums .u64 l).toArray l.length (Nat.le_refl _) (by unfold maxLen; exact hm) (by simp [nums])
  have hR : u64.R 50 _ w.heap.size (fun k => w.heap.size ≤ k) (.slice (some ⟨w.heap.size, 0, none⟩) l.length l.length) l := row_R (by simpa using hown)
  have h := Kd.R_reads' hR
  exact ⟨by rw [hl]; exact Nat.le_refl _, by rw [hl]; exact h.2.2⟩
/-- What comes of a call that answers a number and an error. -/
def OutZ (w : World) (z : Int) (e : Ending) (w' : World) : Prop := ∃ A c, e = .returned (.tuple #[.agg #[.bool (sg z), .slice A (lm z).length c], .int .i64 0]) ∧ Aside0 (RV w' A c z) ∧ Aside0 (Below w.heap.size w w')
theorem outZ {w w' : World} {z : Int} {e : Ending} {r : Bool × List Int × Int} (hr : r = (sg z, lm z, 0)) (h : ∃ v, e = .returned (.tuple #[.agg #[.bool r.1, v], .int .i64 r.2.2]) ∧ Kd.V u64 50 w' w.heap.size (fun k_ => (w.heap.size ≤ k_)) v r.2.1 ∧ Below w.heap.size w w') : OutZ w z e w' := by
  subst hr
  obtain ⟨v, rfl, hV, hb⟩ := h
  obtain ⟨A, c, rfl⟩ := Kd.V_slice hV
  have h2 := Kd.V_reads' hV
  exact ⟨A, c, rfl, ⟨⟨h2.2.1, h2.2.2⟩⟩, ⟨hb⟩⟩
theorem add_z (a b : Int) (ha : lim 4096 a) (hb : lim 4096 b) (hab : lim 4096 (a + b)) (A1 A2 : Option Addr) (c1 c2 : Nat) (w : World) (r1 : RV w A1 c1 a) (r2 : RV w A2 c2 b) :
    Calls Try.prog 35 #[.agg #[.bool (sg a), .slice A1 (lm a).length c1], .agg #[.bool (sg b), .slice A2 (lm b).length c2]] w (OutZ w (a + b)) :=
  (add_c _ _ A1 A2 c1 c2 _ _ r1.cap r2.cap (lm_ok _) (lm_ok _) (by have := lm_len ha; omega) (by have := lm_len hb; omega) w r1.reads r2.reads).mono fun e w' h => outZ (by
    unfold addS
    rw [right_mk ha, right_mk hb, iv_mk, iv_mk, mkS_lim hab]; rfl) h
theorem sub_z (a b : Int) (ha : lim 4096 a) (hb : lim 4096 b) (hab : lim 4096 (a - b)) (A1 A2 : Option Addr) (c1 c2 : Nat) (w : World) (r1 : RV w A1 c1 a) (r2 : RV w A2 c2 b) :
    Calls Try.prog 79 #[.agg #[.bool (sg a), .slice A1 (lm a).length c1], .agg #[.bool (sg b), .slice A2 (lm b).length c2]] w (OutZ w (a - b)) :=
  (sub_c _ _ A1 A2 c1 c2 _ _ r1.cap r2.cap (lm_ok _) (lm_ok _) (by have := lm_len ha; omega) (by have := lm_len hb; omega) w r1.reads r2.reads).mono fun e w' h => outZ (by
    unfold subS
    rw [right_mk ha, right_mk hb, iv_mk, iv_mk, mkS_lim hab]; rfl) h
/-- .. that answers a number. -/
def OutI (w : World) (z : Int) (e : Ending) (w' : World) : Prop := ∃ A c, e = .returned (.agg #[.bool (sg z), .slice A (lm z).length c]) ∧ Aside0 (RV w' A c z) ∧ Aside0 (Below w.heap.size w w')
/-- .. that answers plain values. -/
def OutP (w : World) (v : Value) (e : Ending) (w' : World) : Prop := e = .returned v ∧ Aside0 (Below w.heap.size w w')
theorem right_z (a : Int) (ha : lim 4096 a) (A1 : Option Addr) (c1 : Nat) (w : World) (r1 : RV w A1 c1 a) :
    Calls Try.prog 41 #[.agg #[.bool (sg a), .slice A1 (lm a).length c1]] w (OutP w (.bool true)) :=
  (right_c _ A1 c1 _ r1.cap (by have := lm_len ha; omega) w r1.reads).mono fun e w' h => ⟨by rw [← right_mk ha]; exact h.1, ⟨h.2⟩⟩
end Go.Proofs.Ytplignahjhenjaa.Lb
