/- limb: right whole numbers as integers: what the functions answer of them. -/
import Derived.Test.YtlcjnahfahobjaaLbW
namespace Go.Proofs.Ytlcjnahfahobjaa.Lb
open Go.RowKit Go.Proofs.YtlcjnahfahobjaaW.PrintWords Go.Proofs.YtlcjnahfahobjaaW.PrintLast Go.Proofs.YtlcjnahfahobjaaW.PrintMore
set_option linter.unusedVariables false
set_option linter.unusedSimpArgs false

/-- A whole number's sign, its limbs. -/
def sg (z : Int) : Bool := decide (z < 0)
def lm (z : Int) : List Int := toL z.natAbs
/-- No more than so many limbs. -/
def lim (k : Nat) (z : Int) : Prop := z.natAbs < B64 ^ k
theorem lm_ok (z : Int) : okL (lm z) := okL_toL _
theorem nv_lm (z : Int) : nv (lm z) = z.natAbs := nv_toL _
theorem lm_len {k : Nat} {z : Int} (h : lim k z) : (lm z).length ≤ k := length_toL_le.2 h
theorem iv_mk (z : Int) : iv (sg z) (lm z) = z := by
  unfold iv sg
  rw [nv_lm]
  by_cases h : z < 0
  · simp [h]; omega
  · simp [h]; omega
theorem right_mk {z : Int} (h : lim 4096 z) : rightB (sg z) (lm z) = true :=
  right_toL _ _ h (fun e => by unfold sg; have : z = 0 := by omega
                               subst this; rfl)
theorem mkS_lim {z : Int} (h : lim 4096 z) : mkS z = (sg z, lm z, 0) := by
  unfold mkS toldS
  have hl := (length_toL_le (n := z.natAbs) (k := 4096)).2 h
  rw [if_neg (by omega)]
  by_cases h0 : z.natAbs = 0
  · rw [if_pos h0]
    have : z = 0 := by omega
    subst this
    simp [sg, lm, toL_zero]
  · rw [if_neg h0]; rfl
theorem mkS_big {z : Int} (h : ¬ lim 4096 z) : mkS z = (false, [], 3) := by
  unfold mkS toldS
  rw [if_pos]
  rcases Nat.lt_or_ge 4096 (toL z.natAbs).length with h1 | h1
  · exact h1
  · exact absurd (length_toL_le.1 h1) h
theorem same_mk (a b : Int) : sameS (sg a) (lm a) (sg b) (lm b) = decide (a = b) := by
  unfold sameS
  by_cases h : a = b
  · subst h; simp
  · have : ¬ (sg a = sg b ∧ lm a = lm b) := fun e => h (by rw [← iv_mk a, ← iv_mk b, e.1, e.2])
    rw [Bool.eq_iff_iff]
    simp only [Bool.and_eq_true, beq_iff_eq, decide_eq_true_eq]
    exact ⟨fun e => absurd e this, fun e => absurd e h⟩
/-- The limbs lie there, to be read. -/
structure RV (w : World) (A : Option Addr) (c : Nat) (z : Int) : Prop where
  cap : (lm z).length ≤ c
  reads : u64.C w A (lm z).length (lm z)
theorem RV.below {w w' : World} {A : Option Addr} {c : Nat} {z : Int} (h : RV w A c z) (hb : Below w.heap.size w w') : RV w' A c z := ⟨h.cap, Kd.C_below h.reads hb⟩
/-- A variable that holds a whole number. -/
def IV (w : World) (g : Nat) (z : Int) : Prop := ∃ A c, w.heap[g]? = some (.cells #[.bool (sg z), .slice A (lm z).length c] 24 (0, 0)) ∧ RV w A c z
theorem IV.below {w w' : World} {g : Nat} {z : Int} (h : IV w g z) (hb : Below w.heap.size w w') : IV w' g z := by
  obtain ⟨A, c, hg, hr⟩ := h
  exact ⟨A, c, (hb.block g (Array.getElem?_eq_some_iff.1 hg).1).trans hg, hr.below hb⟩
theorem IV.drew {w : World} {g : Nat} {z : Int} (h : IV w g z) : IV w.drew g z := h.below (Below.refl _ _).drew
theorem IV.lt {w : World} {g : Nat} {z : Int} (h : IV w g z) : g < w.heap.size := by
  obtain ⟨A, c, hg, hr⟩ := h
  exact (Array.getElem?_eq_some_iff.1 hg).1
theorem IV.new {w : World} {A : Option Addr} {c : Nat} {z : Int} (h : RV w A c z) : IV (w.alloc (.cells #[.bool (sg z), .slice A (lm z).length c] 24)) w.heap.size z :=
  ⟨A, c, heap_alloc_new w _, h.below ((Below.refl _ _).alloc (Nat.le_refl _) _)⟩
theorem IV.cells {w : World} {g : Nat} {z : Int} (h : IV w g z) : ∃ A c, w.cell? ⟨g, 0, none⟩ = some (.bool (sg z)) ∧ w.cell? ⟨g, 1, none⟩ = some (.slice A (lm z).length c) ∧ Aside0 (RV w A c z) := by
  obtain ⟨A, c, hg, hr⟩ := h
  obtain ⟨c0, c1, _, _, _⟩ := two_cells (Below.refl w.heap.size w) hg
  exact ⟨A, c, c0, c1, ⟨hr⟩⟩
/-- The same, the row by name. -/
structure BV (w : World) (g : Nat) (A : Option Addr) (c : Nat) (z : Int) : Prop where
  blk : w.heap[g]? = some (.cells #[.bool (sg z), .slice A (lm z).length c] 24 (0, 0))
  rv : RV w A c z
theorem BV.below {w w' : World} {g : Nat} {A : Option Addr} {c : Nat} {z : Int} (h : BV w g A c z) (hb : Below w.heap.size w w') : BV w' g A c z :=
  ⟨(hb.block g (Array.getElem?_eq_some_iff.1 h.blk).1).trans h.blk, h.rv.below hb⟩
theorem BV.drew {w : World} {g : Nat} {A : Option Addr} {c : Nat} {z : Int} (h : BV w g A c z) : BV w.drew g A c z := h.below (Below.refl _ _).drew
theorem BV.alloc {w : World} {g : Nat} {A : Option Addr} {c : Nat} {z : Int} (h : BV w g A c z) (o : Obj) : BV (w.alloc o) g A c z := h.below ((Below.refl _ _).alloc (Nat.le_refl _) o)
theorem RV.alloc {w : World} {A : Option Addr} {c : Nat} {z : Int} (h : RV w A c z) (o : Obj) : RV (w.alloc o) A c z := h.below ((Below.refl _ _).alloc (Nat.le_refl _) o)
theorem RV.drew {w : World} {A : Option Addr} {c : Nat} {z : Int} (h : RV w A c z) : RV w.drew A c z := h.below (Below.refl _ _).drew
theorem BV.new {w : World} {A : Option Addr} {c : Nat} {z : Int} (h : RV w A c z) : BV (w.alloc (.cells #[.bool (sg z), .slice A (lm z).length c] 24)) w.heap.size A c z :=
  ⟨heap_alloc_new w _, h.alloc _⟩
theorem BV.cells {w : World} {g : Nat} {A : Option Addr} {c : Nat} {z : Int} (h : BV w g A c z) : w.cell? ⟨g, 0, none⟩ = some (.bool (sg z)) ∧ w.cell? ⟨g, 1, none⟩ = some (.slice A (lm z).length c) ∧ g < w.heap.size := by
  obtain ⟨c0, c1, _, _, c2⟩ := two_cells (Below.refl w.heap.size w) h.blk
  exact ⟨c0, c1, c2⟩
/-- A number's limbs, laid. -/
theorem lm_lit {l : List Int} {z : Int} (ho : okL l) (hc : canon l) (hz : nv l = z.natAbs) : lm z = l := by
  unfold lm
  rw [← hz, toL_nv ho hc]
theorem lm_one {x : Int} (h0 : 0 < x) (h1 : x < 18446744073709551616) (z : Int) (hz : z.natAbs = x.toNat) : lm z = [x] :=
  lm_lit (by rw [okL_cons]; exact ⟨⟨by omega, h1⟩, okL_nil⟩) (.inr (by simp; omega)) (by simp [nv]; omega)
theorem RV.lit {w : World} {l : List Int} {z : Int} (hl : lm z = l) (hm : l.length ≤ 9223372036854775807) (cs : Array Value) (hcs : cs = (nums .u64 l).toArray) (n : Nat) (hn : l.length = n) : RV (w.alloc (.cells cs 50)) (some ⟨w.heap.size, 0, none⟩) n z := by
  subst hcs hn
  have hown := World.ownsRow_lit (base := w.heap.size) (e := 50) (size := 1) w (nums .u64 l).toArray l.length (Nat.le_refl _) (by unfold maxLen; exact hm) (by simp [nums])
  have hR : u64.R 50 _ w.heap.size (fun k => w.heap.size ≤ k) (.slice (some ⟨w.heap.size, 0, none⟩) l.length l.length) l := row_R (by simpa using hown)
  have h := Kd.R_reads' hR
  exact ⟨by rw [hl]; exact Nat.le_refl _, by rw [hl]; exact h.2.2⟩
/-- What comes of a call that answers a number and an error. -/
def OutZ (w : World) (z : Int) (e : Ending) (w' : World) : Prop := ∃ A c, e = .returned (.tuple #[.agg #[.bool (sg z), .slice A (lm z).length c], .int .i64 0]) ∧ Aside0 (RV w' A c z) ∧ Aside0 (Below w.heap.size w w')
theorem outZ {w w' : World} {z : Int} {e : Ending} {r : Bool × List Int × Int} (hr : r = (sg z, lm z, 0)) (h : ∃ v, e = .returned (.tuple #[.agg #[.bool r.1, v], .int .i64 r.2.2]) ∧ Kd.V u64 50 w' w.heap.size (fun k_ => (w.heap.size ≤ k_)) v r.2.1 ∧ Below w.heap.size w w') : OutZ w z e w' := by
  subst hr
  obtain ⟨v, rfl, hV, hb⟩ := h
  obtain ⟨A, c, rfl⟩ := Kd.V_slice hV
  have h2 := Kd.V_reads' hV
  exact ⟨A, c, rfl, ⟨⟨h2.2.1, h2.2.2⟩⟩, ⟨hb⟩⟩
theorem add_z (a b : Int) (ha : lim 4096 a) (hb : lim 4096 b) (hab : lim 4096 (a + b)) (A1 A2 : Option Addr) (c1 c2 : Nat) (w : World) (r1 : RV w A1 c1 a) (r2 : RV w A2 c2 b) :
    Calls Try.prog 13 #[.agg #[.bool (sg a), .slice A1 (lm a).length c1], .agg #[.bool (sg b), .slice A2 (lm b).length c2]] w (OutZ w (a + b)) :=
  (add_c _ _ A1 A2 c1 c2 _ _ r1.cap r2.cap (lm_ok _) (lm_ok _) (by have := lm_len ha; omega) (by have := lm_len hb; omega) w r1.reads r2.reads).mono fun e w' h => outZ (by
    unfold addS
    rw [right_mk ha, right_mk hb, iv_mk, iv_mk, mkS_lim hab]; rfl) h
/-- Times a power of two, rounded down. -/
def shZ (a b : Int) : Int := if 0 ≤ b then a * 2 ^ b.toNat else a / 2 ^ (-b).toNat
theorem shift_mk {a b : Int} (ha : lim 4096 a) (h0 : -9223372036854775808 ≤ b) (h1 : b ≤ 9223372036854775807) (hr : lim 4096 (shZ a b)) (hb : a = 0 ∨ ¬ 262144 - (bitN a.natAbs : Int) < b) : shiftS (sg a) (lm a) b = (sg (shZ a b), lm (shZ a b), 0) := by
  unfold shiftS
  rw [right_mk ha, if_pos rfl, nv_lm, iv_mk]
  by_cases hz : a = 0
  · subst hz
    have : shZ 0 b = 0 := by unfold shZ; split <;> simp
    rw [this]
    simp [sg, lm, toL_zero]
  · rw [if_neg (by omega)]
    rcases hb with h | h
    · exact absurd h hz
    · rw [if_neg h]
      unfold shZ at hr ⊢
      split
      · rename_i h2
        rw [if_pos h2] at hr
        exact mkS_lim hr
      · rename_i h2
        rw [if_neg h2] at hr
        exact mkS_lim hr
theorem shift_z (a b : Int) (ha : lim 4096 a) (h0 : -9223372036854775808 ≤ b) (h1 : b ≤ 9223372036854775807) (hr : lim 4096 (shZ a b)) (hb : a = 0 ∨ ¬ 262144 - (bitN a.natAbs : Int) < b) (A1 : Option Addr) (c1 : Nat) (w : World) (r1 : RV w A1 c1 a) :
    Calls Try.prog 25 #[.agg #[.bool (sg a), .slice A1 (lm a).length c1], .int .i64 b] w (OutZ w (shZ a b)) :=
  (shift_c _ A1 c1 _ b r1.cap (lm_ok _) (by have := lm_len ha; omega) h0 h1 w r1.reads).mono fun e w' h => outZ (shift_mk ha h0 h1 hr hb) h
/-- .. that answers a number. -/
def OutI (w : World) (z : Int) (e : Ending) (w' : World) : Prop := ∃ A c, e = .returned (.agg #[.bool (sg z), .slice A (lm z).length c]) ∧ Aside0 (RV w' A c z) ∧ Aside0 (Below w.heap.size w w')
theorem outI {w w' : World} {z : Int} {e : Ending} {r : Bool × List Int} (hr : r = (sg z, lm z)) (h : ∃ v, e = .returned (.agg #[.bool r.1, v]) ∧ Kd.V u64 50 w' w.heap.size (fun k_ => (w.heap.size ≤ k_)) v r.2 ∧ Below w.heap.size w w') : OutI w z e w' := by
  subst hr
  obtain ⟨v, rfl, hV, hb⟩ := h
  obtain ⟨A, c, rfl⟩ := Kd.V_slice hV
  have h2 := Kd.V_reads' hV
  exact ⟨A, c, rfl, ⟨⟨h2.2.1, h2.2.2⟩⟩, ⟨hb⟩⟩
theorem of_z (n : Int) (h0 : -9223372036854775808 ≤ n) (h1 : n ≤ 9223372036854775807) (w : World) : Calls Try.prog 26 #[.int .i64 n] w (OutI w n) :=
  (of_c n h0 h1 w).mono fun e w' h => outI rfl h
/-- .. that answers plain values. -/
def OutP (w : World) (v : Value) (e : Ending) (w' : World) : Prop := e = .returned v ∧ Aside0 (Below w.heap.size w w')
theorem cmp_z (a b : Int) (ha : lim 4096 a) (hb : lim 4096 b) (A1 A2 : Option Addr) (c1 c2 : Nat) (w : World) (r1 : RV w A1 c1 a) (r2 : RV w A2 c2 b) :
    Calls Try.prog 11 #[.agg #[.bool (sg a), .slice A1 (lm a).length c1], .agg #[.bool (sg b), .slice A2 (lm b).length c2]] w (OutP w (.tuple #[.int .i64 (cmpZ a b), .int .i64 0])) := by
  obtain ⟨k, hk⟩ := cmp_f (sg a) (sg b) (lm a) (lm b) (lm_ok _) (lm_ok _) (by have := lm_len ha; omega) (by have := lm_len hb; omega)
  have e : cmpS (sg a) (lm a) (sg b) (lm b) = (cmpZ a b, 0) := by
    unfold cmpS
    rw [right_mk ha, right_mk hb, iv_mk, iv_mk]; rfl
  rw [e] at hk
  exact (PC.limb_Cmp.calls k _ A1 c1 _ _ A2 c2 _ _ _ w r1.reads r1.cap r2.reads r2.cap hk).mono fun e w' h => ⟨h.1, ⟨h.2⟩⟩
theorem is_z (a b : Int) (e f : Int) (ha : lim 4096 a) (A1 A2 : Option Addr) (c1 c2 : Nat) (w : World) (r1 : RV w A1 c1 a) (r2 : RV w A2 c2 b) (v : Bool) (hv : (decide (e = f) && decide (a = b)) = v) :
    Calls Try.prog 17 #[.agg #[.bool (sg a), .slice A1 (lm a).length c1], .int .i64 e, .agg #[.bool (sg b), .slice A2 (lm b).length c2], .int .i64 f] w (OutP w (.bool v)) := by
  subst hv
  obtain ⟨k, hk⟩ := is_f (sg a) (sg b) (lm a) (lm b) e f (by have := lm_len ha; omega)
  unfold isS at hk
  rw [same_mk] at hk
  exact (PC.rosettelaw13_is.calls k _ A1 c1 _ _ _ A2 c2 _ _ _ w r1.reads r1.cap r2.reads r2.cap hk).mono fun e w' h => ⟨h.1, ⟨h.2⟩⟩
end Go.Proofs.Ytlcjnahfahobjaa.Lb
