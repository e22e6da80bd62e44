/- Walks of package shuffle: rows. -/
import Derived.Test.YtdmbkjghoflflaaDoorShB
import Derived.Below
import Derived.Deep.OwnRows
import Derived.Laws.MakeOwn
import Derived.Laws.OwnMore
import Derived.Deep.LoopGhost
import Derived.Deep.QuietTactic
import Derived.BigQuiet
import Derived.Laws.Externs
namespace Go.Proofs.YtdmbkjghoflflaaDoor.Sh
open Go.RowKit

theorem store_cx (P : Program) (w : World) (a : Addr) (m : Mode) (k : FloatKind) (x y : Nat) : (store a (.complex k x y) m).run P w = stored P w a (.complex k x y) m := run_store P w a _ m rfl
attribute [local go_sem] store_cx
def cx (p : Nat × Nat) : Value := .complex .f64 p.1 p.2
/-- A row that is read. -/
def RowC (w : World) (a : Addr) (l : List (Nat × Nat)) : Prop := ∀ j, j < l.length → w.cell? (a.add j) = some (cx (l.getD j (0, 0)))
def rowAt (l : List (Nat × Nat)) (k i : Nat) : List (Nat × Nat) := (List.range l.length).map fun j => if j < i then l.getD (rk k j) (0, 0) else (0, 0)
def turnedRow (l : List (Nat × Nat)) (k : Nat) : List (Nat × Nat) := (List.range l.length).map fun j => l.getD (rk k j) (0, 0)
theorem rowAt_full (l : List (Nat × Nat)) (k : Nat) : rowAt l k l.length = turnedRow l k := by
  unfold rowAt turnedRow
  refine List.map_congr_left fun j hj => ?_
  rw [if_pos (by simpa using hj)]
theorem rowAt_zero (l : List (Nat × Nat)) (k : Nat) : rowAt l k 0 = List.replicate l.length (0, 0) := by
  unfold rowAt
  apply List.ext_getElem <;> simp
theorem rowAt_succ (l : List (Nat × Nat)) (k i : Nat) : (rowAt l k i).set i (l.getD (rk k i) (0, 0)) = rowAt l k (i + 1) := by
  unfold rowAt
  apply List.ext_getElem
  · simp
  · intro j h1 h2
    rw [List.getElem_set]
    simp only [List.getElem_map, List.getElem_range]
    by_cases e : i = j
    · subst e; rw [if_pos rfl, if_pos (by omega)]
    · rw [if_neg e]
      by_cases h : j < i
      · rw [if_pos h, if_pos (by omega)]
      · rw [if_neg h, if_neg (by omega)]

theorem row_at {w : World} {a : Addr} {l : List (Nat × Nat)} (h : RowC w a l) (j : Nat) (hj : j < l.length) : w.cell? (a.add j) = some (.complex .f64 (l.getD j (0, 0)).1 (l.getD j (0, 0)).2) := h j hj
theorem info39 : (Tryd.prog.info? 39).map (fun i => (i.zero, i.size, i.bytes)) = some (some (.complex .f64 0 0), 1, 16) := by kernel_rfl

theorem turned_r (n o p : Nat) (ho : o ≤ 14) (hn : n = 2 ^ o) (hp : p < n) (w : World) (hN : Nib w) :
    Calls Tryd.prog 18 #[.int .i64 o, .int .i64 p] w fun e w' => e = .returned (.int .i64 (rk o p : Nat)) ∧ w = w' := by
  have h := turned_c o p ho (Nat.lt_of_lt_of_le (hn ▸ hp) (Nat.pow_le_pow_right (by decide) ho)) w hN
  rwa [agree_all o p ho (hn ▸ hp)] at h
theorem rk_lt' (n o p : Nat) (hn : n = 2 ^ o) : rk o p < n := hn ▸ rk_lt o p
theorem nib_below {B : Nat} {w w' : World} (h : Below B w w') (hB : 1 < B) (hN : Nib w) : Nib w' := fun j hj => (h.cell (p := ⟨1, j, none⟩) hB).trans (hN j hj)
theorem bru_below {B : Nat} {w w' : World} (h : Below B w w') (hB : 3 < B) (hN : Bru w) : Bru w' := fun j hj => (h.cell (p := ⟨3, j, none⟩) hB).trans (hN j hj)
theorem row_below {B : Nat} {w w' : World} (h : Below B w w') {a : Addr} {l : List (Nat × Nat)} (hB : a.block < B) (hN : RowC w a l) : RowC w' a l := fun j hj => by
  refine (h.cell (p := a.add j) ?_).trans (hN j hj)
  unfold Addr.add; split <;> exact hB

set_option maxHeartbeats 1000000 in
theorem row_c (k : Nat) (hk : k ≤ 14) (a : Addr) (c : Nat) (l : List (Nat × Nat)) (hl : l.length = 2 ^ k) (w : World) (hR : RowC w a l) (ha : a.block < w.heap.size) (hN : Nib w) (hT : Bru w) (hz : 3 < w.heap.size) :
    Calls Tryd.prog 10 #[.slice (some a) l.length c] w fun e w' => e = .returned (.tuple #[.slice (some ⟨w.heap.size, 0, none⟩) l.length l.length, .int .i64 0]) ∧
      w'.ownsRow w.heap.size 39 1 (.slice (some ⟨w.heap.size, 0, none⟩) l.length l.length) l.length ((turnedRow l k).map cx) ∧ Below w.heap.size w w' := by
  have hp : 2 ^ k ≤ 2 ^ 14 := Nat.pow_le_pow_right (by decide) hk
  have oc := order_yes k hk w hT
  rw [← hl] at oc hp
  have oc := Lib.hid oc
  have HL := Lib.hid hl
  have HR := Lib.hid hR
  have HN := Lib.hid hN
  clear hl hR hN hT
  have hmk := fun W => run_make_row' (P := Tryd.prog) 31 39 (.complex .f64 0 0) 16 Tryd.underlying31 info39 rfl .i64 .i64 l.length (by omega) (by omega) W
  go_enter Tryd.func10, Tryd.ntmps10
  go_wp2_with fail
  refine oc.out.mono ?_; rintro e w' ⟨rfl, rfl⟩
  go_wp2
  have hz0 : (madeCells #[Value.complex FloatKind.f64 0 0] l.length).toList = (rowAt l k 0).map cx := by
    rw [rowAt_zero]
    apply List.ext_getElem
    · simp [madeCells]
    · intro i h1 h2
      simp [madeCells, cx, Nat.mod_one]
  have hown : (w.alloc (Obj.cells (madeCells #[Value.complex FloatKind.f64 0 0] l.length) 39)).ownsRow w.heap.size 39 1 (.slice (some ⟨w.heap.size, 0, none⟩) l.length l.length) l.length ((rowAt l k 0).map cx) := by
    have := World.ownsRow_lit (base := w.heap.size) (e := 39) (size := 1) w (madeCells #[Value.complex FloatKind.f64 0 0] l.length) l.length (Nat.le_refl _) (by unfold maxLen; omega) (by simp [madeCells])
    rwa [hz0] at this
  have hbel : Below w.heap.size w (w.alloc (Obj.cells (madeCells #[Value.complex FloatKind.f64 0 0] l.length) 39)) := (Below.refl _ _).alloc (Nat.le_refl _) _
  clear hz0
  have hown := Lib.hid hown
  generalize (w.alloc (Obj.cells (madeCells #[Value.complex FloatKind.f64 0 0] l.length) 39)) = W at *
  go_loopw [7, 21] (fun _ i wr => ∃ j : Nat, j ≤ l.length ∧ i = .int .i64 j ∧ Hid (wr.ownsRow w.heap.size 39 1 (.slice (some ⟨w.heap.size, 0, none⟩) l.length l.length) l.length ((rowAt l k j).map cx)) ∧ Hid (Below w.heap.size w wr)) (fun _ i _ => l.length - (intOf i).toNat)
  case atStart => exact ⟨0, by omega, rfl, hown.out, hbel⟩
  case round =>
    obtain ⟨j, hj, rfl, ho, hb⟩ := hrel
    by_cases hlt : j < l.length
    · have c := Lib.hid (turned_r l.length k j hk HL.out hlt wr (nib_below hb.out (by omega) HN.out))
      have hr := rk_lt' l.length k j HL.out
      have hc := row_at (row_below hb.out ha HR.out) (rk k j) hr
      have hst := (ho.out.stored j (cx (l.getD (rk k j) (0, 0))))
      rw [← List.map_set, rowAt_succ] at hst
      unfold cx at hst
      obtain ⟨q1, hq1⟩ : ∃ q, q = (l.getD (rk k j) (0, 0)).1 := ⟨_, rfl⟩
      obtain ⟨q2, hq2⟩ : ∃ q, q = (l.getD (rk k j) (0, 0)).2 := ⟨_, rfl⟩
      rw [← hq1, ← hq2] at hst hc
      clear hq1 hq2
      have hst := Lib.hid hst
      have hwr : ∃ y, wr.cell? ⟨w.heap.size, j, none⟩ = some y := by
        have := ho.out.cellAt j (by omega)
        rw [this]
        exact ⟨_, List.getElem?_eq_getElem (by simp [rowAt]; omega)⟩
      obtain ⟨y, hwr⟩ := hwr
      have hfr : wr.frozen? ⟨w.heap.size, j, none⟩ = false := by
        rcases ho.out.2 with ⟨h', _⟩ | ⟨g', cap', cur, h', _, hh, _⟩
        · cases h'
        · injection h' with h'; injection h' with h'; injection h' with h'
          subst h'
          simp [World.frozen?, hh]
      go_wp2_with fail
      refine c.out.mono ?_; rintro e w' ⟨rfl, rfl⟩
      go_wp2
      go_roundw
      case rel => exact ⟨j + 1, by omega, by go_num, hst.out.1, hb.out.setCell (Nat.le_refl _) _⟩
      case measure => simp [intOf]; omega
    · obtain rfl : j = l.length := by omega
      rw [rowAt_full] at ho
      go_wp2
      go_ret2
      exact ⟨rfl, ho.out, hb.out⟩
end Go.Proofs.YtdmbkjghoflflaaDoor.Sh
