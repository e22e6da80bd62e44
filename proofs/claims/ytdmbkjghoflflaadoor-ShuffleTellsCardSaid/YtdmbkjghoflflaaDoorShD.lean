/- Walks of law 6: what is the same; awake. -/
import Derived.Test.YtdmbkjghoflflaaDoorShC
namespace Go.Proofs.YtdmbkjghoflflaaDoor.Sh
open Go.RowKit

theorem x26 (b : Nat) (w : World) : (callFunc 26 #[.float .f64 b]).run Tryd.prog w = .ok (.value (.int .u64 b)) w := by
  rw [run_callFunc_extern Tryd.func26 (by kernel_rfl) (by kernel_rfl) (by kernel_rfl) (show Extern.find Tryd.f26 = some Extern.MathFloatBits.float64bits by kernel_rfl)]
  rfl

set_option maxHeartbeats 400000 in
theorem sameFloat_c (b : Nat) (w : World) : Calls Tryd.prog 29 #[.float .f64 b, .float .f64 b] w fun e w' => e = .returned (.bool true) ∧ w = w' := by
  have h26 := x26
  go_enter Tryd.func29, Tryd.ntmps29
  go_wp2
  go_ret
  exact ⟨rfl, rfl⟩

set_option maxHeartbeats 400000 in
theorem sameNumber_c (a b : Nat) (w : World) : Calls Tryd.prog 20 #[.complex .f64 a b, .complex .f64 a b] w fun e w' => e = .returned (.bool true) ∧ w = w' := by
  go_enter Tryd.func20, Tryd.ntmps20
  go_wp2_with (go_at_call 29; refine (sameFloat_c _ _).mono ?_; rintro e w' ⟨rfl, rfl⟩)
  go_ret
  exact ⟨rfl, rfl⟩

set_option maxHeartbeats 1000000 in
theorem sameRows_c (a b : Addr) (c d : Nat) (l : List (Nat × Nat)) (hm : l.length ≤ 9223372036854775807) (w : World) (hA : RowC w a l) (hB : RowC w b l) :
    Calls Tryd.prog 13 #[.slice (some a) l.length c, .slice (some b) l.length d] w fun e w' => e = .returned (.bool true) ∧ ∃ n, w' = w.drewN n := by
  have HA := Lib.hid hA
  have HB := Lib.hid hB
  clear hA hB
  go_enter Tryd.func13, Tryd.ntmps13
  go_wp2
  go_loopw [5] (fun i wr => ∃ j : Nat, j ≤ l.length ∧ i = .int .i64 j ∧ Hid (∃ n, wr = w.drewN n)) (fun i _ => l.length - (intOf i).toNat)
  case atStart => exact ⟨0, by omega, rfl, ⟨0, rfl⟩⟩
  case round =>
    obtain ⟨j, hj, rfl, hw⟩ := hrel
    by_cases hlt : j < l.length
    · have h1 : wr.cell? (a.add j) = some (cx (l.getD j (0, 0))) := by obtain ⟨n, rfl⟩ := hw.out; exact HA.out j hlt
      have h2 : wr.cell? (b.add j) = some (cx (l.getD j (0, 0))) := by obtain ⟨n, rfl⟩ := hw.out; exact HB.out j hlt
      unfold cx at h1 h2
      obtain ⟨q1, hq1⟩ : ∃ q, q = (l.getD j (0, 0)).1 := ⟨_, rfl⟩
      obtain ⟨q2, hq2⟩ : ∃ q, q = (l.getD j (0, 0)).2 := ⟨_, rfl⟩
      rw [← hq1, ← hq2] at h1 h2
      clear hq1 hq2
      go_wp2_with fail
      go_quiet ((go_at_call 20; exact Calls.quiet_of_same ((sameNumber_c _ _ _).mono (fun e w' h => ⟨h.1, h.2.symm⟩))))
      go_wp2
      go_roundw
      case rel => exact ⟨j + 1, by omega, by go_num, by obtain ⟨n, rfl⟩ := hw.out; exact ⟨_, World.drewN_drewN ..⟩⟩
      case measure => simp [intOf]; omega
    · obtain rfl : j = l.length := by omega
      go_wp2
      go_ret
      exact ⟨rfl, hw.out⟩

def four : List (Nat × Nat) := [(0, 0), (4607182418800017408, 0), (4611686018427387904, 0), (4613937818241073152, 0)]
/-- A row of one's own is a row that is read. -/
theorem own_row {w : World} {base g n c : Nat} {l : List (Nat × Nat)} (h : w.ownsRow base 39 1 (.slice (some ⟨g, 0, none⟩) n c) n (l.map cx)) : RowC w ⟨g, 0, none⟩ l := by
  intro j hj
  exact h.cells (g := g) rfl j _ (by simp [List.getElem?_eq_getElem hj, List.getD_eq_getElem?_getD])

theorem four_cells (w : World) : RowC (w.alloc (.cells #[.complex .f64 0 0, .complex .f64 4607182418800017408 0, .complex .f64 4611686018427387904 0, .complex .f64 4613937818241073152 0] 39)) ⟨w.heap.size, 0, none⟩ four := by
  have h := World.ownsRow_lit (base := 0) (e := 39) (size := 1) w #[.complex .f64 0 0, .complex .f64 4607182418800017408 0, .complex .f64 4611686018427387904 0, .complex .f64 4613937818241073152 0] 4 (Nat.zero_le _) (by decide) rfl
  exact own_row (l := four) h
set_option maxHeartbeats 1000000 in
theorem awake_c (w : World) (hN : Nib w) (hT : Bru w) (hz : 3 < w.heap.size) :
    Calls Tryd.prog 9 #[] w fun e w' => e = .returned (.bool true) ∧ Below w.heap.size w w' := by
  have HN := Lib.hid hN
  have HT := Lib.hid hT
  clear hN hT
  have t3 := turned_yes 3 3 (by decide) (by decide) w HN.out
  rw [show rk 3 3 = 6 from by decide] at t3
  have t3 := Lib.hid t3
  go_enter Tryd.func9, Tryd.ntmps9
  go_wp2_with fail
  refine t3.out.mono ?_; rintro e w' ⟨rfl, rfl⟩
  go_wp2_with fail
  refine (order_yes 14 (by decide) _ HT.out).mono ?_; rintro e w' ⟨rfl, rfl⟩
  go_wp2_with fail
  have hf := four_cells w
  have hb0 : Below w.heap.size w (w.alloc (.cells #[.complex .f64 0 0, .complex .f64 4607182418800017408 0, .complex .f64 4611686018427387904 0, .complex .f64 4613937818241073152 0] 39)) := (Below.refl _ _).alloc (Nat.le_refl _) _
  have hz1 : (w.alloc (.cells #[.complex .f64 0 0, .complex .f64 4607182418800017408 0, .complex .f64 4611686018427387904 0, .complex .f64 4613937818241073152 0] 39)).heap.size = w.heap.size + 1 := by simp
  generalize (w.alloc (.cells #[.complex .f64 0 0, .complex .f64 4607182418800017408 0, .complex .f64 4611686018427387904 0, .complex .f64 4613937818241073152 0] 39)) = W at *
  have HF := Lib.hid hf
  have HB0 := Lib.hid hb0
  have HZ1 := Lib.hid hz1
  clear hf hb0 hz1
  refine (row_c 2 (by decide) _ 4 four (by decide) W HF.out (show w.heap.size < W.heap.size by rw [HZ1.out]; omega) (nib_below HB0.out (by omega) HN.out) (bru_below HB0.out hz HT.out) (by rw [HZ1.out]; omega)).mono ?_
  rintro e w2 ⟨rfl, ho, hb⟩
  have hs2 : W.heap.size ≤ w2.heap.size := hb.size
  have ht : turnedRow four 2 = [(0, 0), (4611686018427387904, 0), (4607182418800017408, 0), (4613937818241073152, 0)] := by decide
  rw [ht] at ho
  have HB := Lib.hid hb
  have HO := Lib.hid ho
  have HS2 := Lib.hid hs2
  clear hb ho ht hs2
  go_wp2_with fail
  have hr := World.ownsRow_lit (base := 0) (e := 39) (size := 1) w2 #[.complex .f64 0 0, .complex .f64 4611686018427387904 0, .complex .f64 4607182418800017408 0, .complex .f64 4613937818241073152 0] 4 (Nat.zero_le _) (by decide) rfl
  have hr2 := own_row (l := [(0, 0), (4611686018427387904, 0), (4607182418800017408, 0), (4613937818241073152, 0)]) hr
  have ho2 := own_row (HO.out.alloc (.cells #[.complex .f64 0 0, .complex .f64 4611686018427387904 0, .complex .f64 4607182418800017408 0, .complex .f64 4613937818241073152 0] 39))
  have HR2 := Lib.hid hr2
  have HO2 := Lib.hid ho2
  clear hr hr2 ho2
  refine (sameRows_c _ _ _ _ [(0, 0), (4611686018427387904, 0), (4607182418800017408, 0), (4613937818241073152, 0)] (by decide) _ HO2.out HR2.out).mono ?_
  rintro e w3 ⟨rfl, hd⟩
  have hd := Lib.hid hd
  go_wp2
  go_ret
  refine ⟨rfl, ?_⟩
  obtain ⟨n, rfl⟩ := hd.out
  have h1 : Below w.heap.size w w2 := HB0.out.trans (HB.out.mono (by rw [HZ1.out]; omega))
  have h2 := h1.alloc (by have := HS2.out; rw [HZ1.out] at this; omega) (.cells #[.complex .f64 0 0, .complex .f64 4611686018427387904 0, .complex .f64 4607182418800017408 0, .complex .f64 4613937818241073152 0] 39)
  exact ⟨h2.os, h2.tape, h2.output, h2.size, h2.block⟩
end Go.Proofs.YtdmbkjghoflflaaDoor.Sh
