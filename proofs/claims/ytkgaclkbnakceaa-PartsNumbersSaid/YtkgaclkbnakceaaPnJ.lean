/- parts: Join of lists of unlike lengths, of none. -/
import Derived.Test.YtkgaclkbnakceaaPnA
import Derived.Test.YtkgaclkbnakceaaWMore
namespace Go.Proofs.Ytkgaclkbnakceaa.Pn
open Go.RowKit Go.Proofs.YtkgaclkbnakceaaW.PrintWords Go.Proofs.YtkgaclkbnakceaaW.PrintLast Go.Proofs.YtkgaclkbnakceaaW.PrintMore
set_option linter.unusedVariables false
set_option linter.unusedSimpArgs false

set_option maxRecDepth 100000 in
theorem join_1 (A B : Option Addr) (w : World) : Calls Try.prog 19 #[.slice A 2 2, .slice B 1 1] w (Out w (.tuple #[.slice none 0 0, .int .i64 4])) := by
  go_enter Try.func19, Try.ntmps19
  go_wp2
  exact bodyPost_ret (v := .tuple #[.slice none 0 0, .int .i64 4]) (by simp [results, Try.results19, go_sem]) rfl ⟨rfl, Below.refl _ _⟩
theorem infoC : (Try.prog.info? 27).map (fun i => (i.zero, i.size, i.bytes)) = some (some (.complex .f64 0 0), 1, 16) := by kernel_rfl
set_option maxRecDepth 100000 in
theorem join_0 (w : World) : Calls Try.prog 19 #[.slice none 0 0, .slice none 0 0] w (fun e w' => ∃ A, e = .returned (.tuple #[.slice A 0 0, .int .i64 0]) ∧ Below w.heap.size w w') := by
  have hus := Try.underlying36
  obtain ⟨i, hi, hz⟩ := Option.map_eq_some_iff.1 infoC
  simp only [Prod.mk.injEq] at hz
  obtain ⟨hz0, hz1, hz2⟩ := hz
  have hmk : ∀ w' : World, (Instr.makeSlice 36 (.int .i64 0) (.int .i64 0)).run Try.prog w' = .ok (.slice (some ⟨w'.heap.size, 0, none⟩) 0 0) (w'.alloc (.cells (madeCells #[.complex .f64 0 0] 0) 27)) := by
    intro w'
    have := run_make (P := Try.prog) w' 36 27 i (.complex .f64 0 0) hus hi hz0 .i64 .i64 0 0 (by omega) (by omega) (by rw [hz2]; omega) (by omega)
    rw [this, hz1]
    simp [Value.cells]
  clear hz0 hi hz1 hz2
  go_enter Try.func19, Try.ntmps19
  go_wp2
  go_loopw [7, 18] (fun v7 v18 wr => v18 = .int .i64 0 ∧ Aside0 (Below w.heap.size w wr)) (fun _ _ _ => 0)
  case atStart => exact ⟨rfl, ⟨(Below.refl _ _).alloc (Nat.le_refl _) _⟩⟩
  case round =>
    obtain ⟨rfl, HB⟩ := hrel
    go_wp2
    exact bodyPost_ret (v := .tuple #[.slice (some ⟨w.heap.size, 0, none⟩) 0 0, .int .i64 0]) (by simp [results, Try.results19, go_sem]) rfl ⟨_, rfl, HB.out⟩
end Go.Proofs.Ytkgaclkbnakceaa.Pn
