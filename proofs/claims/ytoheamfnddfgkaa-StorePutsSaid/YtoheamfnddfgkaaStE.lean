/- store: face's deferred closure. -/
import Derived.Test.YtoheamfnddfgkaaStD
import Derived.Tactics2
import Derived.Defers
import Derived.Recover
namespace Go.Proofs.Ytoheamfnddfgkaa.St
open Go.RowKit Go.Proofs.YtoheamfnddfgkaaW.PrintWords Go.Proofs.YtoheamfnddfgkaaW.PrintLast Go.Proofs.YtoheamfnddfgkaaW.PrintMore
set_option linter.unusedVariables false
set_option linter.unusedSimpArgs false

theorem zero79 : (Try.prog.info? 79).map (·.zero) = some (some (.int .i64 0)) := by kernel_rfl
theorem ta_wrong (x : Int) (w : World) : (Instr.typeAssert (.iface 79 (.int .i64 x)) 20 79 true).run Try.prog w = .ok (.tuple #[.int .i64 x, .bool true]) w := by
  obtain ⟨i, hi, hz⟩ := Option.map_eq_some_iff.1 zero79
  simp [Instr.typeAssert, run_underlying Try.underlying79, typeInfo, hi, zeroValue, hz, go_sem, Result.andThen]
theorem ta_nil (w : World) : (Instr.typeAssert Value.nilIface 20 79 true).run Try.prog w = .ok (.tuple #[.int .i64 0, .bool false]) w := by
  obtain ⟨i, hi, hz⟩ := Option.map_eq_some_iff.1 zero79
  simp [Instr.typeAssert, run_underlying Try.underlying79, typeInfo, hi, zeroValue, hz, go_sem, Result.andThen]
set_option maxHeartbeats 2000000 in
set_option maxRecDepth 100000 in
theorem catch_panicking (g1 g2 : Nat) (hne : g2 ≠ g1) (x : Int) (v1 v2 : Value) (older : List PanicEntry) (w : World) (h1 : w.heap[g1]? = some (.cells #[v1] 3 (0, 0))) (h2 : w.heap[g2]? = some (.cells #[v2] 26 (0, 0))) :
    CallsD Try.prog 68 #[.pointer (some ⟨g1, 0, none⟩), .pointer (some ⟨g2, 0, none⟩)] (.panicking ({ v := .iface 79 (.int .i64 x), recovered := false } :: older)) w fun e u' w' =>
      e = .returned (.tuple #[]) ∧ u' = .panicking ({ v := .iface 79 (.int .i64 x), recovered := true } :: older) ∧ w' = (w.setCell ⟨g1, 0, none⟩ (.int .i64 x)).setCell ⟨g2, 0, none⟩ (.int .i64 400) := by
  have c1 := (blk_cell h1 0).trans rfl
  have c2 := (blk_cell h2 0).trans rfl
  have f1 := blk_frozen h1 0
  have f2 := blk_frozen h2 0
  refine callsD_of_wpS Try.func68 rfl fun c₀ cs hu => ?_
  apply wpS_seq
  apply wpS_region
  simp [wpOpsS, go_sem, recoverD, hu, ta_wrong, Array.replicate, Try.ntmps68, Exit.thenS]
  apply wpS_of_wp
  go_wp2
  simp [bodyPostS, results, Try.results68]
theorem catch_idle (p q : Option Addr) (w : World) :
    CallsD Try.prog 68 #[.pointer p, .pointer q] .returning w fun e u' w' => e = .returned (.tuple #[]) ∧ u' = .returning ∧ w' = w := by
  refine callsD_of_wpS Try.func68 rfl fun c₀ cs hu => ?_
  apply wpS_seq
  apply wpS_region
  simp [wpOpsS, go_sem, recoverD, hu, ta_nil, Array.replicate, Try.ntmps68, Exit.thenS]
  apply wpS_of_wp
  go_wp2
  cases c₀
  simp_all [bodyPostS, results, Try.results68]
end Go.Proofs.Ytoheamfnddfgkaa.St
