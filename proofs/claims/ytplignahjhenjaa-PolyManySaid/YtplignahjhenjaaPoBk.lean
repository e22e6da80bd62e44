/- PolyBack: the walk. -/
import Derived.Test.YtplignahjhenjaaPoAk
import Derived.Test.YtplignahjhenjaaPoTa
import Derived.Test.YtplignahjhenjaaPoTc
import Derived.Test.YtplignahjhenjaaPoDp
namespace Go.Proofs.Ytplignahjhenjaa.Lb
open Go.RowKit Go.Proofs.YtplignahjhenjaaW.PrintWords Go.Proofs.YtplignahjhenjaaW.PrintLast Go.Proofs.YtplignahjhenjaaW.PrintMore
open Go.Proofs.Ytplignahjhenjaa.Po (trm trm_of_tight tight_trm trm_len tight_iff ev)
set_option linter.unusedVariables false
set_option linter.unusedSimpArgs false

/-- A list of the call's own, all of it in blocks ahead of N. -/
def TS (w : World) (base N : Nat) (v : Value) (zs : List Int) : Prop := Kd.R PB.k25 25 w base (fun k => k < N) v (zs.map sv)
theorem TS.below {w w' : World} {base N : Nat} {v : Value} {zs : List Int} (h : TS w base N v zs) (hb : Below w.heap.size w w') : TS w' base N v zs := Kd.R_below h hb
theorem TS.pl {w : World} {base N n : Nat} {A : Option Addr} {c : Nat} {zs : List Int} (h : TS w base N (.slice A n c) zs) (hs : zs.length ≤ 1000) : n = zs.length ∧ n ≤ c ∧ PL w A zs := by
  have h2 := Kd.R_reads' h
  rw [List.length_map] at h2
  exact ⟨h2.1, h2.2.1, PL_of_C h2.2.2 (by omega)⟩
/-- The same, any blocks. -/
def TR (w : World) (base : Nat) (v : Value) (zs : List Int) : Prop := Kd.R PB.k25 25 w base (fun _ => True) v (zs.map sv)
theorem TR.below {w w' : World} {base : Nat} {v : Value} {zs : List Int} (h : TR w base v zs) (hb : Below w.heap.size w w') : TR w' base v zs := Kd.R_below h hb
theorem TR.ts {w : World} {base : Nat} {v : Value} {zs : List Int} (h : TR w base v zs) : TS w base w.heap.size v zs := Kd.R_mono (Kd.R_bound h) (fun k hk => hk.2.2.1)
theorem TR.pl {w : World} {base n : Nat} {A : Option Addr} {c : Nat} {zs : List Int} (h : TR w base (.slice A n c) zs) (hs : zs.length ≤ 1000) : n = zs.length ∧ n ≤ c ∧ PL w A zs := by
  have h2 := Kd.R_reads' h
  rw [List.length_map] at h2
  exact ⟨h2.1, h2.2.1, PL_of_C h2.2.2 (by omega)⟩
end Go.Proofs.Ytplignahjhenjaa.Lb
