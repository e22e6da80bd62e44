/- limb: LimbTwo: the walk. -/
import Derived.Test.YtlcjnahfahobjaaLbKi
import Derived.Test.YtlcjnahfahobjaaLbPc
import Derived.Test.YtlcjnahfahobjaaLbX
import Derived.Test.YtlcjnahfahobjaaLbJ
namespace Go.Proofs.Ytlcjnahfahobjaa.Lb
open Go.RowKit Go.Proofs.YtlcjnahfahobjaaW.PrintWords Go.Proofs.YtlcjnahfahobjaaW.PrintLast Go.Proofs.YtlcjnahfahobjaaW.PrintMore
set_option linter.unusedVariables false
set_option linter.unusedSimpArgs false

theorem add_t (s t : Bool) (A1 A2 : Option Addr) (c1 c2 : Nat) (l m : List Int) (r1 : Bool) (r2 : List Int) (r3 : Int) (hr : addS s l t m = (r1, r2, r3)) (h1 : l.length ≤ c1) (h2 : m.length ≤ c2) (hl : okL l) (hm : okL m) (bl : l.length ≤ 17592186043904) (bm : m.length ≤ 17592186043904) (w : World) (a1 : u64.C w A1 l.length l) (a2 : u64.C w A2 m.length m) :
    Calls Try.prog 13 #[.agg #[.bool s, .slice A1 l.length c1], .agg #[.bool t, .slice A2 m.length c2]] w (OutT w r1 r2 r3) :=
  (add_c s t A1 A2 c1 c2 l m h1 h2 hl hm (by omega) (by omega) w a1 a2).mono fun e w' h => outT_V hr h
theorem sub_t (s t : Bool) (A1 A2 : Option Addr) (c1 c2 : Nat) (l m : List Int) (r1 : Bool) (r2 : List Int) (r3 : Int) (hr : subS s l t m = (r1, r2, r3)) (h1 : l.length ≤ c1) (h2 : m.length ≤ c2) (hl : okL l) (hm : okL m) (bl : l.length ≤ 17592186043904) (bm : m.length ≤ 17592186043904) (w : World) (a1 : u64.C w A1 l.length l) (a2 : u64.C w A2 m.length m) :
    Calls Try.prog 15 #[.agg #[.bool s, .slice A1 l.length c1], .agg #[.bool t, .slice A2 m.length c2]] w (OutT w r1 r2 r3) :=
  (sub_c s t A1 A2 c1 c2 l m h1 h2 hl hm (by omega) (by omega) w a1 a2).mono fun e w' h => outT_V hr h
theorem cmp_t (s t : Bool) (A1 A2 : Option Addr) (c1 c2 : Nat) (l m : List Int) (r1 r2 : Int) (hr : cmpS s l t m = (r1, r2)) (h1 : l.length ≤ c1) (h2 : m.length ≤ c2) (hl : okL l) (hm : okL m) (bl : l.length ≤ 17592186043904) (bm : m.length ≤ 17592186043904) (w : World) (a1 : u64.C w A1 l.length l) (a2 : u64.C w A2 m.length m) :
    Calls Try.prog 11 #[.agg #[.bool s, .slice A1 l.length c1], .agg #[.bool t, .slice A2 m.length c2]] w (OutP w (.tuple #[.int .i64 r1, .int .i64 r2])) := by
  obtain ⟨k, hk⟩ := cmp_f s t l m hl hm (by omega) (by omega)
  exact (PC.limb_Cmp.calls k s A1 c1 l t A2 c2 m r1 r2 w a1 h1 a2 h2 (hk.trans (congrArg some hr))).mono fun e w' h => ⟨h.1, ⟨h.2⟩⟩
end Go.Proofs.Ytlcjnahfahobjaa.Lb
