/- limb: KeptInt: a lent number is as it was, its marks too; the functions' answers as limbs. -/
import Derived.Test.YtlcjnahfahobjaaLbLe
import Derived.Test.YtlcjnahfahobjaaLbR
import Derived.Test.YtlcjnahfahobjaaLbKp
import Derived.Test.YtlcjnahfahobjaaLbPa
import Derived.Test.YtlcjnahfahobjaaLbW
import Derived.Test.YtlcjnahfahobjaaLbI
namespace Go.Proofs.Ytlcjnahfahobjaa.Lb
open Go.RowKit Go.Proofs.YtlcjnahfahobjaaW.PrintWords Go.Proofs.YtlcjnahfahobjaaW.PrintLast Go.Proofs.YtlcjnahfahobjaaW.PrintMore
set_option linter.unusedVariables false
set_option linter.unusedSimpArgs false

theorem sameT (s : Bool) (A1 A2 : Option Addr) (c1 c2 : Nat) (l : List Int) (hm : l.length ≤ 17592186043904) (h1 : l.length ≤ c1) (h2 : l.length ≤ c2) (w : World) (r1 : u64.C w A1 l.length l) (r2 : u64.C w A2 l.length l) :
    Calls Try.prog 22 #[.agg #[.bool s, .slice A1 l.length c1], .agg #[.bool s, .slice A2 l.length c2]] w (OutP w (.bool true)) := by
  obtain ⟨k, hk⟩ := same_f s s l l (by omega)
  have e : sameS s l s l = true := by simp [sameS]
  rw [e] at hk
  exact (PC.rosettekit_SameInt.calls k s A1 c1 l s A2 c2 l true w r1 h1 r2 h2 hk).mono fun e w' h => ⟨h.1, ⟨h.2⟩⟩
theorem isT (s : Bool) (A1 A2 : Option Addr) (c1 c2 : Nat) (l : List Int) (e : Int) (hm : l.length ≤ 17592186043904) (h1 : l.length ≤ c1) (h2 : l.length ≤ c2) (w : World) (r1 : u64.C w A1 l.length l) (r2 : u64.C w A2 l.length l) :
    Calls Try.prog 17 #[.agg #[.bool s, .slice A1 l.length c1], .int .i64 e, .agg #[.bool s, .slice A2 l.length c2], .int .i64 e] w (OutP w (.bool true)) := by
  obtain ⟨k, hk⟩ := is_f s s l l e e (by omega)
  have ee : isS s l e s l e = true := by simp [isS, sameS]
  rw [ee] at hk
  exact (PC.rosettelaw13_is.calls k s A1 c1 l e s A2 c2 l e true w r1 h1 r2 h2 hk).mono fun e w' h => ⟨h.1, ⟨h.2⟩⟩
/-- What a call that answers a number and an error comes to, as limbs. -/
def OutT (w : World) (r1 : Bool) (r2 : List Int) (r3 : Int) (e : Ending) (w' : World) : Prop := ∃ A c, e = .returned (.tuple #[.agg #[.bool r1, .slice A r2.length c], .int .i64 r3]) ∧ Aside0 (r2.length ≤ c ∧ u64.C w' A r2.length r2) ∧ Aside0 (Below w.heap.size w w')
theorem outT_V {w w' : World} {r1 : Bool} {r2 : List Int} {r3 : Int} {e : Ending} {r : Bool × List Int × Int} {b : Nat} {ok : Nat → Prop} (hr : r = (r1, r2, r3)) (h : ∃ v, e = .returned (.tuple #[.agg #[.bool r.1, v], .int .i64 r.2.2]) ∧ Kd.V u64 50 w' b ok v r.2.1 ∧ Below w.heap.size w w') : OutT w r1 r2 r3 e w' := by
  subst hr
  obtain ⟨v, rfl, hV, hb⟩ := h
  obtain ⟨A, c, rfl⟩ := Kd.V_slice hV
  have h2 := Kd.V_reads' hV
  exact ⟨A, c, rfl, ⟨⟨h2.2.1, h2.2.2⟩⟩, ⟨hb⟩⟩
end Go.Proofs.Ytlcjnahfahobjaa.Lb
