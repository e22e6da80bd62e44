/- store: StorePuts. -/
import Derived.Test.YtoheamfnddfgkaaStT
import Derived.Test.YtoheamfnddfgkaaStRp
namespace Go.Proofs.Ytoheamfnddfgkaa.St
open Go.RowKit Go.Proofs.YtoheamfnddfgkaaW.PrintWords Go.Proofs.Ytoheamfnddfgkaa.PB
set_option linter.unusedVariables false
set_option linter.unusedSimpArgs false

theorem storePuts_f (s : Bool) (l b : List Int) (hl : okL64 l) (hm : l.length < 17592186044416) (ho : okB b) (hb : b.length ≤ 140737488351232) : rosettelaw30_StorePuts.f 50000 s l b = some true := by
 have h1 := putS_len s l
 have h2 := getS_len b
 unfold rosettelaw30_StorePuts.f
 rw [put_f s l hl (by omega) _ (by decide), rput_f s l hl (by omega) _ (by decide), get_f b ho (by omega), rget_f b ho (by omega) _ (by decide)]
 simp only [Option.bind_some]
 rw [sameBytes_f _ _ (by omega) _ (by omega)]
 simp only [Option.bind_some, decide_true, if_true]
 rw [sameInt_law _ _ _ _ (by omega) _ (by omega)]
 simp [rosettelaw30_awake.f]
theorem storePuts_c (s : Bool) (A0 : Option Addr) (n0 : Nat) (l0 : List Int) (hc0 : l0.length ≤ n0) (ho0 : okL64 l0) (hm0 : l0.length < 17592186044416) (A1 : Option Addr) (n1 : Nat) (l1 : List Int) (hc1 : l1.length ≤ n1) (ho1 : okB l1) (hm1 : l1.length ≤ 140737488351232) (w : World) (hr0 : Kd.C (Kd.int .u64) w A0 l0.length l0) (hr1 : Kd.C (Kd.int .u8) w A1 l1.length l1) :
  Calls Try.prog 3 #[.agg #[.bool s, .slice A0 l0.length n0], .slice A1 l1.length n1] w fun e w' => e = .returned (.bool true) ∧ Below w.heap.size w w' :=
 rosettelaw30_StorePuts.calls 50000 s A0 n0 l0 A1 n1 l1 true w hr0 hc0 hr1 hc1 (storePuts_f s l0 l1 ho0 hm0 ho1 hm1)
end Go.Proofs.Ytoheamfnddfgkaa.St
