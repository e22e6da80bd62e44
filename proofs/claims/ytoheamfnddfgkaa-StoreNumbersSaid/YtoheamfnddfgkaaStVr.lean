/- store: StoreReads, plain. -/
import Derived.Test.YtoheamfnddfgkaaStV
import Derived.Test.YtoheamfnddfgkaaStSr
namespace Go.Proofs.Ytoheamfnddfgkaa.St
open Go.RowKit Go.Proofs.YtoheamfnddfgkaaW.PrintWords Go.Proofs.Ytoheamfnddfgkaa.PB
set_option linter.unusedVariables false
set_option linter.unusedSimpArgs false

theorem storeReads_f (b : List Int) (ho : okB b) (hb : b.length ≤ 140737488351232) : rosettelaw30_StoreReads.f 50000 b = some true := by
  obtain ⟨h1, h2⟩ := readG_short b ho
  unfold rosettelaw30_StoreReads.f
  rw [read_f b ho (by omega), rread_f b ho (by omega) _ (by decide)]
  simp only [Option.bind_some]
  rw [sameCerts_f 4096 (by decide) _ h2 (by rw [List.length_map]; omega) _ (by rw [List.length_map]; omega)]
  simp [rosettelaw30_awake.f]
theorem storeReads_c (A0 : Option Addr) (n0 : Nat) (l0 : List Int) (hc0 : l0.length ≤ n0) (ho0 : okB l0) (hm0 : l0.length ≤ 140737488351232) (w : World) (hr0 : Kd.C (Kd.int .u8) w A0 l0.length l0) :
    Calls Try.prog 4 #[.slice A0 l0.length n0] w fun e w' => e = .returned (.bool true) ∧ Below w.heap.size w w' :=
  rosettelaw30_StoreReads.calls 50000 A0 n0 l0 true w hr0 hc0 (storeReads_f l0 ho0 hm0)
end Go.Proofs.Ytoheamfnddfgkaa.St
