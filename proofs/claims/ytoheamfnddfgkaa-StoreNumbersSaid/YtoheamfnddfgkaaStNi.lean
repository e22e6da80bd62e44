/- store: StoreNumbers: the numbers laid. -/
import Derived.Test.YtoheamfnddfgkaaStNh
namespace Go.Proofs.Ytoheamfnddfgkaa.St
open Go.RowKit Go.Proofs.Ytoheamfnddfgkaa.PB
set_option linter.unusedVariables false
theorem numbers_k (K N M : Nat) (hK : K = 4095) (hN : N = 4096) (hM : M = 4097) (w : World) :
    Calls Try.prog 7 #[] w fun e w' => e = .returned (.bool true) ∧ Below w.heap.size w w' :=
  numbers_c w N M K ⟨hN⟩ ⟨hM⟩ ⟨hK⟩ (numberS true (fullL K)) ⟨put_full K hK⟩ ⟨number_full_len K hK⟩ ⟨okB_number _ _⟩ ⟨by rw [number_full K hK]; rfl⟩ ⟨by rw [number_full K hK]; rfl⟩ ⟨get_full K hK [7]⟩ ⟨get_short K hK⟩ (certsT (List.replicate 64 z61)).1 ⟨Prod.ext rfl certs64.1⟩ ⟨certs64.2⟩ (certsT [zc 64]).1 ⟨Prod.ext rfl long64⟩
theorem numbers_all (w : World) : Calls Try.prog 7 #[] w fun e w' => e = .returned (.bool true) ∧ Below w.heap.size w w' := numbers_k 4095 4096 4097 rfl rfl rfl w
end Go.Proofs.Ytoheamfnddfgkaa.St
