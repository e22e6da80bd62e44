/- store: what is given to the print. -/
import Derived.Test.YtoheamfnddfgkaaStP
namespace Go.Proofs.Ytoheamfnddfgkaa.St
instance okB_dec (b : List Int) : Decidable (okB b) := by unfold okB; infer_instance
end Go.Proofs.Ytoheamfnddfgkaa.St
