/- store: plain: the bytes that are told are bytes. -/
import Derived.Test.YtoheamfnddfgkaaStBa
import Derived.Test.YtoheamfnddfgkaaStSr
namespace Go.Proofs.Ytoheamfnddfgkaa.St
open Go.RowKit Go.Proofs.YtoheamfnddfgkaaW.PrintWords Go.Proofs.Ytoheamfnddfgkaa.PB
set_option linter.unusedVariables false
set_option linter.unusedSimpArgs false

theorem okB_app {a b : List Int} (ha : okB a) (hb : okB b) : okB (a ++ b) := fun x hx => (List.mem_append.1 hx).elim (ha x) (hb x)
theorem okB_grp : ∀ (f n : Nat), okB (grp f n)
 | 0, _ => fun x hx => by simp [grp] at hx
 | f + 1, n => fun x hx => by
  simp only [grp] at hx
  split at hx
  ·rcases List.mem_cons.1 hx with rfl | hx
   ·omega
   ·exact okB_grp f _ x hx
  ·simp at hx
   omega
theorem okB_bF : ∀ (m u : Nat), okB (bF m u)
 | 0, _ => fun x hx => by simp [bF] at hx
 | m + 1, u => fun x hx => by
  simp only [bF, List.mem_cons] at hx
  rcases hx with rfl | hx
  ·omega
  ·exact okB_bF m _ x hx
theorem okB_limbs (l : List Int) : okB (limbsS l) := fun x hx => by
 unfold limbsS at hx
 obtain ⟨y, hy, hx⟩ := List.mem_flatten.1 hx
 obtain ⟨u, _, rfl⟩ := List.mem_map.1 hy
 exact okB_bF 8 _ x hx
theorem okB_number (s : Bool) (l : List Int) : okB (numberS s l) := okB_app (okB_grp 10 _) (okB_limbs l)
end Go.Proofs.Ytoheamfnddfgkaa.St
