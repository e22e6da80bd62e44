/- limb: Of, Neg. -/
import Derived.Test.YtplignahjhenjaaLbA
namespace Go.Proofs.Ytplignahjhenjaa.Lb
open Go.RowKit Go.Proofs.YtplignahjhenjaaW.PrintWords Go.Proofs.YtplignahjhenjaaW.PrintLast Go.Proofs.YtplignahjhenjaaW.PrintMore
set_option linter.unusedVariables false
set_option linter.unusedSimpArgs false

/-- A block of two cells that was there, behind a call. -/
theorem two_cells {W w1 : World} (hb : Below W.heap.size W w1) {g t : Nat} {x y : Value} (h : W.heap[g]? = some (.cells #[x, y] t (0, 0))) :
    w1.cell? ⟨g, 0, none⟩ = some x ∧ w1.cell? ⟨g, 1, none⟩ = some y ∧ w1.frozen? ⟨g, 0, none⟩ = false ∧ w1.frozen? ⟨g, 1, none⟩ = false ∧ g < w1.heap.size := by
  have hlt : g < W.heap.size := (Array.getElem?_eq_some_iff.1 h).1
  have h1 : w1.heap[g]? = some (.cells #[x, y] t (0, 0)) := (hb.block g hlt).trans h
  have hs := hb.size
  refine ⟨?_, ?_, ?_, ?_, by omega⟩ <;> simp [World.cell?, World.frozen?, h1]
abbrev u64 : Kd Int := Kd.int .u64
theorem told_V {W : World} {base base' e : Nat} {ok : Nat → Prop} {A : Option Addr} {c : Nat} {l : List Int} {r : Bool × List Int × Int} {x : Ending} (h : ToldOut A l r x) (hR : u64.R e W base ok (.slice A l.length c) l) :
    ∃ v, x = .returned (.tuple #[.agg #[.bool r.1, v], .int .i64 r.2.2]) ∧ Kd.V u64 50 W base' ok v r.2.1 := by
  rcases h with ⟨h1, rfl⟩ | ⟨m, hm, h1, rfl⟩
  · exact ⟨_, rfl, by rw [h1]; exact Kd.V_nil _ _ _ _ _⟩
  · refine ⟨_, rfl, ?_⟩
    rw [h1]
    have hF := Kd.F_take (Kd.R_F hR) hm
    have hl : (l.take m).length = m := by rw [List.length_take]; omega
    have := Kd.V_mk (e := 50) (base := base') (c := m) (by rw [hl]; exact Nat.le_refl _) hF
    rwa [hl] at this
theorem row_R {W : World} {base : Nat} {v : Value} {l : List Int} (h : W.ownsRow base 50 1 v l.length (nums .u64 l)) : u64.R 50 W base (fun k => base ≤ k) v l :=
  Kd.R_of_own h (fun k hk => own_base h k hk)
theorem R_C {W : World} {base e n c : Nat} {ok : Nat → Prop} {A : Option Addr} {l : List Int} (h : u64.R e W base ok (.slice A n c) l) : u64.C W A l.length l ∧ l.length ≤ c ∧ n = l.length := by
  have := Kd.R_reads' h
  exact ⟨this.2.2, by omega, this.1⟩
/-- `told` behind a row of the call's own: the answer's limbs lie in what was made from N on. -/
theorem told_out {N : Nat} {W W3 : World} {ok : Nat → Prop} {A : Option Addr} {c : Nat} {l : List Int} {r : Bool × List Int × Int} {x : Ending} (h : ToldOut A l r x) (hR : u64.R 50 W N ok (.slice A l.length c) l) (hb : Below W.heap.size W W3) :
    ∃ A' c', x = .returned (.tuple #[.agg #[.bool r.1, .slice A' r.2.1.length c'], .int .i64 r.2.2]) ∧ Aside0 (∀ B, Kd.V u64 50 W3 B (fun k_ => (N ≤ k_)) (.slice A' r.2.1.length c') r.2.1) := by
  have h2 : u64.R 50 W3 N (fun k => N ≤ k) (.slice A l.length c) l := Kd.R_mono (Kd.R_below (Kd.R_bound hR) hb) (fun k hk => hk.2.1)
  obtain ⟨v, rfl, hV⟩ := told_V (base' := 0) h h2
  obtain ⟨A', c', rfl⟩ := Kd.V_slice hV
  exact ⟨A', c', rfl, ⟨fun B => hV⟩⟩
end Go.Proofs.Ytplignahjhenjaa.Lb
