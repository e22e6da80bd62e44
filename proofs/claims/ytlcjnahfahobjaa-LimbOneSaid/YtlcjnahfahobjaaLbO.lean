/- NatTrim: a number's limbs, no noughts on top. -/
import Derived.Test.YtlcjnahfahobjaaLbC
namespace Go.Proofs.Ytlcjnahfahobjaa.Lb
open Go.RowKit Go.Proofs.YtlcjnahfahobjaaW.PrintWords Go.Proofs.YtlcjnahfahobjaaW.PrintLast Go.Proofs.YtlcjnahfahobjaaW.PrintMore
set_option linter.unusedVariables false
set_option linter.unusedSimpArgs false

set_option maxRecDepth 100000 in
set_option maxHeartbeats 1000000 in
theorem trim_c (A : Option Addr) (c : Nat) (l : List Int) (hc : l.length ≤ c) (ho : okL l) (hm : l.length < 17592186044416) (w : World) (hr : u64.C w A l.length l) :
    Calls Try.prog 52 #[.slice A l.length c] w fun e w' => ∃ v, e = .returned v ∧ u64.R 50 w' w.heap.size (fun _ => True) v (toL (nv l)) ∧ Below w.heap.size w w' := by
  have HR := Aside0.mk hr
  have HO := Aside0.mk ho
  have hus := Try.underlying22
  have TK := Lib.hid (fun m (h : m ≤ l.length) => (by have h1 := Kd.C_take HR.out h; rwa [show (l.take m).length = m by rw [List.length_take]; omega] at h1 : u64.C w A m (l.take m)))
  clear hr ho
  go_enter Try.func52, Try.ntmps52
  go_wp2
  go_loop [3] (fun v => ∃ m : Nat, m ≤ l.length ∧ v = .int .i64 m ∧ Aside0 (TopsNought l m)) (fun v => (intOf v).toNat)
  case atStart => exact ⟨l.length, Nat.le_refl _, rfl, ⟨tops_all l⟩⟩
  case round =>
    obtain ⟨m, hml, rfl, ht⟩ := hrel
    by_cases h0 : m = 0
    · subst h0
      have HE := Aside0.mk (tops_end HO.out hml ht.out (.inl rfl))
      have HT := Aside0.mk (TK.out 0 hml)
      go_wp2_with ((with_reducible refine gate_builtin (b := .append) (xs := #[.tmp 19, .tmp 22]) rfl ?_); at_builtin; refine Kd.R_append_rows u64 (w0 := w) w.heap.size rfl (.tmp 19) (.tmp 22) 22 50 (.int .u64 0) 8 rfl Try.underlying22 infoU rfl (by decide) (by omega) (.slice none 0 0) ([] : List Int) (l.take 0) _ _ _ (fun _ => True) (fun _ => False) rfl rfl ?aO ?aR (fun _ _ h => h) (fun _ h => h.elim) ?aF ?aB ?aS ?aL ?_; (case aO => exact Kd.R_nil _ _ _ _ _); (case aR => exact HT.out); (case aF => exact fun _ _ => trivial); (case aB => exact Below.refl _ _); (case aS => simp); (case aL => simp); intro v1 w1 hR hB _ _; have HR1 := Aside0.mk hR; have HB1 := Aside0.mk hB; clear hR hB)
      go_ret
      exact ⟨_, rfl, by rw [HE.out]; exact HR1.out, HB1.out⟩
    · obtain ⟨k, rfl⟩ : ∃ k, m = k + 1 := ⟨m - 1, by omega⟩
      obtain ⟨ad, hA, hcell⟩ := read_at HR.out k (by omega)
      subst hA
      obtain ⟨x, hx⟩ : ∃ x, l.getD k 0 = x := ⟨_, rfl⟩
      rw [hx] at hcell
      have HX := Aside0.mk hx
      clear hx
      have hk1 : ((k + 1 : Nat) : Int) - 1 = (k : Int) := by omega
      by_cases hz : x = 0
      · subst hz
        go_wp2
        go_round
        case rel => exact ⟨k, by omega, by go_num, ⟨tops_less (m := k + 1) hml (by omega) ht.out HX.out⟩⟩
        case measure => simp [intOf]
      · have hx0 : (x == 0) = false := by simpa using hz
        have HE := Aside0.mk (tops_end HO.out hml ht.out (.inr (by rw [Nat.add_sub_cancel, HX.out]; exact hz)))
        have HT := Aside0.mk (TK.out (k + 1) hml)
        go_wp2_with ((with_reducible refine gate_builtin (b := .append) (xs := #[.tmp 19, .tmp 22]) rfl ?_); at_builtin; refine Kd.R_append_rows u64 (w0 := w) w.heap.size rfl (.tmp 19) (.tmp 22) 22 50 (.int .u64 0) 8 rfl Try.underlying22 infoU rfl (by decide) (by omega) (.slice none 0 0) ([] : List Int) (l.take (k + 1)) _ _ _ (fun _ => True) (fun _ => False) rfl rfl ?aO ?aR (fun _ _ h => h) (fun _ h => h.elim) ?aF ?aB ?aS ?aL ?_; (case aO => exact Kd.R_nil _ _ _ _ _); (case aR => exact HT.out); (case aF => exact fun _ _ => trivial); (case aB => exact Below.refl _ _); (case aS => simp); (case aL => simp; omega); intro v1 w1 hR hB _ _; have HR1 := Aside0.mk hR; have HB1 := Aside0.mk hB; clear hR hB)
        go_ret
        exact ⟨_, rfl, by rw [HE.out]; exact HR1.out, HB1.out⟩
/-- A row of the call's own, read only from now on. -/
theorem R_V {W : World} {base base' : Nat} {ok : Nat → Prop} {v : Value} {l : List Int} (h : u64.R 50 W base ok v l) : ∃ A c, v = .slice A l.length c ∧ Kd.V u64 50 W base' (fun k => base ≤ k) (.slice A l.length c) l := by
  obtain ⟨A, c, rfl⟩ := Kd.R_slice h
  have hC := Kd.R_reads' h
  exact ⟨A, c, rfl, Kd.V_mk hC.2.1 (Kd.F_mono (Kd.R_F (Kd.R_bound h)) (fun k hk => hk.2.1))⟩
end Go.Proofs.Ytlcjnahfahobjaa.Lb
