/- NatTrim: a number's limbs, no noughts on top. -/
import Derived.Test.YtlcjnahfahobjaaLbC
namespace Go.Proofs.Ytlcjnahfahobjaa.Lb
open Go.RowKit Go.Proofs.YtlcjnahfahobjaaW.PrintWords Go.Proofs.YtlcjnahfahobjaaW.PrintLast Go.Proofs.YtlcjnahfahobjaaW.PrintMore
set_option linter.unusedVariables false
set_option linter.unusedSimpArgs false

set_option maxRecDepth 100000 in
set_option maxHeartbeats 1000000 in
theorem trim_c (A : Option Addr) (c : Nat) (l : List Int) (hc : l.length ≤ c) (ho : okL l) (hm : l.length < 17592186044416) (w : World) (hr : u64.C w A l.length l) :
    Calls Try.prog 52 #[.slice A l.length c] w fun e w' => ∃ v, e = .returned v ∧ u64.R 50 w' w.heap.size (fun _ => True) v (toL (nv l)) ∧ Below w.heap.size w w' := by
  have HR := Aside0.mk hr
  have HO := Aside0.mk ho
  have hus := Try.underlying22
  have TK := Lib.hid (fun m (h : m ≤ l.length) => (by have h1 := Kd.C_take HR.out h; rwa [show (l.take m).length = m by rw [List.length_take]; omega] at h1 : u64.C w A m (l.take m)))
  clear hr ho
  go_enter Try.func52, Try.ntmps52
  go_wp2
  go_loop [3] (fun v => ∃ m : Nat, m ≤ l.length ∧ v = .int .i64 m ∧ Aside0 (TopsNought l m)) (fun v => (intOf v).toNat)
  case atStart => exact ⟨l.length, Nat.le_refl _, rfl, ⟨tops_all l⟩⟩
  case round =>
    obtain ⟨m, hml, rfl, ht⟩ := hrel
    by_cases h0 : m = 0
    · subst h0
      have HE := Aside0.mk (tops_end HO.out hml ht.out (.inl rfl))
      have HT := Aside0.mk (TK.out 0 hml)
      go_wp2_with ((with_reducible refine gate_builtin (b := .append) (xs := #[.tmp 19, .tmp 22]) rfl ?_); at_builtin; refine Kd.R_append_rows u64 (w0 := w) w.heap.size rfl (.tmp 19) (.tmp 22) 22 50 (.int .u64 0) 8 rfl Try.underlying22 infoU rfl (by decide) (by omega) (.slice none 0 0) ([] : List Int) (l.take 0) _ _ _ (fun _ => True) (fun _ => False) rfl rfl ?aO ?aR (fun _ _ h => h) (fun _ h => h.elim) ?aF ?aB ?aS ?aL ?_; (case aO => exact Kd.R_nil _ _ _ _ _); (case aR => exact HT.out); (case aF => exact fun _ _ => trivial); (case aB => exact Below.refl _ _); (case aS => simp); (case aL => simp); intro v1 w1 hR hB _ _; have HR1 := Aside0.mk hR; have HB1 := Aside0.mk hB; clear hR hB)
      go_ret
      exact ⟨_, rfl, by rw [HE.out]; exact HR1.out, HB1.out⟩
    · obtain ⟨k, rfl⟩ : ∃ k, m = k + 1 := ⟨m - 1, by omega⟩
      obtain ⟨ad, hA, hcell⟩ := read_at HR.out k (by omega)
      subst hA
      obtain ⟨x, hx⟩ : ∃ x, l.getD k 0 = x := ⟨_, rfl⟩
      rw [hx] at hcell
      have HX := Aside0.mk hx
      clear hx
      have hk1 : ((k + 1 : Nat) : Int) - 1 = (k : Int) := by omega
      by_cases hz : x = 0
      · subst hz
        go_wp2
        go_round
        case rel => exact ⟨k, by omega, by go_num, ⟨tops_less (m := k + 1) hml (by omega) ht.out HX.out⟩⟩
        case measure => simp [intOf]
      · have hx0 : (x == 0) = false := by simpa using hz
        have HE := Aside0.mk (tops_end HO.out hml ht.out (.inr (by rw [Nat.add_sub_cancel, HX.out]; exact hz)))
        have HT := Aside0.mk (TK.out (k + 1) hml)
        go_wp2_with ((with_reducible refine gate_builtin (b := .append) (xs := #[.tmp 19, .tmp 22]) rfl ?_); at_builtin; refine Kd.R_append_rows u64 (w0 := w) w.heap.size rfl (.tmp 19) (.tmp 22) 22 50 (.int .u64 0) 8 rfl Try.underlying22 infoU rfl (by decide) (by omega) (.slice none 0 0) ([] : List Int) (l.take (k + 1)) _ _ _ (fun _ => True) (fun _ => False) rfl rfl ?aO ?aR (fun _ _ h => h) (fun _ h => h.elim) ?aF ?aB ?aS ?aL ?_; (case aO => exact Kd.R_nil _ _ _ _ _); (case aR => exact HT.out); (case aF => exact fun _ _ => trivial); (case aB => exact Below.refl _ _); (case aS => simp); (case aL => simp; omega); intro v1 w1 hR hB _ _; have HR1 := Aside0.mk hR; have HB1 := Aside0.mk hB; clear hR hB)
        go_ret
        exact ⟨_, rfl, by rw [HE.out]; exact HR1.out, HB1.out⟩
/-- A row of the call's own, read only from now on. -/
theorem R_V {W : World} {base base' : Nat} {ok : Nat → Prop} {v : Value} {l : List Int} (h : u64.R 50 W base ok v l) : ∃ A c, v = .slice A l.length c ∧ Kd.V u64 50 W base' (fun k => base ≤ k) (.slice A l.length c) l := by
  obtain ⟨A, c, rfl⟩ := Kd.R_slice h
  have hC := Kd.R_reads' h
  exact ⟨A, c, rfl, Kd.V_mk hC.2.1 (Kd.F_mono (Kd.R_F (Kd.R_bound h)) (fun k hk => hk.2.1))⟩
/-- A whole number of at most so many limbs. -/
def wholeS (s : Bool) (l : List Int) (n : Nat) : Bool × List Int := (s && decide (nv (l.take n) ≠ 0), toL (nv (l.take n)))
theorem whole_len (q : Nat) : decide ((((toL q).length : Nat) : Int) > 0) = decide (q ≠ 0) := by
  rw [decide_eq_decide]
  have h := toL_eq_nil (n := q)
  rw [← List.length_eq_zero_iff] at h
  constructor
  · intro a b
    have := h.2 b
    omega
  · intro a
    have : (toL q).length ≠ 0 := fun b => a (h.1 b)
    omega
set_option maxRecDepth 100000 in
set_option maxHeartbeats 2000000 in
theorem whole_c (s : Bool) (A : Option Addr) (c : Nat) (l : List Int) (n : Nat) (hc : l.length ≤ c) (ho : okL l) (hm : l.length < 17592186044416) (hn : n ≤ 4611686018427387904) (w : World) (hr : u64.C w A l.length l) :
    Calls Try.prog 20 #[.agg #[.bool s, .slice A l.length c], .int .i64 (n : Int)] w fun e w' => ∃ v, e = .returned (.agg #[.bool (wholeS s l n).1, v]) ∧ Kd.V u64 50 w' w.heap.size (fun k_ => (w.heap.size ≤ k_)) v (wholeS s l n).2 ∧ Below w.heap.size w w' := by
  have hu := Try.underlying24
  have hu2 := Try.underlying35
  have hus := Try.underlying22
  have HR := Aside0.mk hr
  have HO := Aside0.mk ho
  obtain ⟨W, hW⟩ : ∃ W, (w.alloc (.cells #[.bool s, .slice A l.length c] 35)).alloc (.cells #[.bool false, .slice none 0 0] 24) = W := ⟨_, rfl⟩
  have HB0 : Aside0 (Below w.heap.size w W) := ⟨by rw [← hW]; exact ((Below.refl _ _).alloc (Nat.le_refl _) _).alloc (by simp) _⟩
  have HG0 : Aside0 (W.heap[w.heap.size]? = some (.cells #[.bool s, .slice A l.length c] 35 (0, 0))) := ⟨by
    rw [← hW, Below.heap_alloc _ _ _ (by simp)]
    exact heap_alloc_new w _⟩
  have HG1 : Aside0 (W.heap[w.heap.size + 1]? = some (.cells #[.bool false, .slice none 0 0] 24 (0, 0))) := ⟨by
    rw [← hW]
    have := heap_alloc_new (w.alloc (.cells #[.bool s, .slice A l.length c] 35)) (.cells #[.bool false, .slice none 0 0] 24)
    simpa using this⟩
  have HZ0 : Aside0 (W.heap.size = w.heap.size + 2) := ⟨by rw [← hW]; simp⟩
  have HW := Aside0.mk hW
  have HCW : Aside0 (u64.C W A l.length l) := ⟨Kd.C_below HR.out HB0.out⟩
  clear hr ho hW
  have main : ∀ (q : List Int) (cc : Nat), q.length ≤ cc → okL q → q.length < 17592186044416 → l.take n = q → u64.C W A q.length q → Calls Try.prog 52 #[.slice A q.length cc] W fun e w' => ∃ A' c', e = .returned (.slice A' (wholeS s l n).2.length c') ∧ Aside0 (Kd.V u64 50 w' w.heap.size (fun k_ => (W.heap.size ≤ k_)) (.slice A' (wholeS s l n).2.length c') (wholeS s l n).2) ∧ Aside0 (Below W.heap.size W w') := by
    intro q cc h1 h2 h3 h4 h5
    refine (trim_c A cc q h1 h2 h3 W h5).mono ?_
    rintro e w' ⟨v, rfl, hR, hb⟩
    obtain ⟨A', c', rfl, hV⟩ := R_V (base' := w.heap.size) hR
    have e1 : (wholeS s l n).2 = toL (nv q) := by unfold wholeS; rw [h4]
    rw [e1]
    exact ⟨A', c', rfl, ⟨hV⟩, ⟨hb⟩⟩
  have HS : Aside0 ((wholeS s l n).1 = (s && decide ((((wholeS s l n).2.length : Nat) : Int) > 0))) := ⟨by
    unfold wholeS
    simp only
    rw [whole_len]⟩
  have hcut : (if n < l.length then ((l.take n).length = n ∧ u64.C W A n (l.take n)) else l.take n = l) := by
    split
    · have h1 := Kd.C_take (m := n) HCW.out (by omega)
      have h2 : (l.take n).length = n := by rw [List.length_take]; omega
      rw [h2] at h1
      exact ⟨h2, h1⟩
    · exact List.take_of_length_le (by omega)
  have MAIN := Lib.hid main
  clear main
  obtain ⟨p, hp⟩ : ∃ p, wholeS s l n = p := ⟨_, rfl⟩
  rw [hp] at HS MAIN ⊢
  clear hp
  by_cases hlt : n < l.length
  · rw [if_pos hlt] at hcut
    have HM := Lib.hid (MAIN.out (l.take n) c (by rw [hcut.1]; omega) (okL_take HO.out n) (by rw [hcut.1]; omega) rfl (by rw [hcut.1]; exact hcut.2))
    rw [hcut.1] at HM
    clear hcut
    go_enter Try.func20, Try.ntmps20
    go_wp2_with fail
    rw [HW.out]
    refine HM.out.mono ?_
    rintro e w1 ⟨A1, c1, rfl, hV, hB⟩
    obtain ⟨c0, c1', f0, f1, z0⟩ := two_cells hB.out HG0.out
    obtain ⟨d0, d1, g0, g1, z1⟩ := two_cells hB.out HG1.out
    cases s
    · have HS0 : Aside0 (p.1 = false) := ⟨by rw [HS.out]; rfl⟩
      go_wp2
      refine bodyPost_ret (v := .agg #[.bool false, .slice A1 p.2.length c1]) (by simp [results, Try.results20, go_sem, d0, d1, g0, g1, z1]) rfl ⟨.slice A1 p.2.length c1, ?_, ?_, ?_⟩
      · rw [HS0.out]
      · exact Kd.V_mono (Kd.V_far (Kd.V_far hV.out (fun k hk => by show k ≠ w.heap.size + 1; have := HZ0.out; omega) _) (fun k hk => by show k ≠ w.heap.size + 1; have := HZ0.out; omega) _) (fun k hk => by have := HZ0.out; omega)
      · exact (((HB0.out.trans (hB.out.mono (by have := HZ0.out; omega))).setCell (by simp) _).setCell (by simp) _)
    · have HS0 : Aside0 (p.1 = decide (((p.2.length : Nat) : Int) > 0)) := ⟨by rw [HS.out]; rfl⟩
      go_wp2
      refine bodyPost_ret (v := .agg #[.bool (decide (((p.2.length : Nat) : Int) > 0)), .slice A1 p.2.length c1]) (by simp [results, Try.results20, go_sem, d0, d1, g0, g1, z1]) rfl ⟨.slice A1 p.2.length c1, ?_, ?_, ?_⟩
      · rw [HS0.out]
      · exact Kd.V_mono (Kd.V_far (Kd.V_far hV.out (fun k hk => by show k ≠ w.heap.size + 1; have := HZ0.out; omega) _) (fun k hk => by show k ≠ w.heap.size + 1; have := HZ0.out; omega) _) (fun k hk => by have := HZ0.out; omega)
      · exact (((HB0.out.trans (hB.out.mono (by have := HZ0.out; omega))).setCell (by simp) _).setCell (by simp) _)
  · rw [if_neg hlt] at hcut
    have HM := Lib.hid (MAIN.out l c hc HO.out hm hcut HCW.out)
    clear hcut
    go_enter Try.func20, Try.ntmps20
    go_wp2_with fail
    rw [HW.out]
    refine HM.out.mono ?_
    rintro e w1 ⟨A1, c1, rfl, hV, hB⟩
    obtain ⟨c0, c1', f0, f1, z0⟩ := two_cells hB.out HG0.out
    obtain ⟨d0, d1, g0, g1, z1⟩ := two_cells hB.out HG1.out
    cases s
    · have HS0 : Aside0 (p.1 = false) := ⟨by rw [HS.out]; rfl⟩
      go_wp2
      refine bodyPost_ret (v := .agg #[.bool false, .slice A1 p.2.length c1]) (by simp [results, Try.results20, go_sem, d0, d1, g0, g1, z1]) rfl ⟨.slice A1 p.2.length c1, ?_, ?_, ?_⟩
      · rw [HS0.out]
      · exact Kd.V_mono (Kd.V_far (Kd.V_far hV.out (fun k hk => by show k ≠ w.heap.size + 1; have := HZ0.out; omega) _) (fun k hk => by show k ≠ w.heap.size + 1; have := HZ0.out; omega) _) (fun k hk => by have := HZ0.out; omega)
      · exact (((HB0.out.trans (hB.out.mono (by have := HZ0.out; omega))).setCell (by simp) _).setCell (by simp) _)
    · have HS0 : Aside0 (p.1 = decide (((p.2.length : Nat) : Int) > 0)) := ⟨by rw [HS.out]; rfl⟩
      go_wp2
      refine bodyPost_ret (v := .agg #[.bool (decide (((p.2.length : Nat) : Int) > 0)), .slice A1 p.2.length c1]) (by simp [results, Try.results20, go_sem, d0, d1, g0, g1, z1]) rfl ⟨.slice A1 p.2.length c1, ?_, ?_, ?_⟩
      · rw [HS0.out]
      · exact Kd.V_mono (Kd.V_far (Kd.V_far hV.out (fun k hk => by show k ≠ w.heap.size + 1; have := HZ0.out; omega) _) (fun k hk => by show k ≠ w.heap.size + 1; have := HZ0.out; omega) _) (fun k hk => by have := HZ0.out; omega)
      · exact (((HB0.out.trans (hB.out.mono (by have := HZ0.out; omega))).setCell (by simp) _).setCell (by simp) _)
end Go.Proofs.Ytlcjnahfahobjaa.Lb
