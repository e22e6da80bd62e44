/- limb: Of, Neg. -/
import Derived.Test.YtlcjnahfahobjaaLbA
namespace Go.Proofs.Ytlcjnahfahobjaa.Lb
open Go.RowKit Go.Proofs.YtlcjnahfahobjaaW.PrintWords Go.Proofs.YtlcjnahfahobjaaW.PrintLast Go.Proofs.YtlcjnahfahobjaaW.PrintMore
set_option linter.unusedVariables false
set_option linter.unusedSimpArgs false

/-- A block of two cells that was there, behind a call. -/
theorem two_cells {W w1 : World} (hb : Below W.heap.size W w1) {g t : Nat} {x y : Value} (h : W.heap[g]? = some (.cells #[x, y] t (0, 0))) :
    w1.cell? ⟨g, 0, none⟩ = some x ∧ w1.cell? ⟨g, 1, none⟩ = some y ∧ w1.frozen? ⟨g, 0, none⟩ = false ∧ w1.frozen? ⟨g, 1, none⟩ = false ∧ g < w1.heap.size := by
  have hlt : g < W.heap.size := (Array.getElem?_eq_some_iff.1 h).1
  have h1 : w1.heap[g]? = some (.cells #[x, y] t (0, 0)) := (hb.block g hlt).trans h
  have hs := hb.size
  refine ⟨?_, ?_, ?_, ?_, by omega⟩ <;> simp [World.cell?, World.frozen?, h1]
abbrev u64 : Kd Int := Kd.int .u64
theorem told_V {W : World} {base base' e : Nat} {ok : Nat → Prop} {A : Option Addr} {c : Nat} {l : List Int} {r : Bool × List Int × Int} {x : Ending} (h : ToldOut A l r x) (hR : u64.R e W base ok (.slice A l.length c) l) :
    ∃ v, x = .returned (.tuple #[.agg #[.bool r.1, v], .int .i64 r.2.2]) ∧ Kd.V u64 50 W base' ok v r.2.1 := by
  rcases h with ⟨h1, rfl⟩ | ⟨m, hm, h1, rfl⟩
  · exact ⟨_, rfl, by rw [h1]; exact Kd.V_nil _ _ _ _ _⟩
  · refine ⟨_, rfl, ?_⟩
    rw [h1]
    have hF := Kd.F_take (Kd.R_F hR) hm
    have hl : (l.take m).length = m := by rw [List.length_take]; omega
    have := Kd.V_mk (e := 50) (base := base') (c := m) (by rw [hl]; exact Nat.le_refl _) hF
    rwa [hl] at this
theorem row_R {W : World} {base : Nat} {v : Value} {l : List Int} (h : W.ownsRow base 50 1 v l.length (nums .u64 l)) : u64.R 50 W base (fun k => base ≤ k) v l :=
  Kd.R_of_own h (fun k hk => own_base h k hk)
theorem R_C {W : World} {base e n c : Nat} {ok : Nat → Prop} {A : Option Addr} {l : List Int} (h : u64.R e W base ok (.slice A n c) l) : u64.C W A l.length l ∧ l.length ≤ c ∧ n = l.length := by
  have := Kd.R_reads' h
  exact ⟨this.2.2, by omega, this.1⟩
/-- `told` behind a row of the call's own: the answer's limbs lie in what was made from N on. -/
theorem told_out {N : Nat} {W W3 : World} {ok : Nat → Prop} {A : Option Addr} {c : Nat} {l : List Int} {r : Bool × List Int × Int} {x : Ending} (h : ToldOut A l r x) (hR : u64.R 50 W N ok (.slice A l.length c) l) (hb : Below W.heap.size W W3) :
    ∃ A' c', x = .returned (.tuple #[.agg #[.bool r.1, .slice A' r.2.1.length c'], .int .i64 r.2.2]) ∧ Aside0 (∀ B, Kd.V u64 50 W3 B (fun k_ => (N ≤ k_)) (.slice A' r.2.1.length c') r.2.1) := by
  have h2 : u64.R 50 W3 N (fun k => N ≤ k) (.slice A l.length c) l := Kd.R_mono (Kd.R_below (Kd.R_bound hR) hb) (fun k hk => hk.2.1)
  obtain ⟨v, rfl, hV⟩ := told_V (base' := 0) h h2
  obtain ⟨A', c', rfl⟩ := Kd.V_slice hV
  exact ⟨A', c', rfl, ⟨fun B => hV⟩⟩
/-- `Of`'s answer. -/
def ofS (n : Int) : Bool × List Int := (decide (n < 0), toL n.natAbs)
theorem ofS_told (n : Int) (h0 : -9223372036854775808 ≤ n) (h1 : n ≤ 9223372036854775807) : toldS (decide (n < 0)) n.natAbs = ((ofS n).1, (ofS n).2, 0) := by
  have hl : (toL n.natAbs).length ≤ 1 := length_toL_le.2 (by unfold B64; omega)
  unfold toldS ofS
  rw [if_neg (by omega)]
  by_cases hz : n.natAbs = 0
  · have : n = 0 := by omega
    subst this
    simp [toL_zero]
  · rw [if_neg hz]
theorem u64_of_neg (n : Int) (h0 : -9223372036854775808 ≤ n) (h : n < 0) : IntKind.u64.wrap (-(IntKind.u64.wrap n)) = (n.natAbs : Int) := by
  rw [IntKind.wrap_u64, IntKind.wrap_u64]; omega
set_option maxRecDepth 100000 in
set_option maxHeartbeats 1000000 in
theorem of_c (n : Int) (h0 : -9223372036854775808 ≤ n) (h1 : n ≤ 9223372036854775807) (w : World) :
    Calls Try.prog 26 #[.int .i64 n] w fun e w' => ∃ v, e = .returned (.agg #[.bool (ofS n).1, v]) ∧ Kd.V u64 50 w' w.heap.size (fun k_ => (w.heap.size ≤ k_)) v (ofS n).2 ∧ Below w.heap.size w w' := by
  have hu := Try.underlying24
  have hus := Try.underlying22
  have HS := Aside0.mk (ofS_told n h0 h1)
  obtain ⟨x, hx⟩ : ∃ x : Nat, n.natAbs = x := ⟨_, rfl⟩
  have hxm : x < 18446744073709551616 := by omega
  have hv : nv [(x : Int)] = x := by simp [nv]
  have hok : okL [(x : Int)] := by rw [okL_cons]; exact ⟨⟨by omega, by omega⟩, okL_nil⟩
  rw [hx] at HS
  have HOK := Aside0.mk hok
  have HV := Aside0.mk hv
  have hsz : (w.alloc (.cells #[.bool false, .slice none 0 0] 24)).heap.size = w.heap.size + 1 := by simp
  have hown := World.ownsRow_lit (base := w.heap.size + 1) (e := 50) (size := 1) (w.alloc (.cells #[.bool false, .slice none 0 0] 24)) #[.int .u64 (x : Int)] 1 (by simp) (by decide) rfl
  rw [hsz] at hown
  have hR : u64.R 50 _ (w.heap.size + 1) (fun k => w.heap.size + 1 ≤ k) (.slice (some ⟨w.heap.size + 1, 0, none⟩) 1 1) [(x : Int)] := row_R hown
  have HG : Aside0 (((w.alloc (.cells #[.bool false, .slice none 0 0] 24)).alloc (.cells #[.int .u64 (x : Int)] 50)).heap[w.heap.size]? = some (.cells #[.bool false, .slice none 0 0] 24 (0, 0))) := by
    refine ⟨?_⟩
    rw [Below.heap_alloc _ _ _ (by simp)]
    exact heap_alloc_new w _
  have HR := Aside0.mk hR
  have hb0 : Below w.heap.size w ((w.alloc (.cells #[.bool false, .slice none 0 0] 24)).alloc (.cells #[.int .u64 (x : Int)] 50)) := ((Below.refl _ _).alloc (Nat.le_refl _) _).alloc (by simp) _
  have HB0 := Aside0.mk hb0
  clear hown hR hb0 hok hv hxm hsz
  have HX := Aside0.mk hx
  clear hx
  have main : ∀ sg : Bool, toldS sg (nv [(x : Int)]) = ((ofS n).1, (ofS n).2, 0) → ∀ w2 e, ToldOut (some ⟨w.heap.size + 1, 0, none⟩) [(x : Int)] (toldS sg (nv [(x : Int)])) e → Below ((w.alloc (.cells #[.bool false, .slice none 0 0] 24)).alloc (.cells #[.int .u64 (x : Int)] 50)).heap.size ((w.alloc (.cells #[.bool false, .slice none 0 0] 24)).alloc (.cells #[.int .u64 (x : Int)] 50)) w2 →
      ∃ A c, e = .returned (.tuple #[.agg #[.bool (ofS n).1, .slice A (ofS n).2.length c], .int .i64 0]) ∧ Aside0 (Kd.V u64 50 w2 w.heap.size (fun k_ => (w.heap.size + 1 ≤ k_)) (.slice A (ofS n).2.length c) (ofS n).2) ∧ Aside0 (Below w.heap.size w w2) := by
    intro sg hs w2 e ht hb
    obtain ⟨v, rfl, hV⟩ := told_V (base' := w.heap.size) ht (Kd.R_below HR.out hb)
    rw [hs] at hV
    obtain ⟨A, c, rfl⟩ := Kd.V_slice hV
    exact ⟨A, c, by rw [hs], ⟨hV⟩, ⟨HB0.out.trans (hb.mono (by simp; omega))⟩⟩
  have MAIN := Lib.hid main
  clear main
  have hd : decide (n < 0) = true ∨ decide (n < 0) = false := by cases decide (n < 0) <;> simp
  by_cases hn : n < 0
  · have hw := Aside0.mk (u64_of_neg n h0 hn)
    have hd : decide (n < 0) = true := by simpa using hn
    rw [HX.out] at hw
    rw [hd, ← HV.out] at HS
    go_enter Try.func26, Try.ntmps26
    go_wp2_with fail
    rw [hw.out]
    refine (told_n true _ 1 1 [(x : Int)] rfl (by omega) HOK.out (by omega) _ (R_C HR.out).1).mono ?_
    rintro e w2 ⟨ht, hb⟩
    obtain ⟨A, c, rfl, hV, hB⟩ := MAIN.out _ HS.out w2 e ht hb
    obtain ⟨c0, c1, f0, f1, hz⟩ := two_cells hb (HG.out)
    clear ht hb
    go_wp2
    refine bodyPost_ret (v := .agg #[.bool (ofS n).1, .slice A (ofS n).2.length c]) (by simp [results, Try.results26, go_sem, c0, c1, f0, f1, hz]) rfl ⟨_, rfl, ?_, ?_⟩
    · exact Kd.V_mono (Kd.V_alloc (Kd.V_far (Kd.V_far hV.out (fun k hk => by show k ≠ w.heap.size; omega) _) (fun k hk => by show k ≠ w.heap.size; omega) _) _) (fun k hk => by omega)
    · exact ((hB.out.setCell (Nat.le_refl _) _).setCell (Nat.le_refl _) _).alloc (by simp; omega) _
  · obtain rfl : n = (x : Int) := by have := HX.out; omega
    have hd : decide ((x : Int) < 0) = false := by simp
    rw [hd, ← HV.out] at HS
    go_enter Try.func26, Try.ntmps26
    go_wp2_with fail
    refine (told_n false _ 1 1 [(x : Int)] rfl (by omega) HOK.out (by omega) _ (R_C HR.out).1).mono ?_
    rintro e w2 ⟨ht, hb⟩
    obtain ⟨A, c, rfl, hV, hB⟩ := MAIN.out _ HS.out w2 e ht hb
    obtain ⟨c0, c1, f0, f1, hz⟩ := two_cells hb (HG.out)
    clear ht hb
    go_wp2
    refine bodyPost_ret (v := .agg #[.bool (ofS (x : Int)).1, .slice A (ofS (x : Int)).2.length c]) (by simp [results, Try.results26, go_sem, c0, c1, f0, f1, hz]) rfl ⟨_, rfl, ?_, ?_⟩
    · exact Kd.V_mono (Kd.V_alloc (Kd.V_far (Kd.V_far hV.out (fun k hk => by show k ≠ w.heap.size; omega) _) (fun k hk => by show k ≠ w.heap.size; omega) _) _) (fun k hk => by omega)
    · exact ((hB.out.setCell (Nat.le_refl _) _).setCell (Nat.le_refl _) _).alloc (by simp; omega) _
end Go.Proofs.Ytlcjnahfahobjaa.Lb
