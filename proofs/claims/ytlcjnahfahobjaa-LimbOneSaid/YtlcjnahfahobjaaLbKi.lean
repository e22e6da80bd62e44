/- limb: KeptInt: a lent number is as it was, its marks too; the functions' answers as limbs. -/
import Derived.Test.YtlcjnahfahobjaaLbLf
import Derived.Test.YtlcjnahfahobjaaLbKp
import Derived.Test.YtlcjnahfahobjaaLbPa
import Derived.Test.YtlcjnahfahobjaaLbW
import Derived.Test.YtlcjnahfahobjaaLbI
namespace Go.Proofs.Ytlcjnahfahobjaa.Lb
open Go.RowKit Go.Proofs.YtlcjnahfahobjaaW.PrintWords Go.Proofs.YtlcjnahfahobjaaW.PrintLast Go.Proofs.YtlcjnahfahobjaaW.PrintMore
set_option linter.unusedVariables false
set_option linter.unusedSimpArgs false

theorem lk_lo (l : List Int) (i : Nat) (h : i < l.length) : rd (lk l) (i : Int) = rd l (i : Int) := by
  simp only [rd, lk, List.getD_eq_getElem?_getD, Int.toNat_natCast]
  rw [List.getElem?_append_left h]
theorem lk_hi (l : List Int) (j : Nat) (h : j < 12) : rd (lk l) ((l.length + j : Nat) : Int) = 8000024 + (j : Int) := by
  have : rd (lk l) ((l.length + j : Nat) : Int) = marks.getD j 0 := by
    simp only [rd, lk, List.getD_eq_getElem?_getD, Int.toNat_natCast]
    rw [List.getElem?_append_right (by omega)]
    congr 2
    omega
  rw [this]
  unfold marks
  rcases (by omega : j = 0 ∨ j = 1 ∨ j = 2 ∨ j = 3 ∨ j = 4 ∨ j = 5 ∨ j = 6 ∨ j = 7 ∨ j = 8 ∨ j = 9 ∨ j = 10 ∨ j = 11) with rfl | rfl | rfl | rfl | rfl | rfl | rfl | rfl | rfl | rfl | rfl | rfl <;> rfl
theorem kept_l (l : List Int) (hm : l.length ≤ 17592186043904) : ∀ (m i k : Nat), i + m = (lk l).length → m < k → PK.rosettekit_KeptLimbs.l0 k l (lk l) (i : Int) = some true
  | 0, i, k + 1, hi, hk => by rw [PK.rosettekit_KeptLimbs.l0, if_neg (by omega)]
  | m + 1, i, k + 1, hi, hk => by
    have hl := lk_len l
    have hn := kept_l l hm m (i + 1) k (by omega) (by omega)
    rw [PK.rosettekit_KeptLimbs.l0, if_pos (by omega), w1 i (by omega)]
    by_cases h : i < l.length
    · rw [if_pos (by omega), if_pos (by omega), if_pos (lk_lo l i h), if_neg (by omega)]
      exact hn
    · obtain ⟨j, rfl⟩ : ∃ j, i = l.length + j := ⟨i - l.length, by omega⟩
      have e0 : wrap64 (((l.length + j : Nat) : Int) - (l.length : Int)) = (j : Int) := by unfold wrap64; omega
      have e1 : IntKind.u64.wrap (wrap64 (wrap64 (1000003 * wrap64 (1 + 7)) + (j : Int))) = 8000024 + (j : Int) := by
        rw [show wrap64 (1 + 7) = 8 by unfold wrap64; omega, show wrap64 (1000003 * 8) = 8000024 by unfold wrap64; omega, show wrap64 (8000024 + (j : Int)) = 8000024 + (j : Int) by unfold wrap64; omega]
        exact u64w (by omega) (by omega)
      rw [if_neg (by omega), if_pos (by omega), if_pos (by omega), e0]
      unfold PK.rosettekit_mark.f
      rw [Option.bind_some, e1, lk_hi l j (by omega), if_pos rfl]
      exact hn
theorem keptL_f (l : List Int) (hm : l.length ≤ 17592186043904) : PK.rosettekit_KeptLimbs.f (l.length + 13) l.length (lk l) l = some true := by
  have hl := lk_len l
  unfold PK.rosettekit_KeptLimbs.f
  have e0 : wrap64 ((l.length : Int) + 12) = ((lk l).length : Int) := by rw [hl]; unfold wrap64; omega
  rw [if_pos rfl, e0, if_pos (by omega), if_pos rfl]
  exact kept_l l hm (lk l).length 0 _ (by omega) (by omega)
theorem keptL_c (A B : Option Addr) (c d : Nat) (l : List Int) (hm : l.length ≤ 17592186043904) (hc : l.length ≤ c) (hd : (lk l).length ≤ d) (w : World) (rB : u64.C w B (lk l).length (lk l)) (rA : u64.C w A l.length l) :
    Calls Try.prog 51 #[.slice B l.length d, .slice A l.length c] w (OutP w (.bool true)) :=
  (PK.rosettekit_KeptLimbs.calls _ B l.length d (lk l) A c l true rfl w rB hd rA hc (keptL_f l hm)).mono fun e w' h => ⟨h.1, ⟨h.2⟩⟩
theorem sameT (s : Bool) (A1 A2 : Option Addr) (c1 c2 : Nat) (l : List Int) (hm : l.length ≤ 17592186043904) (h1 : l.length ≤ c1) (h2 : l.length ≤ c2) (w : World) (r1 : u64.C w A1 l.length l) (r2 : u64.C w A2 l.length l) :
    Calls Try.prog 22 #[.agg #[.bool s, .slice A1 l.length c1], .agg #[.bool s, .slice A2 l.length c2]] w (OutP w (.bool true)) := by
  obtain ⟨k, hk⟩ := same_f s s l l (by omega)
  have e : sameS s l s l = true := by simp [sameS]
  rw [e] at hk
  exact (PC.rosettekit_SameInt.calls k s A1 c1 l s A2 c2 l true w r1 h1 r2 h2 hk).mono fun e w' h => ⟨h.1, ⟨h.2⟩⟩
theorem isT (s : Bool) (A1 A2 : Option Addr) (c1 c2 : Nat) (l : List Int) (e : Int) (hm : l.length ≤ 17592186043904) (h1 : l.length ≤ c1) (h2 : l.length ≤ c2) (w : World) (r1 : u64.C w A1 l.length l) (r2 : u64.C w A2 l.length l) :
    Calls Try.prog 17 #[.agg #[.bool s, .slice A1 l.length c1], .int .i64 e, .agg #[.bool s, .slice A2 l.length c2], .int .i64 e] w (OutP w (.bool true)) := by
  obtain ⟨k, hk⟩ := is_f s s l l e e (by omega)
  have ee : isS s l e s l e = true := by simp [isS, sameS]
  rw [ee] at hk
  exact (PC.rosettelaw13_is.calls k s A1 c1 l e s A2 c2 l e true w r1 h1 r2 h2 hk).mono fun e w' h => ⟨h.1, ⟨h.2⟩⟩
set_option maxRecDepth 100000 in
set_option maxHeartbeats 2000000 in
theorem keptI_c (s : Bool) (A B : Option Addr) (c d : Nat) (l : List Int) (hm : l.length ≤ 17592186043904) (hc : l.length ≤ c) (hd : (lk l).length ≤ d) (w : World) (rB : u64.C w B (lk l).length (lk l)) (rA : u64.C w A l.length l) :
    Calls Try.prog 18 #[.agg #[.bool s, .slice B l.length d], .agg #[.bool s, .slice A l.length c]] w (OutP w (.bool true)) := by
  have hu := Try.underlying24
  have hus := Try.underlying22
  have hld : l.length ≤ d := by rw [lk_len] at hd; omega
  have HX := Aside0.mk ((NV.new (g := w.heap.size) s l.length d rfl (by rw [lk_len]; omega) hd rB).alloc (.cells #[.bool s, .slice A l.length c] 24))
  have HA := Aside0.mk (NV.new (g := w.heap.size + 1) s l.length c (by simp) (Nat.le_refl _) hc (Kd.C_alloc rA (.cells #[.bool s, .slice B l.length d] 24)))
  have HB := Aside0.mk (((Below.refl w.heap.size w).alloc (Nat.le_refl _) (.cells #[.bool s, .slice B l.length d] 24)).alloc (by simp) (.cells #[.bool s, .slice A l.length c] 24))
  clear rA rB
  obtain ⟨x0, x1, xl⟩ := HX.out.cells
  obtain ⟨a0, a1, al⟩ := HA.out.cells
  go_enter Try.func18, Try.ntmps18
  go_wp2_with fail
  refine (sameT s _ _ _ _ l hm hld hc _ HX.out.lent HA.out.all).mono ?_
  rintro e w2 ⟨rfl, hb⟩
  clear x0 x1 xl a0 a1 al
  replace HX := Aside0.mk (HX.out.below hb.out)
  replace HA := Aside0.mk (HA.out.below hb.out)
  replace HB := Aside0.mk (below_then HB.out HB.out.size hb.out)
  obtain ⟨x0, x1, xl⟩ := HX.out.cells
  obtain ⟨a0, a1, al⟩ := HA.out.cells
  clear hb
  go_wp2_with fail
  refine (keptL_c _ _ _ _ l hm hc hd _ HX.out.row HA.out.all).mono ?_
  rintro e w3 ⟨rfl, hb⟩
  go_wp2
  go_ret
  exact ⟨rfl, ⟨below_then HB.out HB.out.size hb.out⟩⟩
/-- What a call that answers a number and an error comes to, as limbs. -/
def OutT (w : World) (r1 : Bool) (r2 : List Int) (r3 : Int) (e : Ending) (w' : World) : Prop := ∃ A c, e = .returned (.tuple #[.agg #[.bool r1, .slice A r2.length c], .int .i64 r3]) ∧ Aside0 (r2.length ≤ c ∧ u64.C w' A r2.length r2) ∧ Aside0 (Below w.heap.size w w')
theorem outT_V {w w' : World} {r1 : Bool} {r2 : List Int} {r3 : Int} {e : Ending} {r : Bool × List Int × Int} {b : Nat} {ok : Nat → Prop} (hr : r = (r1, r2, r3)) (h : ∃ v, e = .returned (.tuple #[.agg #[.bool r.1, v], .int .i64 r.2.2]) ∧ Kd.V u64 50 w' b ok v r.2.1 ∧ Below w.heap.size w w') : OutT w r1 r2 r3 e w' := by
  subst hr
  obtain ⟨v, rfl, hV, hb⟩ := h
  obtain ⟨A, c, rfl⟩ := Kd.V_slice hV
  have h2 := Kd.V_reads' hV
  exact ⟨A, c, rfl, ⟨⟨h2.2.1, h2.2.2⟩⟩, ⟨hb⟩⟩
theorem outT_R {w w' : World} {r1 : Bool} {r2 : List Int} {r3 : Int} {e : Ending} {b : Nat} {ok : Nat → Prop} (h : ∃ v, e = .returned (.tuple #[.agg #[.bool r1, v], .int .i64 r3]) ∧ Kd.R u64 50 w' b ok v r2 ∧ Below w.heap.size w w') : OutT w r1 r2 r3 e w' := by
  obtain ⟨v, rfl, hV, hb⟩ := h
  obtain ⟨A, c, rfl⟩ := Kd.R_slice hV
  have h2 := Kd.R_reads' hV
  exact ⟨A, c, rfl, ⟨⟨h2.2.1, h2.2.2⟩⟩, ⟨hb⟩⟩
end Go.Proofs.Ytlcjnahfahobjaa.Lb
