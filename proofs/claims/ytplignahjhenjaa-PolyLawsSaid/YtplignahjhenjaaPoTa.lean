/- poly: tame, number: what the laws make of their arguments. -/
import Derived.Test.YtplignahjhenjaaPoKi
namespace Go.Proofs.Ytplignahjhenjaa.Lb
open Go.RowKit Go.Proofs.YtplignahjhenjaaW.PrintWords Go.Proofs.YtplignahjhenjaaW.PrintLast Go.Proofs.YtplignahjhenjaaW.PrintMore
open Go.Proofs.Ytplignahjhenjaa.Po (trm trm_of_tight tight_trm trm_len tight_iff ev)
set_option linter.unusedVariables false
set_option linter.unusedSimpArgs false

/-- A number as it came in: limbs, not too many. -/
def okc (c : PB.S25) : Prop := okL c.f1 ∧ c.f1.length < 17592186044416
theorem copy_f {s : Bool} {l : List Int} (h : l.length < 17592186044416) : PB.rosettekit_CopyInt.f s l = some (s, l) := by
  unfold PB.rosettekit_CopyInt.f PB.rosettekit_CopyLimbs.f
  rw [if_pos (by simpa using h)]
  rfl
theorem right_f2 (s : Bool) (l : List Int) (h : l.length < 17592186044416) : PB.limb_Right.f s l = some (rightB s l) := by
  unfold PB.limb_Right.f
  rw [if_pos (by omega)]
theorem of_f (a : Int) (h : -9223372036854775808 ≤ a ∧ a ≤ 9223372036854775807) : PB.rosettelaw23_of.f a = some (sg a, lm a) := by
  unfold PB.rosettelaw23_of.f; rw [if_pos h]
theorem trm_snoc (ys : List Int) (c : Int) : trm (ys ++ [c]) = if c = 0 then trm ys else ys ++ [c] := by
  by_cases h : c = 0
  · rw [if_pos h, h, trm_snoc0]
  · rw [if_neg h]
    refine trm_of_tight (.inr ?_)
    simp [h]
theorem trm_take : ∀ ys : List Int, ys.take (trm ys).length = trm ys
  | [] => rfl
  | c :: t => by
    have ih := trm_take t
    rw [trm]
    by_cases h : trm t = [] ∧ c = 0
    · rw [if_pos h]; rfl
    · rw [if_neg h, List.length_cons, List.take_succ_cons, ih]
/-- The number that comes of one that came in. -/
theorem one_of (c : PB.S25) (h : okc c) (m : Nat) (hm : m ≤ 4096) : ∃ z, lim (max m 1) z ∧ (rightB c.f0 c.f1 = true → c.f1.length ≤ m → c = sv z) ∧ ((rightB c.f0 c.f1 = false ∨ m < c.f1.length) → True) := by
  by_cases hr : rightB c.f0 c.f1 = true ∧ c.f1.length ≤ m
  · obtain ⟨h1, h2, h3⟩ := right_is hr.1 h.1
    refine ⟨iv c.f0 c.f1, ?_, fun _ _ => ?_, fun _ => trivial⟩
    · refine lim_le (k := m) ?_ (by omega)
      unfold lim
      have : (lm (iv c.f0 c.f1)).length ≤ m := by rw [← h2]; exact hr.2
      exact length_toL_le.1 this
    · cases c with
      | mk a b => simp only [sv] at *; rw [← h1, ← h2]
  · exact ⟨0, lim_zero _, fun a b => absurd ⟨a, b⟩ hr, fun _ => trivial⟩
theorem lim_small {z : Int} (h : z.natAbs < 18446744073709551616) : lim 1 z := by unfold lim; rw [Nat.pow_one]; exact h
theorem tame_l0 (l : List PB.S25) (hl : ∀ c ∈ l, okc c) (hs : l.length ≤ 9223372036854775806) : ∀ (d k i : Nat) (ys : List Int), i + d = min 12 l.length → ys.length = i → (∀ z ∈ ys, lim 8 z) → 3 * d + 2 < k → ∃ zs, PB.rosettelaw23_tame.l0 k l (ys.map sv) ((trm ys).length : Int) (i : Int) = some ((trm zs).map sv) ∧ zs.length ≤ 12 ∧ ∀ z ∈ zs, lim 8 z
  | 0, k, i, ys, h, hy, hz, hk => by
    obtain ⟨k, rfl⟩ : ∃ m, k = m + 2 := ⟨k - 2, by omega⟩
    refine ⟨ys, ?_, by omega, hz⟩
    have hj : PB.rosettelaw23_tame.j1 (k + 1) l (ys.map sv) ((trm ys).length : Int) (i : Int) false = some ((trm ys).map sv) := by
      have h1 := trm_len ys
      rw [PB.rosettelaw23_tame.j1, if_neg (by simp), if_pos (by omega), if_pos (by rw [List.length_map]; omega), Int.toNat_natCast, ← List.map_take, trm_take]
    rw [PB.rosettelaw23_tame.l0]
    by_cases h1 : (i : Int) < (l.length : Int)
    · rw [if_pos h1, decide_eq_false (by omega)]; exact hj
    · rw [if_neg h1]; exact hj
  | d + 1, k, i, ys, h, hy, hz, hk => by
    obtain ⟨k, rfl⟩ : ∃ m, k = m + 3 := ⟨k - 3, by omega⟩
    have hil : i < l.length := by omega
    obtain ⟨c, hc⟩ : ∃ c, PB.rd_T25 l (i : Int) = c := ⟨_, rfl⟩
    have hok : okc c := by
      rw [← hc]
      unfold PB.rd_T25
      rw [Int.toNat_natCast, List.getD_eq_getElem?_getD, List.getElem?_eq_getElem hil]
      exact hl _ (List.getElem_mem hil)
    have hw : wrap64 ((i : Int) + 1) = ((i + 1 : Nat) : Int) := by unfold wrap64; omega
    have hyl : (ys.map sv).length < 4398046511104 := by rw [List.length_map]; omega
    -- what follows one more number
    have more : ∀ z, lim 8 z → ∃ zs, (if ((lm z).length : Int) > 0 then PB.rosettelaw23_tame.l0 k l (ys.map sv ++ [sv z]) (wrap64 ((i : Int) + 1)) (wrap64 ((i : Int) + 1)) else PB.rosettelaw23_tame.l0 k l (ys.map sv ++ [sv z]) ((trm ys).length : Int) (wrap64 ((i : Int) + 1))) = some ((trm zs).map sv) ∧ zs.length ≤ 12 ∧ ∀ z ∈ zs, lim 8 z := by
      intro z hzl
      have e : ys.map sv ++ [sv z] = (ys ++ [z]).map sv := by rw [List.map_append]; rfl
      have ih := tame_l0 l hl hs d k (i + 1) (ys ++ [z]) (by omega) (by simp [hy]) (fun x hx => by
        rcases List.mem_append.1 hx with h | h
        · exact hz x h
        · rw [List.mem_singleton.1 h]; exact hzl) (by omega)
      rw [trm_snoc] at ih
      rw [e, hw]
      by_cases h0 : z = 0
      · rw [if_pos h0] at ih
        rw [if_neg (by rw [h0, show lm 0 = [] by simp [lm, toL_zero]]; simp)]
        exact ih
      · rw [if_neg h0] at ih
        have : (ys ++ [z]).length = i + 1 := by simp [hy]
        rw [this] at ih
        rw [if_pos (by have := lm_pos h0; omega)]
        exact ih
    have hj2t : ∃ zs, PB.rosettelaw23_tame.j2 (k + 1) l (ys.map sv) ((trm ys).length : Int) (i : Int) true c.f0 c.f1 = some ((trm zs).map sv) ∧ zs.length ≤ 12 ∧ ∀ z ∈ zs, lim 8 z := by
      rw [PB.rosettelaw23_tame.j2, if_pos rfl, of_f 1 (by decide), Option.bind_some]
      show ∃ zs, (if (ys.map sv).length < 4398046511104 then _ else none) = _ ∧ _
      rw [if_pos hyl]
      exact more 1 (lim_le (lim_small (by decide)) (by omega))
    have hj2 : ∃ zs, (if rightB c.f0 c.f1 = true then PB.rosettelaw23_tame.j2 (k + 1) l (ys.map sv) ((trm ys).length : Int) (i : Int) (decide ((c.f1.length : Int) > 8)) c.f0 c.f1 else PB.rosettelaw23_tame.j2 (k + 1) l (ys.map sv) ((trm ys).length : Int) (i : Int) true c.f0 c.f1) = some ((trm zs).map sv) ∧ zs.length ≤ 12 ∧ ∀ z ∈ zs, lim 8 z := by
      by_cases hr : rightB c.f0 c.f1 = true
      · rw [if_pos hr]
        by_cases h8 : c.f1.length ≤ 8
        · obtain ⟨z, hz1, hz2, _⟩ := one_of c hok 8 (by omega)
          have hcz := hz2 hr h8
          rw [decide_eq_false (by omega), PB.rosettelaw23_tame.j2, if_neg (by simp), if_pos hyl, hcz]
          exact more z hz1
        · rw [decide_eq_true (by omega)]
          exact hj2t
      · rw [if_neg hr]
        exact hj2t
    obtain ⟨zs, h1, h2, h3⟩ := hj2
    refine ⟨zs, ?_, h2, h3⟩
    rw [PB.rosettelaw23_tame.l0, if_pos (by omega), decide_eq_true (by omega), PB.rosettelaw23_tame.j1, if_pos rfl, if_pos (by omega), if_pos (by omega), hc, copy_f hok.2, Option.bind_some]
    show ((PB.limb_Right.f c.f0 c.f1).bind _) = _
    rw [right_f2 _ _ hok.2, Option.bind_some]
    exact h1
/-- What comes of tame: a right list of at most 12 numbers of at most 8 limbs, the call's own. -/
def OutTame (w : World) (e : Ending) (w' : World) : Prop := ∃ zs v, e = .returned v ∧ Po.tight zs ∧ zs.length ≤ 12 ∧ (∀ z ∈ zs, lim 8 z) ∧ Aside0 (Kd.S PB.k25 25 w' w.heap.size (fun _ => True) v (zs.map sv)) ∧ Aside0 (Below w.heap.size w w')
theorem lim_trm {k : Nat} {zs : List Int} (h : ∀ z ∈ zs, lim k z) : ∀ z ∈ trm zs, lim k z := fun z hz => by
  rw [← trm_take zs] at hz
  exact h z (List.mem_of_mem_take hz)
theorem tame_z (A : Option Addr) (n c : Nat) (l : List PB.S25) (hn : l.length = n) (hc : n ≤ c) (hl : ∀ c ∈ l, okc c) (hs : n ≤ 9223372036854775806) (w : World) (r : Kd.C PB.k25 w A n l) :
    Calls Try.prog 33 #[.slice A n c] w (OutTame w) := by
  subst hn
  obtain ⟨zs, h1, h2, h3⟩ := tame_l0 l hl hs (min 12 l.length) (3 * min 12 l.length + 3) 0 [] (by omega) rfl (by simp) (by omega)
  refine (PB.rosettelaw23_tame.calls (3 * min 12 l.length + 3) A c l ((trm zs).map sv) w r hc ?_).mono fun e w' ⟨v, he, hS, hB⟩ => ?_
  · exact h1
  · exact ⟨trm zs, v, he, tight_trm _, Nat.le_trans (trm_len zs) h2, lim_trm h3, ⟨hS⟩, ⟨hB⟩⟩
/-- What comes of number. -/
def OutNumber (w : World) (e : Ending) (w' : World) : Prop := ∃ z, lim 4 z ∧ OutI w z e w'
theorem number_z (s : Bool) (A : Option Addr) (c : Nat) (l : List Int) (hc : l.length ≤ c) (ho : okL l) (hm : l.length < 17592186044416) (w : World) (r : u64.C w A l.length l) :
    Calls Try.prog 34 #[.agg #[.bool s, .slice A l.length c]] w (OutNumber w) := by
  have main : ∃ z, lim 4 z ∧ PB.rosettelaw23_number.f 1 s l = some (sg z, lm z) := by
    unfold PB.rosettelaw23_number.f
    rw [right_f2 s l hm, Option.bind_some]
    have h3 : PB.rosettelaw23_number.j0 1 true s l = some (sg (-3), lm (-3)) := by
      rw [PB.rosettelaw23_number.j0, if_pos rfl, of_f (-3) (by decide), Option.bind_some]
    by_cases hr : rightB s l = true
    · rw [if_pos hr]
      by_cases h4 : l.length ≤ 4
      · obtain ⟨z, hz1, hz2, _⟩ := one_of ⟨s, l⟩ ⟨ho, hm⟩ 4 (by omega)
        have hcz := hz2 hr h4
        simp only [sv, PB.S25.mk.injEq] at hcz
        refine ⟨z, hz1, ?_⟩
        rw [decide_eq_false (by omega), PB.rosettelaw23_number.j0, if_neg (by simp), copy_f hm, Option.bind_some, hcz.1, hcz.2]
      · rw [decide_eq_true (by omega)]
        exact ⟨-3, lim_le (lim_small (by decide)) (by omega), h3⟩
    · rw [if_neg hr]
      exact ⟨-3, lim_le (lim_small (by decide)) (by omega), h3⟩
  obtain ⟨z, hz, hf⟩ := main
  refine (PB.rosettelaw23_number.calls 1 s A c l (sg z) (lm z) w r hc hf).mono fun e w' ⟨v, he, hR, hB⟩ => ?_
  obtain ⟨A', c', rfl⟩ := Kd.R_slice hR
  have h2 := Kd.R_reads' hR
  exact ⟨z, hz, A', c', he, ⟨⟨h2.2.1, h2.2.2⟩⟩, ⟨hB⟩⟩
end Go.Proofs.Ytplignahjhenjaa.Lb
