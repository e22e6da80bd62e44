/- limb: a region of three calls and three variables, in whatever order. -/
import Derived.Test.YtlcjnahfahobjaaLbRg
namespace Go.Proofs.Ytlcjnahfahobjaa.Lb
open Go.RowKit Go.Proofs.YtlcjnahfahobjaaW.PrintWords Go.Proofs.YtlcjnahfahobjaaW.PrintLast Go.Proofs.YtlcjnahfahobjaaW.PrintMore
set_option linter.unusedVariables false
set_option linter.unusedSimpArgs false

def l12 (b1 b2 b3 b4 b5 b6 : Bool) : Array Bool := #[true, b1, true, b2, true, b3, b4, b5, b6, false, false, false]
def rs12 (b1 b2 b3 b4 b5 b6 : Bool) : List Nat := (if b1 then [] else [1]) ++ (if b2 || !b1 then [] else [3]) ++ (if b3 || !b2 then [] else [5]) ++ (if b4 then [] else [6]) ++ (if b5 then [] else [7]) ++ (if b6 then [] else [8]) ++ (if b1 && b2 && b3 && b4 && b5 && b6 then [9] else [])
def cnt (b1 b2 b3 b4 b5 b6 : Bool) : Nat := (if b1 then 0 else 1) + (if b2 then 0 else 1) + (if b3 then 0 else 1) + (if b4 then 0 else 1) + (if b5 then 0 else 1) + (if b6 then 0 else 1)
theorem rs12_ne : ∀ b1 b2 b3 b4 b5 b6, rs12 b1 b2 b3 b4 b5 b6 ≠ [] := by decide
theorem rs12_mem : ∀ b1 b2 b3 b4 b5 b6 i, i ∈ rs12 b1 b2 b3 b4 b5 b6 → (i = 1 ∧ b1 = false) ∨ (i = 3 ∧ b2 = false ∧ b1 = true) ∨ (i = 5 ∧ b3 = false ∧ b2 = true) ∨ (i = 6 ∧ b4 = false) ∨ (i = 7 ∧ b5 = false) ∨ (i = 8 ∧ b6 = false) ∨ (i = 9 ∧ cnt b1 b2 b3 b4 b5 b6 = 0) := by
  intro b1 b2 b3 b4 b5 b6 i h
  cases b1 <;> cases b2 <;> cases b3 <;> cases b4 <;> cases b5 <;> cases b6 <;> simp [rs12, cnt] at h ⊢ <;> omega
theorem cnt_zero : ∀ b1 b2 b3 b4 b5 b6, cnt b1 b2 b3 b4 b5 b6 = 0 → b1 = true ∧ b2 = true ∧ b3 = true ∧ b4 = true ∧ b5 = true ∧ b6 = true := by decide
theorem isSome_false {α : Type} {o : Option α} (h : o.isSome = false) : o = none := by cases o <;> simp_all
theorem isSome_true {α : Type} {o : Option α} (h : o.isSome = true) : ∃ x, o = some x := by cases o <;> simp_all

theorem new_ok {w w' : World} {z : Int} {B B' : Option Addr} {d d' : Nat} {G : List Nat} (e : some (B, d) = some (B', d')) (hV : Kd.V u64 50 w' w.heap.size (fun k => w.heap.size ≤ k) (.slice B (lm z).length d) (lm z)) (hG : ∀ k ∈ G, k < w.heap.size) : Rd w' z B' d' G := by
  simp only [Option.some.injEq, Prod.mk.injEq] at e
  obtain ⟨rfl, rfl⟩ := e
  exact Rd.new hV hG
theorem gl_nodup1 {a2 a3 : Option Nat} {m : Nat} (h : (gl none a2 a3).Nodup) (hl : ∀ k ∈ gl none a2 a3, k < m) : (gl (some m) a2 a3).Nodup := by
  simp only [gl, Option.toList_none, List.nil_append, Option.toList_some, List.cons_append, List.nodup_cons] at h hl ⊢
  exact ⟨fun hm => by have := hl m hm; omega, h⟩
theorem gl_nodup2 {a1 a3 : Option Nat} {m : Nat} (h : (gl a1 none a3).Nodup) (hl : ∀ k ∈ gl a1 none a3, k < m) : (gl a1 (some m) a3).Nodup := by
  cases a1 <;> cases a3 <;> simp [gl] at h hl ⊢ <;> omega
theorem gl_nodup3 {a1 a2 : Option Nat} {m : Nat} (h : (gl a1 a2 none).Nodup) (hl : ∀ k ∈ gl a1 a2 none, k < m) : (gl a1 a2 (some m)).Nodup := by
  cases a1 <;> cases a2 <;> simp [gl] at h hl ⊢ <;> omega

section
variable {P : Program} {ops : Array Oper} {Q : Exit → Act → World → Prop} (H : World → Prop) (hH : ∀ w w' : World, H w → Below w.heap.size w w' → H w') (w0 : World) (z1 z2 z3 : Int) (f : FuncId) (x1 x2 x3 : Array Value)
  (Fr : Value → Value → Value → Value → Value → Value → Act)
  {o1 o2 o3 v1 v2 v3 s1 s2 s3 : Oper}
  (e_o1 : ops[1]? = some o1) (W_o1 : ∀ q1 q2 q3 p1 p2 p3, Region.wanted o1 (yielded ops (Fr q1 q2 q3 p1 p2 p3).tmps) = true)
  (e_o2 : ops[3]? = some o2) (W_o2 : ∀ q1 q2 q3 p1 p2 p3, Region.wanted o2 (yielded ops (Fr q1 q2 q3 p1 p2 p3).tmps) = true)
  (e_o3 : ops[5]? = some o3) (W_o3 : ∀ q1 q2 q3 p1 p2 p3, Region.wanted o3 (yielded ops (Fr q1 q2 q3 p1 p2 p3).tmps) = true)
  (e_v1 : ops[6]? = some v1) (W_v1 : ∀ q1 q2 q3 p1 p2 p3, Region.wanted v1 (yielded ops (Fr q1 q2 q3 p1 p2 p3).tmps) = true)
  (e_v2 : ops[7]? = some v2) (W_v2 : ∀ q1 q2 q3 p1 p2 p3, Region.wanted v2 (yielded ops (Fr q1 q2 q3 p1 p2 p3).tmps) = true)
  (e_v3 : ops[8]? = some v3) (W_v3 : ∀ q1 q2 q3 p1 p2 p3, Region.wanted v3 (yielded ops (Fr q1 q2 q3 p1 p2 p3).tmps) = true)
  (e_s1 : ops[9]? = some s1) (W_s1 : ∀ q1 q2 q3 p1 p2 p3, Region.wanted s1 (yielded ops (Fr q1 q2 q3 p1 p2 p3).tmps) = true)
  (e_s2 : ops[10]? = some s2) (W_s2 : ∀ q1 q2 q3 p1 p2 p3, Region.wanted s2 (yielded ops (Fr q1 q2 q3 p1 p2 p3).tmps) = true)
  (e_s3 : ops[11]? = some s3) (W_s3 : ∀ q1 q2 q3 p1 p2 p3, Region.wanted s3 (yielded ops (Fr q1 q2 q3 p1 p2 p3).tmps) = true)
  (put_o1 : ∀ q1 q2 q3 p1 p2 p3 u, (Fr q1 q2 q3 p1 p2 p3).put o1.dst u = Fr u q2 q3 p1 p2 p3)
  (put_o2 : ∀ q1 q2 q3 p1 p2 p3 u, (Fr q1 q2 q3 p1 p2 p3).put o2.dst u = Fr q1 u q3 p1 p2 p3)
  (put_o3 : ∀ q1 q2 q3 p1 p2 p3 u, (Fr q1 q2 q3 p1 p2 p3).put o3.dst u = Fr q1 q2 u p1 p2 p3)
  (put_v1 : ∀ q1 q2 q3 p1 p2 p3 u, (Fr q1 q2 q3 p1 p2 p3).put v1.dst u = Fr q1 q2 q3 u p2 p3)
  (put_v2 : ∀ q1 q2 q3 p1 p2 p3 u, (Fr q1 q2 q3 p1 p2 p3).put v2.dst u = Fr q1 q2 q3 p1 u p3)
  (put_v3 : ∀ q1 q2 q3 p1 p2 p3 u, (Fr q1 q2 q3 p1 p2 p3).put v3.dst u = Fr q1 q2 q3 p1 p2 u)
  (run_o1 : ∀ q1 q2 q3 p1 p2 p3 w, (execOp (Fr q1 q2 q3 p1 p2 p3).eval o1).run P w = .ok (.enter f x1) w) (hc1 : ∀ w, H w → Calls P f x1 w (OutN w z1))
  (run_o2 : ∀ q1 q2 q3 p1 p2 p3 w, (execOp (Fr q1 q2 q3 p1 p2 p3).eval o2).run P w = .ok (.enter f x2) w) (hc2 : ∀ w, H w → Calls P f x2 w (OutN w z2))
  (run_o3 : ∀ q1 q2 q3 p1 p2 p3 w, (execOp (Fr q1 q2 q3 p1 p2 p3).eval o3).run P w = .ok (.enter f x3) w) (hc3 : ∀ w, H w → Calls P f x3 w (OutN w z3))
  (run_v1 : ∀ q1 q2 q3 p1 p2 p3 w, (execOp (Fr q1 q2 q3 p1 p2 p3).eval v1).run P w = .ok (.value (.pointer (some ⟨w.heap.size, 0, none⟩))) (w.alloc blank))
  (run_v2 : ∀ q1 q2 q3 p1 p2 p3 w, (execOp (Fr q1 q2 q3 p1 p2 p3).eval v2).run P w = .ok (.value (.pointer (some ⟨w.heap.size, 0, none⟩))) (w.alloc blank))
  (run_v3 : ∀ q1 q2 q3 p1 p2 p3 w, (execOp (Fr q1 q2 q3 p1 p2 p3).eval v3).run P w = .ok (.value (.pointer (some ⟨w.heap.size, 0, none⟩))) (w.alloc blank))
  (run_s1 : ∀ B d g q2 q3 p2 p3 w, w.heap[g]? = some (.cells #[.bool false, .slice none 0 0] 24 (0, 0)) → (execOp (Fr (numV z1 B d) q2 q3 (.pointer (some ⟨g, 0, none⟩)) p2 p3).eval s1).run P w = .ok .skip ((w.setCell ⟨g, 0, none⟩ (.bool (sg z1))).setCell ⟨g, 1, none⟩ (.slice B (lm z1).length d))) (d_s1 : s1.dst = none)
  (run_s2 : ∀ B d g q1 q3 p1 p3 w, w.heap[g]? = some (.cells #[.bool false, .slice none 0 0] 24 (0, 0)) → (execOp (Fr q1 (numV z2 B d) q3 p1 (.pointer (some ⟨g, 0, none⟩)) p3).eval s2).run P w = .ok .skip ((w.setCell ⟨g, 0, none⟩ (.bool (sg z2))).setCell ⟨g, 1, none⟩ (.slice B (lm z2).length d))) (d_s2 : s2.dst = none)
  (run_s3 : ∀ B d g q1 q2 p1 p2 w, w.heap[g]? = some (.cells #[.bool false, .slice none 0 0] 24 (0, 0)) → (execOp (Fr q1 q2 (numV z3 B d) p1 p2 (.pointer (some ⟨g, 0, none⟩))).eval s3).run P w = .ok .skip ((w.setCell ⟨g, 0, none⟩ (.bool (sg z3))).setCell ⟨g, 1, none⟩ (.slice B (lm z3).length d))) (d_s3 : s3.dst = none)
  (rdy : ∀ b1 b2 b3 b4 b5 b6, (b3 = true → b2 = true) → (b2 = true → b1 = true) → Region.ready .any ops (l12 b1 b2 b3 b4 b5 b6) = rs12 b1 b2 b3 b4 b5 b6)
  (rdy1 : Region.ready .any ops #[true, true, true, true, true, true, true, true, true, true, false, false] = [10])
  (rdy2 : Region.ready .any ops #[true, true, true, true, true, true, true, true, true, true, true, false] = [11])
  (rdy3 : Region.ready .any ops #[true, true, true, true, true, true, true, true, true, true, true, true] = [])
  (hQ : ∀ B1 d1 B2 d2 B3 d3 g1 g2 g3 w', Cut3 w0 z1 z2 z3 (.pointer (some ⟨g1, 0, none⟩)) (.pointer (some ⟨g2, 0, none⟩)) (.pointer (some ⟨g3, 0, none⟩)) w' → Q .normal (Fr (numV z1 B1 d1) (numV z2 B2 d2) (numV z3 B3 d3) (.pointer (some ⟨g1, 0, none⟩)) (.pointer (some ⟨g2, 0, none⟩)) (.pointer (some ⟨g3, 0, none⟩))) w')
include hH e_o1 e_o2 e_o3 e_v1 e_v2 e_v3 e_s1 e_s2 e_s3 W_o1 W_o2 W_o3 W_v1 W_v2 W_v3 W_s1 W_s2 W_s3 put_o1 put_o2 put_o3 put_v1 put_v2 put_v3 run_o1 run_o2 run_o3 hc1 hc2 hc3 run_v1 run_v2 run_v3 run_s1 run_s2 run_s3 d_s1 d_s2 d_s3 rdy rdy1 rdy2 rdy3 hQ
theorem region3 : ∀ (n : Nat) (c1 c2 c3 : Option (Option Addr × Nat)) (a1 a2 a3 : Option Nat) (w : World), (c3.isSome = true → c2.isSome = true) → (c2.isSome = true → c1.isSome = true) → cnt c1.isSome c2.isSome c3.isSome a1.isSome a2.isSome a3.isSome = n → Fx H w0 z1 z2 z3 c1 c2 c3 a1 a2 a3 w →
    wpAnyLast P .any ops Q H [9, 10, 11] (n + 3) (l12 c1.isSome c2.isSome c3.isSome a1.isSome a2.isSome a3.isSome) (Fr (cV z1 c1) (cV z2 c2) (cV z3 c3) (aV a1) (aV a2) (aV a3)) w := by
  intro n
  induction n with
  | zero =>
    intro c1 c2 c3 a1 a2 a3 w hk3 hk2 hn hF
    obtain ⟨i1, i2, i3, i4, i5, i6⟩ := cnt_zero _ _ _ _ _ _ hn
    obtain ⟨⟨B1, d1⟩, rfl⟩ := isSome_true i1
    obtain ⟨⟨B2, d2⟩, rfl⟩ := isSome_true i2
    obtain ⟨⟨B3, d3⟩, rfl⟩ := isSome_true i3
    obtain ⟨g1, rfl⟩ := isSome_true i4
    obtain ⟨g2, rfl⟩ := isSome_true i5
    obtain ⟨g3, rfl⟩ := isSome_true i6
    have C := hF.cut
    have hn := hF.n
    have n12 : g1 ≠ g2 := fun e => by subst e; simp [gl] at hn
    have n13 : g1 ≠ g3 := fun e => by subst e; simp [gl] at hn
    have n23 : g2 ≠ g3 := fun e => by subst e; simp [gl] at hn
    have k1 := (hF.g g1 (by simp [gl])).1
    have k2 := (hF.g g2 (by simp [gl])).1
    have k3 := (hF.g g3 (by simp [gl])).1
    simp only [cV, aV]
    refine wpAnyLast_all (rdy true true true true true true (fun _ => rfl) (fun _ => rfl)) (by decide) (fun i hi => ?_)
    obtain rfl : i = 9 := by simpa [rs12] using hi
    refine wpOp_step e_s1 (fun K' hK => ?_)
    rw [d_s1]
    refine (skip_ (W_s1 _ _ _ _ _ _) d_s1 (run_s1 B1 d1 g1 _ _ _ _ w k1) (hK _ _ ⟨fun h => absurd (by simp) h, ?_⟩))
    refine wpAnyLast_all rdy1 (by decide) (fun i hi => ?_)
    obtain rfl : i = 10 := by simpa using hi
    refine wpOp_step e_s2 (fun K' hK => ?_)
    rw [d_s2]
    refine (skip_ (W_s2 _ _ _ _ _ _) d_s2 (run_s2 B2 d2 g2 _ _ _ _ _ ?_) (hK _ _ ⟨fun h => absurd (by simp) h, ?_⟩))
    · exact blk_far (blk_far k2 (p := ⟨g1, 0, none⟩) (Ne.symm n12) _) (p := ⟨g1, 1, none⟩) (Ne.symm n12) _
    refine wpAnyLast_all rdy2 (by decide) (fun i hi => ?_)
    obtain rfl : i = 11 := by simpa using hi
    refine wpOp_step e_s3 (fun K' hK => ?_)
    rw [d_s3]
    refine (skip_ (W_s3 _ _ _ _ _ _) d_s3 (run_s3 B3 d3 g3 _ _ _ _ _ ?_) (hK _ _ ⟨fun h => absurd (by simp) h, ?_⟩))
    · exact blk_far (blk_far (blk_far (blk_far k3 (p := ⟨g1, 0, none⟩) (Ne.symm n13) _) (p := ⟨g1, 1, none⟩) (Ne.symm n13) _) (p := ⟨g2, 0, none⟩) (Ne.symm n23) _) (p := ⟨g2, 1, none⟩) (Ne.symm n23) _
    exact wpAnyLast_done rdy3 (hQ _ _ _ _ _ _ _ _ _ _ C) 0
  | succ n ih =>
    intro c1 c2 c3 a1 a2 a3 w hk3 hk2 hn hF
    refine wpAnyLast_all (rdy _ _ _ _ _ _ hk3 hk2) (rs12_ne _ _ _ _ _ _) (fun i hi => ?_)
    rcases rs12_mem _ _ _ _ _ _ i hi with ⟨rfl, hb⟩ | ⟨rfl, hb, hq⟩ | ⟨rfl, hb, hq⟩ | ⟨rfl, hb⟩ | ⟨rfl, hb⟩ | ⟨rfl, hb⟩ | ⟨rfl, hb⟩
    · obtain rfl := isSome_false hb
      refine wpOp_step e_o1 (fun K' hK => call_ f x1 (W_o1 _ _ _ _ _ _) rfl (run_o1 _ _ _ _ _ _ w) ((hc1 w hF.h).mono fun e w' h => ?_))
      obtain ⟨B, d, rfl, hV, hb2⟩ := h
      refine ⟨_, rfl, hK _ _ ⟨fun _ h => hH _ _ h hb2, ?_⟩⟩
      rw [put_o1]
      exact ih (some (B, d)) c2 c3 a1 a2 a3 w' (by simp_all) (by simp_all) (by simp [cnt] at hn ⊢; omega) (hF.step hH hb2 (fun B' d' e => .inr (new_ok e hV hF.lt)) (fun B d e => .inl e) (fun B d e => .inl e))
    · obtain rfl := isSome_false hb
      refine wpOp_step e_o2 (fun K' hK => call_ f x2 (W_o2 _ _ _ _ _ _) rfl (run_o2 _ _ _ _ _ _ w) ((hc2 w hF.h).mono fun e w' h => ?_))
      obtain ⟨B, d, rfl, hV, hb2⟩ := h
      refine ⟨_, rfl, hK _ _ ⟨fun _ h => hH _ _ h hb2, ?_⟩⟩
      rw [put_o2]
      exact ih c1 (some (B, d)) c3 a1 a2 a3 w' (by simp_all) (by simp_all) (by simp [cnt] at hn ⊢; omega) (hF.step hH hb2 (fun B d e => .inl e) (fun B' d' e => .inr (new_ok e hV hF.lt)) (fun B d e => .inl e))
    · obtain rfl := isSome_false hb
      refine wpOp_step e_o3 (fun K' hK => call_ f x3 (W_o3 _ _ _ _ _ _) rfl (run_o3 _ _ _ _ _ _ w) ((hc3 w hF.h).mono fun e w' h => ?_))
      obtain ⟨B, d, rfl, hV, hb2⟩ := h
      refine ⟨_, rfl, hK _ _ ⟨fun _ h => hH _ _ h hb2, ?_⟩⟩
      rw [put_o3]
      exact ih c1 c2 (some (B, d)) a1 a2 a3 w' (by simp_all) (by simp_all) (by simp [cnt] at hn ⊢; omega) (hF.step hH hb2 (fun B d e => .inl e) (fun B d e => .inl e) (fun B' d' e => .inr (new_ok e hV hF.lt)))
    · obtain rfl := isSome_false hb
      refine wpOp_step e_v1 (fun K' hK => value_ (W_v1 _ _ _ _ _ _) rfl (run_v1 _ _ _ _ _ _ w) (hK _ _ ⟨fun _ h => hH _ _ h ((Below.refl _ _).alloc (Nat.le_refl _) _), ?_⟩))
      rw [put_v1]
      refine ih c1 c2 c3 (some w.heap.size) a2 a3 _ hk3 hk2 (by simp [cnt] at hn ⊢; omega) (hF.made hH (fun k hk => ?_) (fun hlt => ?_))
      · simp [gl] at hk ⊢; rcases hk with h | h | h <;> simp [*]
      · exact gl_nodup1 hF.n hlt
    · obtain rfl := isSome_false hb
      refine wpOp_step e_v2 (fun K' hK => value_ (W_v2 _ _ _ _ _ _) rfl (run_v2 _ _ _ _ _ _ w) (hK _ _ ⟨fun _ h => hH _ _ h ((Below.refl _ _).alloc (Nat.le_refl _) _), ?_⟩))
      rw [put_v2]
      refine ih c1 c2 c3 a1 (some w.heap.size) a3 _ hk3 hk2 (by simp [cnt] at hn ⊢; omega) (hF.made hH (fun k hk => ?_) (fun hlt => ?_))
      · simp [gl] at hk ⊢; rcases hk with h | h | h <;> simp [*]
      · exact gl_nodup2 hF.n hlt
    · obtain rfl := isSome_false hb
      refine wpOp_step e_v3 (fun K' hK => value_ (W_v3 _ _ _ _ _ _) rfl (run_v3 _ _ _ _ _ _ w) (hK _ _ ⟨fun _ h => hH _ _ h ((Below.refl _ _).alloc (Nat.le_refl _) _), ?_⟩))
      rw [put_v3]
      refine ih c1 c2 c3 a1 a2 (some w.heap.size) _ hk3 hk2 (by simp [cnt] at hn ⊢; omega) (hF.made hH (fun k hk => ?_) (fun hlt => ?_))
      · simp [gl] at hk ⊢; rcases hk with h | h | h <;> simp [*]
      · exact gl_nodup3 hF.n hlt
    · exact absurd hb (by omega)
end
end Go.Proofs.Ytlcjnahfahobjaa.Lb
