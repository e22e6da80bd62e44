/- limb: Add. -/
import Derived.Test.YtplignahjhenjaaLbE
namespace Go.Proofs.Ytplignahjhenjaa.Lb
open Go.RowKit Go.Proofs.YtplignahjhenjaaW.PrintWords Go.Proofs.YtplignahjhenjaaW.PrintLast Go.Proofs.YtplignahjhenjaaW.PrintMore
set_option linter.unusedVariables false
set_option linter.unusedSimpArgs false

theorem sizes_c (A1 A2 : Option Addr) (c1 c2 : Nat) (l m : List Int) (h1 : l.length ≤ c1) (h2 : m.length ≤ c2) (hl : okL l) (hm : okL m) (cl : canon l) (cm : canon m) (bl : l.length ≤ 4096) (bm : m.length ≤ 4096) (w : World)
    (r1 : u64.C w A1 l.length l) (r2 : u64.C w A2 m.length m) : ∃ r : Int, ((r < 0 ↔ nv l < nv m) ∧ (r = 0 ↔ nv l = nv m)) ∧
    Calls Try.prog 63 #[.slice A1 l.length c1, .slice A2 m.length c2] w fun e w' => e = .returned (.int .i64 r) ∧ Below w.heap.size w w' := by
  obtain ⟨k, r, hf, hr⟩ := sizes_f hl hm cl cm bl bm
  exact ⟨r, hr, (PA.limb_sizes.calls k A1 c1 l A2 c2 m r w r1 h1 r2 h2 hf).mono fun e w' ⟨he, hd⟩ => ⟨he, hd.below⟩⟩
/-- What a whole number is worth. -/
def iv (s : Bool) (l : List Int) : Int := if s then -(nv l : Int) else nv l
/-- A whole number as sign, limbs, error. -/
def mkS (z : Int) : Bool × List Int × Int := toldS (decide (z < 0)) z.natAbs
/-- `Add`'s answer. -/
def addS (s : Bool) (l : List Int) (t : Bool) (m : List Int) : Bool × List Int × Int := if rightB s l && rightB t m then mkS (iv s l + iv t m) else (false, [], 2)
theorem addS_comm (s : Bool) (l : List Int) (t : Bool) (m : List Int) : addS s l t m = addS t m s l := by
  unfold addS
  rw [Int.add_comm, Bool.and_comm]
/-- A sum where the first is not the less. -/
def addT (s : Bool) (a : Nat) (t : Bool) (m : List Int) : Bool × List Int × Int := toldS s (if s = t ∨ m.length = 0 then a + nv m else a - nv m)
theorem toldS_zero (s : Bool) : toldS s 0 = (false, [], 0) := by simp [toldS, toL_zero]
theorem toldS_eq (s t : Bool) (n : Nat) (h : n ≠ 0 → s = t) : toldS s n = toldS t n := by
  by_cases h0 : n = 0
  · rw [h0, toldS_zero, toldS_zero]
  · rw [h h0]
theorem addS_ge {s t : Bool} {l m : List Int} (h1 : rightB s l = true) (h2 : rightB t m = true) (hle : nv m ≤ nv l) : addS s l t m = addT s (nv l) t m := by
  unfold addS addT mkS iv
  rw [h1, h2]
  simp only [Bool.and_self, if_true]
  have hz : m.length = 0 → nv m = 0 := fun h => by rw [List.eq_nil_of_length_eq_zero h]; rfl
  cases s <;> cases t <;> simp only [if_true, if_false, Bool.false_eq_true, reduceCtorEq, true_or, false_or]
  · rw [show ((nv l : Int) + nv m).natAbs = nv l + nv m by omega]
    exact toldS_eq _ _ _ (fun _ => by simp; omega)
  · have e : ((nv l : Int) + -(nv m : Int)).natAbs = (if m.length = 0 then nv l + nv m else nv l - nv m) := by
      split
      · have := hz ‹_›; omega
      · omega
    rw [e]
    exact toldS_eq _ _ _ (fun _ => by simp; omega)
  · have e : (-(nv l : Int) + (nv m : Int)).natAbs = (if m.length = 0 then nv l + nv m else nv l - nv m) := by
      split
      · have := hz ‹_›; omega
      · omega
    rw [e]
    refine toldS_eq _ _ _ (fun h => ?_)
    rw [← e] at h
    simp; omega
  · rw [show (-(nv l : Int) + -(nv m : Int)).natAbs = nv l + nv m by omega]
    exact toldS_eq _ _ _ (fun h => by simp; omega)
theorem len_le {l m : List Int} (hl : okL l) (hm : okL m) (cm : canon m) (hle : nv m ≤ nv l) : m.length ≤ l.length := by
  rcases Nat.lt_or_ge l.length m.length with h | h
  · have := nv_lt_of_len hl hm cm h; omega
  · exact h
/-- A round's invariant, either way. -/
def RoundI (same : Bool) (la lb o : List Int) (j : Nat) (c : Int) : Prop := if same then AddI la lb o j c else SubI la lb o j c
end Go.Proofs.Ytplignahjhenjaa.Lb
