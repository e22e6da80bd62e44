/- limb: Add. -/
import Derived.Test.YtlcjnahfahobjaaLbP
import Derived.Laws.Externs
/- limb: behind, the sums' machine words. -/
namespace Go.Proofs.Ytlcjnahfahobjaa.Lb
open Go.RowKit Go.Proofs.YtlcjnahfahobjaaW.PrintWords Go.Proofs.YtlcjnahfahobjaaW.PrintLast Go.Proofs.YtlcjnahfahobjaaW.PrintMore
set_option linter.unusedVariables false
set_option linter.unusedSimpArgs false

theorem xAdd (x y c : Int) (hx : 0 ≤ x) (hy : 0 ≤ y) (hc0 : 0 ≤ c) (hc : c ≤ 1) (w : World) : (callFunc 45 #[.int .u64 x, .int .u64 y, .int .u64 c]).run Try.prog w =
    .ok (.value (.tuple #[.int .u64 ((x + y + c) % 18446744073709551616), .int .u64 ((x + y + c) / 18446744073709551616)])) w := by
  rw [run_callFunc_extern Try.func45 (by kernel_rfl) (by kernel_rfl) (by kernel_rfl) (show Extern.find Try.f45 = some add64Entry by kernel_rfl), run_add64 x y c hx hy hc0 hc w]
  rfl
def sub64Entry : Array Value → Sem Value := fun args => do
  let (x, y, b) ← Extern.MathBitsCarry.three "Sub64" args
  pure (Extern.MathBitsCarry.pair ((x + Extern.MathBitsCarry.m64 - y - b) % Extern.MathBitsCarry.m64) (if x < y + b then 1 else 0))
theorem run_sub64 {P : Program} (x y c : Int) (hx : 0 ≤ x) (hy : 0 ≤ y) (hy1 : y < 18446744073709551616) (hc0 : 0 ≤ c) (hc : c ≤ 1) (w : World) :
    (sub64Entry #[.int .u64 x, .int .u64 y, .int .u64 c]).run P w =
      .ok (.tuple #[.int .u64 ((x - y - c) % 18446744073709551616), .int .u64 (if x < y + c then 1 else 0)]) w := by
  have key : ∀ k : Nat, k ≤ 1 → (sub64Entry #[.int .u64 x, .int .u64 y, .int .u64 (k : Int)]).run P w =
      .ok (Extern.MathBitsCarry.pair ((x.toNat + Extern.MathBitsCarry.m64 - y.toNat - k) % Extern.MathBitsCarry.m64) (if x.toNat < y.toNat + k then 1 else 0)) w := by
    intro k hk
    have : k = 0 ∨ k = 1 := by omega
    rcases this with rfl | rfl <;> rfl
  obtain ⟨k, rfl⟩ := Int.eq_ofNat_of_zero_le hc0
  rw [key k (by omega)]
  obtain ⟨X, rfl⟩ := Int.eq_ofNat_of_zero_le hx
  obtain ⟨Y, rfl⟩ := Int.eq_ofNat_of_zero_le hy
  have e1 : Int.ofNat ((X + 2 ^ 64 - Y - k) % 2 ^ 64) = ((X : Int) - (Y : Int) - (k : Int)) % 18446744073709551616 := by
    show (((X + 2 ^ 64 - Y - k) % 2 ^ 64 : Nat) : Int) = _
    omega
  have e2 : Int.ofNat (if X < Y + k then 1 else 0) = if (X : Int) < (Y : Int) + (k : Int) then 1 else 0 := by
    show (((if X < Y + k then 1 else 0 : Nat)) : Int) = _
    by_cases h : X < Y + k
    · rw [if_pos h, if_pos (by omega)]; rfl
    · rw [if_neg h, if_neg (by omega)]; rfl
  simp only [Extern.MathBitsCarry.pair, Extern.MathBitsCarry.m64, Int.toNat_natCast]
  rw [e1, e2]
theorem xSub (x y c : Int) (hx : 0 ≤ x) (hy : 0 ≤ y) (hy1 : y < 18446744073709551616) (hc0 : 0 ≤ c) (hc : c ≤ 1) (w : World) : (callFunc 46 #[.int .u64 x, .int .u64 y, .int .u64 c]).run Try.prog w =
    .ok (.value (.tuple #[.int .u64 ((x - y - c) % 18446744073709551616), .int .u64 (if x < y + c then 1 else 0)])) w := by
  rw [run_callFunc_extern Try.func46 (by kernel_rfl) (by kernel_rfl) (by kernel_rfl) (show Extern.find Try.f46 = some sub64Entry by kernel_rfl), run_sub64 x y c hx hy hy1 hc0 hc w]
  rfl
set_option maxHeartbeats 400000 in
theorem behind_c (A : Option Addr) (n c : Nat) (w : World) :
    Calls Try.prog 44 #[.slice A n c] w fun e w' => e = .returned (.func (.func 70) #[] #[.pointer (some ⟨w.heap.size, 0, none⟩)]) ∧ w' = w.alloc (.cells #[.slice A n c] 22) := by
  have hmf : ∀ (fn : Fn) (first cap : Array Value) (w : World), (Instr.makeFunc fn first cap).run Try.prog w = .ok (.func fn first cap) w := fun _ _ _ _ => rfl
  go_enter Try.func44, Try.ntmps44
  go_wp2
  go_ret
  exact ⟨rfl, rfl⟩
set_option maxHeartbeats 1000000 in
theorem behind1_c (g : Nat) (i : Nat) (A : Option Addr) (c : Nat) (l : List Int) (hm : l.length ≤ 4096) (hi : i ≤ 4096) (w : World) (hg : w.cell? ⟨g, 0, none⟩ = some (.slice A l.length c)) (hr : u64.C w A l.length l) :
    Calls Try.prog 70 #[.int .i64 i, .pointer (some ⟨g, 0, none⟩)] w fun e w' => e = .returned (.int .u64 (l.getD i 0)) ∧ w = w' := by
  by_cases hlt : i < l.length
  · obtain ⟨ad, hA, hcell⟩ := read_at hr i hlt
    subst hA
    generalize l.getD i 0 = x at *
    clear hr
    go_enter Try.func70, Try.ntmps70
    go_wp2
    go_ret
    exact ⟨rfl, rfl⟩
  · have hz : l.getD i 0 = 0 := getD_ge (by omega)
    rw [hz]
    clear hz hr
    go_enter Try.func70, Try.ntmps70
    go_wp2
    go_ret
    exact ⟨rfl, rfl⟩
end Go.Proofs.Ytlcjnahfahobjaa.Lb
namespace Go.Proofs.Ytlcjnahfahobjaa.Lb
open Go.RowKit Go.Proofs.YtlcjnahfahobjaaW.PrintWords Go.Proofs.YtlcjnahfahobjaaW.PrintLast Go.Proofs.YtlcjnahfahobjaaW.PrintMore
set_option linter.unusedVariables false
set_option linter.unusedSimpArgs false

theorem sizes_c (A1 A2 : Option Addr) (c1 c2 : Nat) (l m : List Int) (h1 : l.length ≤ c1) (h2 : m.length ≤ c2) (hl : okL l) (hm : okL m) (cl : canon l) (cm : canon m) (bl : l.length ≤ 4096) (bm : m.length ≤ 4096) (w : World)
    (r1 : u64.C w A1 l.length l) (r2 : u64.C w A2 m.length m) : ∃ r : Int, ((r < 0 ↔ nv l < nv m) ∧ (r = 0 ↔ nv l = nv m)) ∧
    Calls Try.prog 40 #[.slice A1 l.length c1, .slice A2 m.length c2] w fun e w' => e = .returned (.int .i64 r) ∧ Below w.heap.size w w' := by
  obtain ⟨k, r, hf, hr⟩ := sizes_f hl hm cl cm bl bm
  exact ⟨r, hr, (PA.limb_sizes.calls k A1 c1 l A2 c2 m r w r1 h1 r2 h2 hf).mono fun e w' ⟨he, hd⟩ => ⟨he, hd.below⟩⟩
/-- What a whole number is worth. -/
def iv (s : Bool) (l : List Int) : Int := if s then -(nv l : Int) else nv l
/-- A whole number as sign, limbs, error. -/
def mkS (z : Int) : Bool × List Int × Int := toldS (decide (z < 0)) z.natAbs
/-- `Add`'s answer. -/
def addS (s : Bool) (l : List Int) (t : Bool) (m : List Int) : Bool × List Int × Int := if rightB s l && rightB t m then mkS (iv s l + iv t m) else (false, [], 2)
theorem addS_comm (s : Bool) (l : List Int) (t : Bool) (m : List Int) : addS s l t m = addS t m s l := by
  unfold addS
  rw [Int.add_comm, Bool.and_comm]
/-- A sum where the first is not the less. -/
def addT (s : Bool) (a : Nat) (t : Bool) (m : List Int) : Bool × List Int × Int := toldS s (if s = t ∨ m.length = 0 then a + nv m else a - nv m)
theorem toldS_zero (s : Bool) : toldS s 0 = (false, [], 0) := by simp [toldS, toL_zero]
theorem toldS_eq (s t : Bool) (n : Nat) (h : n ≠ 0 → s = t) : toldS s n = toldS t n := by
  by_cases h0 : n = 0
  · rw [h0, toldS_zero, toldS_zero]
  · rw [h h0]
theorem addS_ge {s t : Bool} {l m : List Int} (h1 : rightB s l = true) (h2 : rightB t m = true) (hle : nv m ≤ nv l) : addS s l t m = addT s (nv l) t m := by
  unfold addS addT mkS iv
  rw [h1, h2]
  simp only [Bool.and_self, if_true]
  have hz : m.length = 0 → nv m = 0 := fun h => by rw [List.eq_nil_of_length_eq_zero h]; rfl
  cases s <;> cases t <;> simp only [if_true, if_false, Bool.false_eq_true, reduceCtorEq, true_or, false_or]
  · rw [show ((nv l : Int) + nv m).natAbs = nv l + nv m by omega]
    exact toldS_eq _ _ _ (fun _ => by simp; omega)
  · have e : ((nv l : Int) + -(nv m : Int)).natAbs = (if m.length = 0 then nv l + nv m else nv l - nv m) := by
      split
      · have := hz ‹_›; omega
      · omega
    rw [e]
    exact toldS_eq _ _ _ (fun _ => by simp; omega)
  · have e : (-(nv l : Int) + (nv m : Int)).natAbs = (if m.length = 0 then nv l + nv m else nv l - nv m) := by
      split
      · have := hz ‹_›; omega
      · omega
    rw [e]
    refine toldS_eq _ _ _ (fun h => ?_)
    rw [← e] at h
    simp; omega
  · rw [show (-(nv l : Int) + -(nv m : Int)).natAbs = nv l + nv m by omega]
    exact toldS_eq _ _ _ (fun h => by simp; omega)
theorem len_le {l m : List Int} (hl : okL l) (hm : okL m) (cm : canon m) (hle : nv m ≤ nv l) : m.length ≤ l.length := by
  rcases Nat.lt_or_ge l.length m.length with h | h
  · have := nv_lt_of_len hl hm cm h; omega
  · exact h
/-- A round's invariant, either way. -/
def RoundI (same : Bool) (la lb o : List Int) (j : Nat) (c : Int) : Prop := if same then AddI la lb o j c else SubI la lb o j c
end Go.Proofs.Ytlcjnahfahobjaa.Lb
