/- limb: shifts of whole numbers, in numbers. -/
import Derived.Test.YtlcjnahfahobjaaLbRg
namespace Go.Proofs.Ytlcjnahfahobjaa.Lb
open Go.RowKit Go.Proofs.YtlcjnahfahobjaaW.PrintWords Go.Proofs.YtlcjnahfahobjaaW.PrintLast Go.Proofs.YtlcjnahfahobjaaW.PrintMore
set_option linter.unusedVariables false
set_option linter.unusedSimpArgs false

theorem shZ_up (x : Int) (M : Nat) : shZ x (M : Int) = x * 2 ^ M := by unfold shZ; rw [if_pos (by omega), Int.toNat_natCast]
theorem shZ_down (x : Int) (M : Nat) : shZ x (-(M : Int)) = x / 2 ^ M := by
  unfold shZ
  by_cases h : M = 0
  · subst h; simp
  · rw [if_neg (by omega)]
    congr 2
    omega
theorem two_pow_pos (M : Nat) : (0 : Int) < 2 ^ M := by exact_mod_cast Nat.two_pow_pos M
theorem shZ_back (x : Int) (M : Nat) : shZ (shZ x M) (-(M : Int)) = x := by
  rw [shZ_up, shZ_down, Int.mul_ediv_cancel _ (by have := two_pow_pos M; omega)]
theorem shZ_twice (x : Int) (M N : Nat) : shZ (shZ x M) N = shZ x ((M : Int) + N) := by
  rw [show (M : Int) + N = ((M + N : Nat) : Int) by omega, shZ_up, shZ_up, shZ_up, Int.pow_add, Int.mul_assoc]
theorem shZ_low (x : Int) (M : Nat) : shZ (shZ x (-(M : Int))) M ≤ x := by
  rw [shZ_up, shZ_down]
  exact Int.ediv_mul_le _ (by have := two_pow_pos M; omega)
theorem shZ_high (x : Int) (M : Nat) : x < shZ (shZ x (-(M : Int)) + 1) M := by
  rw [shZ_up, shZ_down]
  exact Int.lt_ediv_add_one_mul_self _ (two_pow_pos M)
theorem pow_le_B {M j : Nat} (h : M ≤ 64 * j) : 2 ^ M ≤ B64 ^ j := by
  rw [B64_pow2]
  exact Nat.pow_le_pow_right (by decide) h
theorem lim_up {k j : Nat} {x : Int} (M : Nat) (h : lim k x) (hM : M ≤ 64 * j) : lim (k + j) (shZ x M) := by
  rw [shZ_up]
  unfold lim at *
  rw [Int.natAbs_mul, Int.natAbs_pow, Nat.pow_add]
  have h1 := pow_le_B hM
  have h2 : (2 : Int).natAbs = 2 := rfl
  rw [h2]
  exact Nat.lt_of_lt_of_le (Nat.mul_lt_mul_of_pos_right h (Nat.two_pow_pos M)) (Nat.mul_le_mul_left _ h1)
theorem natAbs_ediv_le (x : Int) (d : Int) (hd : 0 < d) : (x / d).natAbs ≤ x.natAbs := by
  by_cases h : 0 ≤ x
  · have h1 := Int.ediv_nonneg h (by omega : 0 ≤ d)
    have h2 := Int.ediv_le_self d h
    omega
  · have h1 : x / d < 0 := Int.ediv_neg_of_neg_of_pos (by omega) hd
    have h2 : x ≤ x / d := by
      rw [Int.le_ediv_iff_mul_le hd]
      have : x * d ≤ x * 1 := Int.mul_le_mul_of_nonpos_left (by omega) (by omega)
      omega
    omega
theorem lim_down {k : Nat} {x : Int} (M : Nat) (h : lim k x) : lim k (shZ x (-(M : Int))) := by
  rw [shZ_down]
  unfold lim at *
  exact Nat.lt_of_le_of_lt (natAbs_ediv_le x _ (two_pow_pos M)) h
theorem bitN_lim {k : Nat} {x : Int} (h : lim k x) : bitN x.natAbs ≤ 64 * k := by
  rw [bitN_le, ← B64_pow2]
  exact h
theorem may_up {k : Nat} {x : Int} (b : Int) (h : lim k x) (hk : k ≤ 1000) (hb : b ≤ 100000) : x = 0 ∨ ¬ 262144 - (bitN x.natAbs : Int) < b := by
  have := bitN_lim h
  exact .inr (by omega)
theorem bitN_mul {n : Nat} (h : n ≠ 0) (M : Nat) : bitN (n * 2 ^ M) = bitN n + M := by
  obtain ⟨k, hk, hk2⟩ := bitN_pos h
  have h3 := (bitN_le (n := n) (k := k + 1)).1 (by omega)
  rw [hk, show k + 1 + M = (k + M) + 1 by omega]
  refine bitN_of ?_ ?_
  · rw [show k + M + 1 = (k + 1) + M by omega, Nat.pow_add]
    exact Nat.mul_lt_mul_of_pos_right h3 (Nat.two_pow_pos M)
  · rw [Nat.pow_add]
    exact Nat.mul_le_mul_right _ hk2
theorem bits_up (x : Int) (M : Nat) : bitN (shZ x M).natAbs = if x = 0 then 0 else bitN x.natAbs + M := by
  rw [shZ_up, Int.natAbs_mul, Int.natAbs_pow]
  have h2 : (2 : Int).natAbs = 2 := rfl
  rw [h2]
  by_cases h : x = 0
  · subst h; simp [bitN_zero]
  · rw [if_neg h, bitN_mul (by omega)]
theorem bits_zero (x : Int) : bitN x.natAbs = 0 ↔ x = 0 := by
  constructor
  · intro h
    by_cases hx : x = 0
    · exact hx
    · obtain ⟨k, hk, _⟩ := bitN_pos (n := x.natAbs) (by omega)
      omega
  · rintro rfl; rfl
theorem size_top (x : Int) : ((x.natAbs : Nat) : Int) < shZ 1 (bitN x.natAbs : Nat) := by
  rw [shZ_up, Int.one_mul]
  have := (bitN_le (n := x.natAbs) (k := bitN x.natAbs)).1 (Nat.le_refl _)
  exact_mod_cast this
theorem half_size (x : Int) (h : x ≠ 0) : shZ 1 ((bitN x.natAbs - 1 : Nat) : Int) ≤ ((x.natAbs : Nat) : Int) := by
  rw [shZ_up, Int.one_mul]
  obtain ⟨k, hk, hk2⟩ := bitN_pos (n := x.natAbs) (by omega)
  rw [hk, Nat.add_sub_cancel]
  exact_mod_cast hk2
theorem lm_abs (x : Int) : lm ((x.natAbs : Nat) : Int) = lm x := by unfold lm; rw [Int.natAbs_natCast]
theorem sg_abs (x : Int) : sg ((x.natAbs : Nat) : Int) = false := by unfold sg; simp
theorem lim_abs {k : Nat} {x : Int} (h : lim k x) : lim k ((x.natAbs : Nat) : Int) := by unfold lim at *; rwa [Int.natAbs_natCast]
theorem lim_one (k : Nat) (h : 1 ≤ k) : lim k 1 := by unfold lim; exact one_lt_k k h
theorem len_zero (x : Int) : (lm x).length = 0 ↔ x = 0 := by
  rw [List.length_eq_zero_iff]
  unfold lm
  rw [toL_eq_nil]
  omega
theorem pick_zv (a n v : Int) (hv : Aside0 (a % n = v)) (h : 0 < n) (hn : n ≤ 4611686018427387904) (w : World) : Calls Try.prog 24 #[.int .i64 a, .int .i64 n] w (OutP w (.int .i64 v)) := by
  obtain ⟨rfl⟩ := hv
  exact pick_z a n h hn w
theorem bits_zv (a v : Int) (hv : Aside0 (((bitN a.natAbs : Nat) : Int) = v)) (ha : lim 4096 a) (A1 : Option Addr) (c1 : Nat) (w : World) (r1 : RV w A1 c1 a) :
    Calls Try.prog 27 #[.agg #[.bool (sg a), .slice A1 (lm a).length c1]] w (OutP w (.tuple #[.int .i64 v, .int .i64 0])) := by
  obtain ⟨rfl⟩ := hv
  exact bits_z a ha A1 c1 w r1
/-- A number's size in a variable: the same limbs. -/
structure SV (w : World) (g : Nat) (A : Option Addr) (c : Nat) (a : Int) : Prop where
  blk : w.heap[g]? = some (.cells #[.bool false, .slice A (lm a).length c] 24 (0, 0))
  rv : RV w A c a
theorem SV.below {w w' : World} {g : Nat} {A : Option Addr} {c : Nat} {z : Int} (h : SV w g A c z) (hb : Below w.heap.size w w') : SV w' g A c z :=
  ⟨(hb.block g (Array.getElem?_eq_some_iff.1 h.blk).1).trans h.blk, h.rv.below hb⟩
theorem SV.alloc {w : World} {g : Nat} {A : Option Addr} {c : Nat} {z : Int} (h : SV w g A c z) (o : Obj) : SV (w.alloc o) g A c z := h.below ((Below.refl _ _).alloc (Nat.le_refl _) o)
theorem SV.new {w : World} {A : Option Addr} {c : Nat} {z : Int} (h : RV w A c z) : SV (w.alloc (.cells #[.bool false, .slice A (lm z).length c] 24)) w.heap.size A c z :=
  ⟨heap_alloc_new w _, h.alloc _⟩
theorem SV.cells {w : World} {g : Nat} {A : Option Addr} {c : Nat} {z : Int} (h : SV w g A c z) : w.cell? ⟨g, 0, none⟩ = some (.bool false) ∧ w.cell? ⟨g, 1, none⟩ = some (.slice A (lm z).length c) ∧ g < w.heap.size := by
  obtain ⟨c0, c1, _, _, c2⟩ := two_cells (Below.refl w.heap.size w) h.blk
  exact ⟨c0, c1, c2⟩
theorem RV.abs {w : World} {A : Option Addr} {c : Nat} {z : Int} (h : RV w A c z) : RV w A c ((z.natAbs : Nat) : Int) := ⟨by rw [lm_abs]; exact h.cap, by rw [lm_abs]; exact h.reads⟩
theorem cmp_abs1 (a b : Int) (ha : lim 4096 a) (hb : lim 4096 b) (A1 A2 : Option Addr) (c1 c2 : Nat) (w : World) (r1 : RV w A1 c1 a) (r2 : RV w A2 c2 b) (v : Int) (hv : cmpZ ((a.natAbs : Nat) : Int) b = v) :
    Calls Try.prog 11 #[.agg #[.bool false, .slice A1 (lm a).length c1], .agg #[.bool (sg b), .slice A2 (lm b).length c2]] w (OutP w (.tuple #[.int .i64 v, .int .i64 0])) := by
  have h := cmp_zv ((a.natAbs : Nat) : Int) b (lim_abs ha) hb A1 A2 c1 c2 w r1.abs r2 v hv
  rwa [sg_abs, lm_abs] at h
theorem cmp_abs2 (b a : Int) (hb : lim 4096 b) (ha : lim 4096 a) (A2 A1 : Option Addr) (c2 c1 : Nat) (w : World) (r2 : RV w A2 c2 b) (r1 : RV w A1 c1 a) (v : Int) (hv : cmpZ b ((a.natAbs : Nat) : Int) = v) :
    Calls Try.prog 11 #[.agg #[.bool (sg b), .slice A2 (lm b).length c2], .agg #[.bool false, .slice A1 (lm a).length c1]] w (OutP w (.tuple #[.int .i64 v, .int .i64 0])) := by
  have h := cmp_zv b ((a.natAbs : Nat) : Int) hb (lim_abs ha) A2 A1 c2 c1 w r2 r1.abs v hv
  rwa [sg_abs, lm_abs] at h
theorem rvV {w : World} {b : Nat} {ok : Nat → Prop} {A : Option Addr} {c : Nat} {z : Int} (h : Kd.V u64 50 w b ok (.slice A (lm z).length c) (lm z)) : RV w A c z := ⟨(Kd.V_reads' h).2.1, (Kd.V_reads' h).2.2⟩
theorem bthen {U w w' : World} (h : Below U.heap.size U w) (k : Below w.heap.size w w') : Below U.heap.size U w' := below_then h h.size k
theorem kbl {w w' : World} (hb : Below w.heap.size w w') : ∀ (g : Nat) (o : Obj), w.heap[g]? = some o → w'.heap[g]? = some o := fun g o h => (hb.block g (Array.getElem?_eq_some_iff.1 h).1).trans h
theorem balloc {U w : World} (h : Below U.heap.size U w) (o : Obj) : Below U.heap.size U (w.alloc o) := h.alloc h.size o
/-- `x, e := Add(a, Of(n))`: a variable made while the calls go. -/
def Cut1 (U : World) (z : Int) (y1 y2 : Value) (wx : World) : Prop := ∃ g A c, y1 = .pointer (some ⟨g, 0, none⟩) ∧ y2 = .int .i64 0 ∧ Aside0 (BV wx g A c z) ∧ Aside0 (Below U.heap.size U wx)
theorem cut1a {U w : World} {A : Option Addr} {c : Nat} {z : Int} (r : RV w A c z) (hb : Below U.heap.size U w) : Cut1 U z (.pointer (some ⟨w.heap.size, 0, none⟩)) (.int .i64 0) (w.alloc (.cells #[.bool (sg z), .slice A (lm z).length c] 24)) :=
  ⟨_, A, c, rfl, rfl, ⟨BV.new r⟩, ⟨hb.alloc hb.size _⟩⟩
theorem cut1b {U w w' : World} {A : Option Addr} {c g b : Nat} {z : Int} (hV : Kd.V u64 50 w' b (fun k => w.heap.size ≤ k) (.slice A (lm z).length c) (lm z)) (hg : w'.heap[g]? = some (.cells #[.bool false, .slice none 0 0] 24 (0, 0))) (hlt : g < w.heap.size) (hU : U.heap.size ≤ g) (hb : Below U.heap.size U w') :
    Cut1 U z (.pointer (some ⟨g, 0, none⟩)) (.int .i64 0) ((w'.setCell ⟨g, 0, none⟩ (.bool (sg z))).setCell ⟨g, 1, none⟩ (.slice A (lm z).length c)) := by
  have hR : Rd w' z A c [g] := Rd.new hV (fun k hk => by simp at hk; omega)
  refine ⟨g, A, c, rfl, rfl, ⟨⟨?_, ((hR.set (by simp) _ _).set (by simp) _ _).rv⟩⟩, ⟨(hb.setCell hU _).setCell hU _⟩⟩
  exact blk_set (blk_set hg 0 (.bool (sg z))) 1 (.slice A (lm z).length c)
def OutZN (w : World) (z : Int) (e : Ending) (w' : World) : Prop := ∃ A c, e = .returned (.tuple #[.agg #[.bool (sg z), .slice A (lm z).length c], .int .i64 0]) ∧ Kd.V u64 50 w' w.heap.size (fun k => w.heap.size ≤ k) (.slice A (lm z).length c) (lm z) ∧ Below w.heap.size w w'
theorem add_n (a b z : Int) (hz : Aside0 (a + b = z)) (ha : lim 4096 a) (hb : lim 4096 b) (hab : lim 4096 z) (A1 A2 : Option Addr) (c1 c2 : Nat) (w : World) (r1 : RV w A1 c1 a) (r2 : RV w A2 c2 b) :
    Calls Try.prog 13 #[.agg #[.bool (sg a), .slice A1 (lm a).length c1], .agg #[.bool (sg b), .slice A2 (lm b).length c2]] w (OutZN w z) := by
  obtain ⟨rfl⟩ := hz
  refine (add_c _ _ A1 A2 c1 c2 _ _ r1.cap r2.cap (lm_ok _) (lm_ok _) (by have := lm_len ha; omega) (by have := lm_len hb; omega) w r1.reads r2.reads).mono fun e w' h => ?_
  obtain ⟨v, rfl, hV, hb⟩ := h
  have e1 : addS (sg a) (lm a) (sg b) (lm b) = (sg (a + b), lm (a + b), 0) := by
    unfold addS
    rw [right_mk ha, right_mk ‹lim 4096 b›, iv_mk, iv_mk, mkS_lim hab]; rfl
  rw [e1] at hV ⊢
  obtain ⟨A, c, rfl⟩ := Kd.V_slice hV
  exact ⟨A, c, rfl, hV, hb⟩
end Go.Proofs.Ytlcjnahfahobjaa.Lb
