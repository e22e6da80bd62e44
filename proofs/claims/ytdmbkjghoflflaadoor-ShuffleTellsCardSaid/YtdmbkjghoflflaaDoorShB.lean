/- Walks of package shuffle: orders. -/
import Derived.Test.YtdmbkjghoflflaaDoorShA
import Derived.Shelf.Spec.TrailingZeros
namespace Go.Proofs.YtdmbkjghoflflaaDoor.Sh
open Go.RowKit

theorem x19 (args : Array Value) (w : World) : (callFunc 28 args).run Tryd.prog w = .ok (.enter 28 args) w := by
  simp [callFunc, Tryd.func28, Tryd.f28]

/-- The other table's cells. -/
def Bru (w : World) : Prop := TabAt 3 Lib.deBruijn64tab w

set_option maxHeartbeats 1000000 in
theorem tz64_core (x k idx : Nat) (w : World) (hx0 : ((x : Int) == 0) = false)
    (key : IntKind.u64.wrap (bits BinOp.and IntKind.u64 (x : Int) (IntKind.u64.wrap (-(x : Int))) * 285870213051353865) / 288230376151711744 = (idx : Int))
    (hi : idx < 64) (hk : k < 64) (hcell : w.cell? ⟨3, idx, none⟩ = some (.int .u8 k)) :
    Calls Tryd.prog 28 #[.int .u64 x] w fun e w' => e = .returned (.int .i64 k) ∧ w = w' := by
  go_enter Tryd.func28, Tryd.ntmps28
  go_wp2_with (simp only [key])
  go_ret
  exact ⟨rfl, rfl⟩

theorem tz64_c (x : Nat) (hx : x < 18446744073709551616) (hx0 : x ≠ 0) (w : World) (hT : Bru w) :
    Calls Tryd.prog 28 #[.int .u64 x] w fun e w' => e = .returned (.int .i64 (Lib.ctz 64 x)) ∧ w = w' := by
  obtain ⟨hlow, hk⟩ := Lib.lowest_bit 64 x hx0 hx
  obtain ⟨hi, htab⟩ := Lib.deBruijn64_at _ hk
  have hcell := hT _ hi
  rw [htab] at hcell
  exact tz64_core x _ _ w (by simp; omega) (tz64_key x _ hx hx0 hlow) hi hk hcell

set_option maxHeartbeats 400000 in
theorem tz_c (x : Nat) (hx : x < 18446744073709551616) (hx0 : x ≠ 0) (w : World) (hT : Bru w) :
    Calls Tryd.prog 19 #[.int .u64 x] w fun e w' => e = .returned (.int .i64 (Lib.ctz 64 x)) ∧ w = w' := by
  have c := Lib.hid (tz64_c x hx hx0 w hT)
  have hw : IntKind.u64.wrap (x : Int) = (x : Int) := by rw [IntKind.wrap_u64]; omega
  go_enter Tryd.func19, Tryd.ntmps19
  go_wp2_with fail
  refine c.out.mono ?_; rintro e w' ⟨rfl, rfl⟩
  go_wp2
  go_ret
  exact ⟨rfl, rfl⟩

theorem ctz_pow : ∀ k, k < 15 → Lib.ctz 64 (2 ^ k) = k := by decide
theorem and_pow : ∀ k, k < 15 → 2 ^ k &&& (2 ^ k - 1) = 0 := by decide
theorem and_i64 (a b : Nat) (ha : a < 2 ^ 63) (hb : b < 2 ^ 63) : bits .and .i64 (a : Int) (b : Int) = ((a &&& b : Nat) : Int) :=
  (bits_nat .i64 63 (by decide) wraps63 a b ha hb).1

/-- A row's length. -/
def IsOrd (n : Int) : Prop := ∃ k : Nat, k ≤ 14 ∧ n = 2 ^ k

set_option maxHeartbeats 400000 in
set_option maxRecDepth 100000 in
theorem order_yes (k : Nat) (hk : k ≤ 14) (w : World) (hT : Bru w) :
    Calls Tryd.prog 7 #[.int .i64 (2 ^ k : Nat)] w fun e w' => e = .returned (.tuple #[.int .i64 k, .bool true]) ∧ w = w' := by
  have hp : 2 ^ k ≤ 2 ^ 14 := Nat.pow_le_pow_right (by decide) hk
  have h0 : 0 < 2 ^ k := Nat.two_pow_pos k
  have hc : Lib.ctz 64 (2 ^ k) = k := ctz_pow k (by omega)
  have hz : 2 ^ k &&& (2 ^ k - 1) = 0 := and_pow k (by omega)
  generalize 2 ^ k = n at hp h0 hc hz ⊢
  have c := tz_c n (by omega) (by omega) w hT
  rw [hc] at c
  have ha := and_i64 n (n - 1) (by omega) (by omega)
  rw [hz] at ha
  clear hz hc hT
  have hsub : ((n - 1 : Nat) : Int) = (n : Int) - 1 := by omega
  rw [hsub] at ha
  clear hsub
  have c := Lib.hid c
  go_enter Tryd.func7, Tryd.ntmps7
  go_wp2_with fail
  refine c.out.mono ?_; rintro e w' ⟨rfl, rfl⟩
  go_wp2
  go_ret2
  exact ⟨rfl, rfl⟩

theorem not_pow (n : Nat) (h1 : 1 ≤ n) (h2 : n ≤ 16384) (h : ¬ IsOrd n) : n &&& (n - 1) ≠ 0 := by
  intro e
  obtain ⟨k, hk⟩ := (Nat.and_sub_one_eq_zero_iff_isPowerOfTwo (by omega)).1 e
  refine h ⟨k, ?_, by rw [hk]; simp⟩
  rcases Nat.lt_or_ge 14 k with hlt | hge
  · have : 2 ^ 15 ≤ 2 ^ k := Nat.pow_le_pow_right (by decide) hlt
    omega
  · exact hge

set_option maxHeartbeats 400000 in
set_option maxRecDepth 100000 in
theorem order_no (n : Int) (h : ¬ IsOrd n) (w : World) :
    Calls Tryd.prog 7 #[.int .i64 n] w fun e w' => e = .returned (.tuple #[.int .i64 0, .bool false]) ∧ w = w' := by
  by_cases h1 : n < 1
  · clear h
    go_enter Tryd.func7, Tryd.ntmps7
    go_wp2
    go_ret2
    exact ⟨rfl, rfl⟩
  by_cases h2 : 16384 < n
  · clear h
    go_enter Tryd.func7, Tryd.ntmps7
    go_wp2
    go_ret2
    exact ⟨rfl, rfl⟩
  obtain ⟨n, rfl⟩ := Int.eq_ofNat_of_zero_le (show 0 ≤ n by omega)
  have hx := not_pow n (by omega) (by omega) h
  have ha := and_i64 n (n - 1) (by omega) (by omega)
  have hsub : ((n - 1 : Nat) : Int) = (n : Int) - 1 := by omega
  rw [hsub] at ha
  generalize (n &&& (n - 1)) = q at ha hx
  clear hsub h
  have hq : ((q : Int) == 0) = false := by simp; omega
  have hq' : ((q : Int) != 0) = true := by simp; omega
  go_enter Tryd.func7, Tryd.ntmps7
  go_wp2
  go_ret2
  exact ⟨rfl, rfl⟩

set_option maxRecDepth 100000 in
theorem wrap_pow2 (o : Nat) (h : o ≤ 14) : wrap64 ((2 : Int) ^ o) = 2 ^ o := by
  refine wrap_pow o ?_
  have : 2 ^ o ≤ 2 ^ 14 := Nat.pow_le_pow_right (by decide) h
  exact_mod_cast this
theorem pow_inj {a b : Nat} (h : (2 : Int) ^ a = 2 ^ b) : a = b := by
  have h : 2 ^ a = 2 ^ b := by exact_mod_cast h
  exact (Nat.pow_right_inj (by decide)).1 h

set_option maxHeartbeats 400000 in
theorem rorder_yes (k : Nat) (hk : k ≤ 14) (w : World) :
    Calls Tryd.prog 8 #[.int .i64 (2 ^ k : Nat)] w fun e w' => e = .returned (.tuple #[.int .i64 k, .bool true]) ∧ w = w' := by
  have hne : ∀ j, j < k → ((2 ^ k : Nat) : Int) ≠ 2 ^ j := fun j hj e => by
    have : k = j := pow_inj (by simpa using e)
    omega
  have hself : ((2 ^ k : Nat) : Int) = 2 ^ k := by simp
  generalize ((2 ^ k : Nat) : Int) = n at *
  have hne := Lib.hid hne
  have hself := Lib.hid hself
  go_enter Tryd.func8, Tryd.ntmps8
  go_wp2
  go_loop [4] (fun i => ∃ j : Nat, j ≤ k ∧ i = .int .i64 j) (fun i => k - (intOf i).toNat)
  case atStart => exact ⟨0, by omega, rfl⟩
  case round =>
    obtain ⟨j, hj, rfl⟩ := hrel
    have hw := wrap_pow2 j (by omega)
    by_cases hlt : j < k
    · have hx : (n == 2 ^ j) = false := by simpa using hne.out j hlt
      go_wp2
      go_round
      case rel => exact ⟨j + 1, by omega, by go_num⟩
      case measure => simp [intOf]; omega
    · obtain rfl : j = k := by omega
      have hx : (n == 2 ^ j) = true := by simpa using hself.out
      go_wp2
      go_ret2
      exact ⟨rfl, rfl⟩

set_option maxHeartbeats 400000 in
theorem rorder_no (n : Int) (h : ¬ IsOrd n) (w : World) :
    Calls Tryd.prog 8 #[.int .i64 n] w fun e w' => e = .returned (.tuple #[.int .i64 0, .bool false]) ∧ w = w' := by
  have h := Lib.hid h
  go_enter Tryd.func8, Tryd.ntmps8
  go_wp2
  go_loop [4] (fun i => ∃ j : Nat, j ≤ 15 ∧ i = .int .i64 j) (fun i => 15 - (intOf i).toNat)
  case atStart => exact ⟨0, by omega, rfl⟩
  case round =>
    obtain ⟨j, hj, rfl⟩ := hrel
    by_cases hlt : j < 15
    · have hw := wrap_pow2 j (by omega)
      have hx : (n == 2 ^ j) = false := by
        have : n ≠ 2 ^ j := fun e => h.out ⟨j, by omega, e⟩
        simpa using this
      go_wp2
      go_round
      case rel => exact ⟨j + 1, by omega, by go_num⟩
      case measure => simp [intOf]; omega
    · obtain rfl : j = 15 := by omega
      go_wp2
      go_ret2
      exact ⟨rfl, rfl⟩
end Go.Proofs.YtdmbkjghoflflaaDoor.Sh
