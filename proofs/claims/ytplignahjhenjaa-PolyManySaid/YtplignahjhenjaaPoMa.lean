/- poly: lists that are too long; 1 and -x^n by x^2. -/
import Derived.Test.YtplignahjhenjaaPoFl
namespace Go.Proofs.Ytplignahjhenjaa.Lb
open Go.RowKit Go.Proofs.YtplignahjhenjaaW.PrintWords Go.Proofs.YtplignahjhenjaaW.PrintLast Go.Proofs.YtplignahjhenjaaW.PrintMore
open Go.Proofs.Ytplignahjhenjaa.Po (trm trm_of_tight tight_trm trm_len tight_iff ev ident_tight)
set_option linter.unusedVariables false
set_option linter.unusedSimpArgs false

/-- A call that answers an empty list and an error. -/
def OutN (w : World) (er : Int) (e : Ending) (w' : World) : Prop := e = .returned (.tuple #[.slice none 0 0, .int .i64 er]) ∧ Aside0 (Below w.heap.size w w')
set_option maxRecDepth 100000 in
set_option maxHeartbeats 2000000 in
theorem right_long (A : Option Addr) (n c : Nat) (hn : 4096 < n) (hn2 : n ≤ 1000000) (w : World) :
    Calls Try.prog 24 #[.slice A n c] w (OutP w (.bool false)) := by
  have HB : Aside0 (Below w.heap.size w w) := ⟨Below.refl _ _⟩
  have hlt : (4096 : Int) < (n : Int) := by omega
  go_enter Try.func24, Try.ntmps24
  go_wp2_with fail
  go_ret
  exact ⟨rfl, HB⟩
set_option maxRecDepth 100000 in
set_option maxHeartbeats 4000000 in
theorem times_arg (n m : Nat) (hn : 4096 < n) (hn2 : n ≤ 1000000) (A1 A2 : Option Addr) (c1 c2 : Nat) (w : World) :
    Calls Try.prog 25 #[.slice A1 n c1, .slice A2 m c2] w (OutN w 2) := by
  obtain ⟨X, hX⟩ : ∃ X, (w.alloc (.cells #[.slice A1 n c1] 22)).alloc (.cells #[.slice A2 m c2] 22) = X := ⟨_, rfl⟩
  have HBX : Aside0 (Below w.heap.size w X) := ⟨by rw [← hX]; exact ((Below.refl _ _).alloc (Nat.le_refl _) _).alloc (by simp) _⟩
  have HXX := Aside0.mk hX
  clear hX
  go_enter Try.func25, Try.ntmps25
  go_wp2_with fail
  rw [HXX.out]
  refine (right_long A1 n c1 hn hn2 X).mono ?_
  rintro e w1 ⟨rfl, hB1⟩
  have HB1 : Aside0 (Below w.heap.size w w1) := ⟨HBX.out.trans (hB1.out.mono HBX.out.size)⟩
  clear hB1
  go_wp2_with fail
  all_goals
    go_ret2
    exact ⟨rfl, HB1⟩
set_option maxRecDepth 100000 in
set_option maxHeartbeats 4000000 in
theorem times_long (p q : List Int) (hp : ∀ x ∈ p, lim 1000 x) (hq : ∀ x ∈ q, lim 1000 x) (hsp : p.length ≤ 4096) (hsq : q.length ≤ 4096) (hpq : 4097 < p.length + q.length) (tp : Po.tight p) (tq : Po.tight q) (A1 A2 : Option Addr) (c1 c2 : Nat) (w : World) (r1 : PL w A1 p) (r2 : PL w A2 q) :
    Calls Try.prog 25 #[.slice A1 p.length c1, .slice A2 q.length c2] w (OutN w 3) := by
  have R1 := Aside0.mk r1
  have R2 := Aside0.mk r2
  have HP := Aside0.mk hp
  have HQ := Aside0.mk hq
  have TP := Aside0.mk tp
  have TQ := Aside0.mk tq
  obtain ⟨g3, hg3⟩ : ∃ g3, w.heap.size = g3 := ⟨_, rfl⟩
  obtain ⟨X, hX⟩ : ∃ X, (w.alloc (.cells #[.slice A1 p.length c1] 22)).alloc (.cells #[.slice A2 q.length c2] 22) = X := ⟨_, rfl⟩
  have HBX : Aside0 (Below g3 w X) := ⟨by rw [← hX, ← hg3]; exact ((Below.refl _ _).alloc (Nat.le_refl _) _).alloc (by simp) _⟩
  have HPX : Aside0 (X.heap[g3]? = some (.cells #[.slice A1 p.length c1] 22 (0, 0))) := ⟨by
    rw [← hX, ← hg3, Below.heap_alloc _ _ _ (by simp)]
    exact heap_alloc_new w _⟩
  have HQX : Aside0 (X.heap[g3 + 1]? = some (.cells #[.slice A2 q.length c2] 22 (0, 0))) := ⟨by
    rw [← hX, ← hg3]
    have := heap_alloc_new (w.alloc (.cells #[.slice A1 p.length c1] 22)) (.cells #[.slice A2 q.length c2] 22)
    simpa using this⟩
  have hBwX : Below w.heap.size w X := by rw [hg3]; exact HBX.out
  have HBWX := Aside0.mk hBwX
  have HG3 := Aside0.mk hg3
  have HXX := Aside0.mk hX
  clear r1 r2 hp hq tp tq hX hg3 hBwX
  go_enter Try.func25, Try.ntmps25
  go_wp2_with fail
  rw [HXX.out]
  refine (right_pz p (fun z hz => lim_le (HP.out z hz) (by omega)) hsp TP.out A1 c1 X (R1.out.below HBWX.out)).mono ?_
  rintro e w1 ⟨rfl, hB1⟩
  have HB1 : Aside0 (Below w.heap.size w w1) := ⟨HBWX.out.trans (hB1.out.mono HBWX.out.size)⟩
  have HP1 : Aside0 (w1.heap[g3]? = some (.cells #[.slice A1 p.length c1] 22 (0, 0))) := ⟨(hB1.out.block _ (Array.getElem?_eq_some_iff.1 HPX.out).1).trans HPX.out⟩
  have HQ1 : Aside0 (w1.heap[g3 + 1]? = some (.cells #[.slice A2 q.length c2] 22 (0, 0))) := ⟨(hB1.out.block _ (Array.getElem?_eq_some_iff.1 HQX.out).1).trans HQX.out⟩
  clear hB1
  have k1 := cell1 HP1.out
  have k2 := cell1 HQ1.out
  rw [← HG3.out] at k1 k2
  go_wp2_with fail
  refine (right_pz q (fun z hz => lim_le (HQ.out z hz) (by omega)) hsq TQ.out A2 c2 w1 (R2.out.below HB1.out)).mono ?_
  rintro e w2 ⟨rfl, hB2⟩
  have HB2 : Aside0 (Below w.heap.size w w2) := ⟨HB1.out.trans (hB2.out.mono HB1.out.size)⟩
  have HP2 : Aside0 (w2.heap[g3]? = some (.cells #[.slice A1 p.length c1] 22 (0, 0))) := ⟨(hB2.out.block _ (Array.getElem?_eq_some_iff.1 HP1.out).1).trans HP1.out⟩
  have HQ2 : Aside0 (w2.heap[g3 + 1]? = some (.cells #[.slice A2 q.length c2] 22 (0, 0))) := ⟨(hB2.out.block _ (Array.getElem?_eq_some_iff.1 HQ1.out).1).trans HQ1.out⟩
  clear hB2 k1 k2
  have k1 := cell1 HP2.out
  have k2 := cell1 HQ2.out
  rw [← HG3.out] at k1 k2
  have hp1 : ((p.length : Int) == 0) = false := by simp; intro h; rw [h] at hpq; simp at hpq; omega
  have hq1 : ((q.length : Int) == 0) = false := by simp; intro h; rw [h] at hpq; simp at hpq; omega
  obtain ⟨T, hT⟩ : ∃ T, p.length + q.length = T := ⟨_, rfl⟩
  obtain ⟨N, hN⟩ : ∃ N, T - 1 = N := ⟨_, rfl⟩
  have hTi : (p.length : Int) + (q.length : Int) = (T : Int) := by omega
  have hTw : IntKind.i64.wrap (T : Int) = (T : Int) := by rw [IntKind.wrap_i64]; omega
  have hTw2 : wrap64 (T : Int) = (T : Int) := by unfold wrap64; omega
  have hNi : (T : Int) - 1 = (N : Int) := by omega
  have hNw : IntKind.i64.wrap (N : Int) = (N : Int) := by rw [IntKind.wrap_i64]; omega
  have hNw2 : wrap64 (N : Int) = (N : Int) := by unfold wrap64; omega
  have hNl : (4096 : Int) < (N : Int) := by omega
  clear hT hN
  go_wp2_with fail
  all_goals
    go_ret2
    exact ⟨rfl, HB2⟩
/-! ### 1 - x^j, of k = j + 1 numbers -/
def onex (k j : Nat) : List Int := ((List.replicate k (0 : Int)).set 0 1).set j (-1)
theorem onex_len (k j : Nat) : (onex k j).length = k := by simp [onex]
theorem onex_small (k j : Nat) : ∀ z ∈ onex k j, z.natAbs < 18446744073709551616 := fun z hz => by
  rcases List.mem_or_eq_of_mem_set hz with h | rfl
  · rcases List.mem_or_eq_of_mem_set h with h | rfl
    · rw [(List.mem_replicate.1 h).2]; decide
    · decide
  · decide
theorem onex_tight {k j : Nat} (hj : j + 1 = k) : Po.tight (onex k j) := by
  have hl := onex_len k j
  refine (tight_iff (fun h => by rw [h] at hl; simp at hl; omega)).2 ?_
  rw [hl, onex, getD_set _ _ _ _ (by simp; omega), if_pos (by omega)]
  decide
theorem up2 {p : List Int} (hp : Po.tight p) (hn : p ≠ []) : trm (Po.mul p [0, 0, 1]) = 0 :: 0 :: p := by
  refine ident_tight (tight_trm _) ?_ fun x => ?_
  · refine (tight_iff (by simp)).2 ?_
    have h := (tight_iff hn).1 hp
    have h1 := List.length_pos_iff.2 hn
    rw [show (0 :: 0 :: p).length - 1 = p.length - 1 + 2 by simp; omega]
    exact h
  · rw [Po.ev_trm, Po.ev_mul]
    show ev p x * (0 + x * (0 + x * (1 + x * 0))) = 0 + x * (0 + x * ev p x)
    simp only [Int.mul_zero, Int.add_zero, Int.zero_add, Int.mul_one]
    rw [Int.mul_comm, Int.mul_assoc]
theorem onex_one {k j : Nat} (hj : j + 1 = k) (h1 : 1 ≤ j) : (0 :: 0 :: onex k j).getD 2 0 = 1 := by
  show (onex k j).getD 0 0 = 1
  rw [onex, getD_set _ _ _ _ (by simp; omega), if_neg (by omega), getD_set _ _ _ _ (by simp; omega), if_pos rfl]
theorem onex_last {k j : Nat} (hj : j + 1 = k) : (0 :: 0 :: onex k j).getD (k + 1) 0 = -1 := by
  subst hj
  show (onex (j + 1) j).getD j 0 = -1
  rw [onex, getD_set _ _ _ _ (by simp), if_pos rfl]
theorem x2_lim : ∀ z ∈ [0, 0, (1 : Int)], z.natAbs < 18446744073709551616 := by decide
theorem x2_tight : Po.tight [0, 0, (1 : Int)] := .inr (by decide)
theorem many_right {k j : Nat} (hj : j + 1 = k) (hk : k ≤ 4096) (A : Option Addr) (c : Nat) (w : World) (r : PL w A (onex k j)) : Calls Try.prog 24 #[.slice A k c] w (OutP w (.bool true)) := by
  have h := right_pz (onex k j) (small_lim (onex_small k j) (by omega)) (by rw [onex_len]; exact hk) (onex_tight hj) A c w r
  rwa [onex_len] at h
theorem many_long {k j : Nat} (hj : j + 1 = k) (hk : k ≤ 4096) (hk2 : 4094 < k) (A A2 : Option Addr) (c c2 : Nat) (w : World) (r : PL w A (onex k j)) (r2 : PL w A2 [0, 0, 1]) : Calls Try.prog 25 #[.slice A k c, .slice A2 3 c2] w (OutN w 3) := by
  have h := times_long (onex k j) [0, 0, 1] (small_lim (onex_small k j) (by omega)) (small_lim x2_lim (by omega)) (by rw [onex_len]; exact hk) (by decide) (by rw [onex_len]; show 4097 < k + 3; omega) (onex_tight hj) x2_tight A A2 c c2 w r r2
  rwa [onex_len] at h
theorem many_times {k j n : Nat} (hj : j + 1 = k) (hk : k ≤ 4094) (hn : k + 2 = n) (A A2 : Option Addr) (c c2 : Nat) (w : World) (r : PL w A (onex k j)) (r2 : PL w A2 [0, 0, 1]) : Calls Try.prog 25 #[.slice A k c, .slice A2 3 c2] w fun e w' => ∃ A c, e = .returned (.tuple #[.slice A n c, .int .i64 0]) ∧ Aside0 (PL w' A (0 :: 0 :: onex k j)) ∧ Aside0 (Below w.heap.size w w') := by
  have h := times_pz (onex k j) [0, 0, 1] (small_lim (onex_small k j) (by omega)) (small_lim x2_lim (by omega)) (small_min (onex_small k j)) (by rw [onex_len]; omega) (by decide) (by rw [onex_len]; show k + 3 ≤ 4097; omega) (onex_tight hj) x2_tight A A2 c c2 w r r2
  rw [up2 (onex_tight hj) (fun h => by have := onex_len k j; rw [h] at this; simp at this; omega), onex_len] at h
  refine h.mono ?_
  rintro e w' ⟨A, c, rfl, _, h1, h2⟩
  refine ⟨A, c, ?_, h1, h2⟩
  rw [show (0 :: 0 :: onex k j).length = n by simp [onex_len]; omega]
theorem many_nums (k : Nat) (h : 4090 ≤ k ∧ k < 4100) : ∃ m n : Nat, k + 1 = m ∧ k + 2 = n ∧ (k : Int) + 1 = (m : Int) ∧ (k : Int) + 2 = (n : Int) ∧ wrap64 (m : Int) = (m : Int) ∧ wrap64 (n : Int) = (n : Int) ∧ IntKind.i64.wrap (m : Int) = (m : Int) ∧ IntKind.i64.wrap (n : Int) = (n : Int) ∧ (m : Int) < (n : Int) ∧ (2 : Int) < (n : Int) := by
  refine ⟨k + 1, k + 2, rfl, rfl, by omega, by omega, ?_, ?_, ?_, ?_, by omega, by omega⟩
  · unfold wrap64; omega
  · unfold wrap64; omega
  · rw [IntKind.wrap_i64]; omega
  · rw [IntKind.wrap_i64]; omega
theorem many_le {k n : Nat} (hn : k + 2 = n) (h : k ≤ 4094) : ¬ ((4096 : Int) < (n : Int)) := by omega
theorem many_gt {k n : Nat} (hn : k + 2 = n) (h : ¬ (k ≤ 4094)) : (4096 : Int) < (n : Int) := by omega
theorem many_ge {k : Nat} (h : (k : Int) ≤ 4096) : ¬ ((4096 : Int) < (k : Int)) := by omega
theorem many_len {k j n : Nat} (hn : k + 2 = n) : (0 :: 0 :: onex k j).length = n := by simp [onex_len]; omega
set_option maxRecDepth 100000 in
set_option maxHeartbeats 2000000 in
theorem pick10 (a : Int) (ha : -9223372036854775808 ≤ a ∧ a ≤ 9223372036854775807) (w : World) :
    Calls Try.prog 22 #[.int .i64 a, .int .i64 10] w fun e w' => ∃ k : Nat, k < 10 ∧ e = .returned (.int .i64 (k : Int)) ∧ Aside0 (Below w.heap.size w w') := by
  have HB : Aside0 (Below w.heap.size w w) := ⟨Below.refl _ _⟩
  have hr : -10 < a.tmod 10 ∧ a.tmod 10 < 10 := by
    have h1 := Int.tmod_lt_of_pos a (by decide : (0 : Int) < 10)
    have h2 := Int.lt_tmod_of_pos a (by decide : (0 : Int) < 10)
    omega
  go_enter Try.func22, Try.ntmps22
  obtain ⟨t, ht⟩ : ∃ t, a.tmod 10 = t := ⟨_, rfl⟩
  rw [ht] at hr
  by_cases h0 : t < 0
  · obtain ⟨k, hk⟩ : ∃ k : Nat, t + 10 = (k : Int) := ⟨(t + 10).toNat, by omega⟩
    have hw : IntKind.i64.wrap (k : Int) = (k : Int) := by rw [IntKind.wrap_i64]; omega
    have hw2 : wrap64 (k : Int) = (k : Int) := by unfold wrap64; omega
    go_wp2_with fail
    go_ret
    exact ⟨k, by omega, rfl, HB⟩
  · obtain ⟨k, rfl⟩ : ∃ k : Nat, t = (k : Int) := ⟨t.toNat, by omega⟩
    go_wp2_with fail
    go_ret
    exact ⟨k, by omega, rfl, HB⟩
end Go.Proofs.Ytplignahjhenjaa.Lb
