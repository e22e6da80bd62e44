/- limb: up. -/
import Derived.Test.YtlcjnahfahobjaaLbH
import Derived.Test.YtlcjnahfahobjaaLbQ
import Derived.Laws.BitsAllLaws
namespace Go.Proofs.Ytlcjnahfahobjaa.Lb
open Go.RowKit Go.Proofs.YtlcjnahfahobjaaW.PrintWords Go.Proofs.YtlcjnahfahobjaaW.PrintLast Go.Proofs.YtlcjnahfahobjaaW.PrintMore
set_option linter.unusedVariables false
set_option linter.unusedSimpArgs false

theorem lit_cell (w : World) (v : Value) (T : TypeId) : ∀ k u, [v][k]? = some u → (w.alloc (.cells #[v] T)).cell? ((⟨w.heap.size, 0, none⟩ : Addr).add k) = some u := by
  intro k u hk
  cases k with
  | zero =>
    have hu : v = u := by simpa using hk
    rw [← hu]
    show (w.alloc (.cells #[v] T)).cell? ⟨w.heap.size, 0 + 0, none⟩ = some v
    simp
  | succ k => simp at hk
theorem own_made (w : World) (n c : Nat) (h : n ≤ c) (hc : c ≤ 9223372036854775807) : (w.alloc (.cells (madeCells #[.int .u64 0] c) 50)).ownsRow w.heap.size 50 1 (.slice (some ⟨w.heap.size, 0, none⟩) n c) n (nums .u64 (List.replicate n 0)) := by
  refine ⟨by simp [nums], .inr ⟨w.heap.size, c, madeCells #[.int .u64 0] c, rfl, Nat.le_refl _, heap_alloc_new w _, h, by unfold maxLen; omega, by simp [size_madeCells], ?_⟩⟩
  rw [made_nums]
  simp [nums, List.take_replicate, Nat.min_eq_left h]
theorem nums_snoc (o : List Int) (z : Int) : nums .u64 o ++ [.int .u64 z] = nums .u64 (o ++ [z]) := by simp [nums]
set_option maxRecDepth 100000 in
set_option maxHeartbeats 2000000 in
theorem up_c (A : Option Addr) (c : Nat) (l : List Int) (hc : l.length ≤ c) (ho : okL l) (hm : l.length ≤ 4096) (by_ : Nat) (hby : by_ ≤ 262144) (w : World) (hr : u64.C w A l.length l) :
    Calls Try.prog 55 #[.slice A l.length c, .int .i64 (by_ : Int)] w fun e w' => ∃ A' c', ∃ q : List Int, e = .returned (.slice A' q.length c') ∧ u64.R 50 w' w.heap.size (fun k => w.heap.size ≤ k) (.slice A' q.length c') q ∧ okL q ∧ q.length ≤ 8193 ∧ nv q = nv l * 2 ^ by_ ∧ Below w.heap.size w w' := by
  have hus := Try.underlying22
  have HR := Aside0.mk hr
  have HO := Aside0.mk ho
  clear hr ho
  obtain ⟨q, hq⟩ : ∃ q : Nat, by_ / 64 = q := ⟨_, rfl⟩
  obtain ⟨r, hrr⟩ : ∃ r : Nat, by_ % 64 = r := ⟨_, rfl⟩
  have g1 : wrap64 ((by_ : Int).tdiv 64) = (q : Int) := by
    rw [show (by_ : Int).tdiv 64 = (q : Int) by rw [← hq]; exact (Int.ofNat_tdiv by_ 64).symm]
    unfold wrap64; omega
  have g2 : (by_ : Int).tmod 64 = (r : Int) := by rw [← hrr]; exact (Int.ofNat_tmod by_ 64).symm
  have hr64 : r < 64 := by omega
  have hqb : q ≤ 4096 := by omega
  obtain ⟨t, ht⟩ : ∃ t : Nat, 64 - r = t := ⟨_, rfl⟩
  have g3 : wrap64 (64 - (r : Int)) = (t : Int) := by unfold wrap64; omega
  have HB := Aside0.mk (show by_ = 64 * q + r by omega)
  have HT := Aside0.mk ht
  have HR64 := Aside0.mk hr64
  obtain ⟨B, hB⟩ : ∃ B : Int, (by_ : Int) = B := ⟨_, rfl⟩
  rw [hB] at g1 g2 ⊢
  clear hB hby hq hrr ht hr64
  obtain ⟨i, hi, hz⟩ := Option.map_eq_some_iff.1 infoU
  simp only [Prod.mk.injEq] at hz
  obtain ⟨hz0, hz1, hz2⟩ := hz
  have hmk : ∀ w' : World, (Instr.makeSlice 22 (.int .i64 (q : Int)) (.int .i64 ((q : Int) + (l.length : Int) + 1))).run Try.prog w' = .ok (.slice (some ⟨w'.heap.size, 0, none⟩) q (q + l.length + 1)) (w'.alloc (.cells (madeCells #[.int .u64 0] (q + l.length + 1)) 50)) := by
    intro w'
    have := run_make (P := Try.prog) w' 22 50 i (.int .u64 0) hus hi hz0 .i64 .i64 (q : Int) ((q : Int) + (l.length : Int) + 1) (by omega) (by omega) (by rw [hz2]; omega) (by omega)
    rw [this, hz1]
    have e1 : ((q : Int) + (l.length : Int) + 1).toNat = q + l.length + 1 := by omega
    rw [e1]
    simp [Value.cells]
  clear hz0
  have HI0 := Aside0.mk hi
  have HZ1 := Aside0.mk hz1
  clear hi hz1 hz2
  go_enter Try.func55, Try.ntmps55
  go_wp2
  rw [g1]
  go_loopw [5, 6, 20] (fun v5 v6 v20 wr => ∃ (j low : Nat) (o : List Int), v20 = .int .i64 j ∧ v6 = .int .u64 (low : Int) ∧ v5 = .slice (some ⟨w.heap.size, 0, none⟩) (q + j) (q + l.length + 1) ∧ j ≤ l.length ∧ Aside0 (UpI l o q r j low) ∧ Aside0 (wr.ownsRow w.heap.size 50 1 (.slice (some ⟨w.heap.size, 0, none⟩) (q + j) (q + l.length + 1)) (q + j) (nums .u64 o)) ∧ Aside0 (Below w.heap.size w wr) ∧ Aside0 (w.heap.size < wr.heap.size)) (fun _ _ v20 _ => l.length - (intOf v20).toNat)
  case atStart =>
    refine ⟨0, 0, _, rfl, rfl, rfl, Nat.zero_le _, ⟨UpI.start l q r⟩, ⟨?_⟩, ⟨(Below.refl _ _).alloc (Nat.le_refl _) _⟩, ⟨by simp⟩⟩
    exact own_made w q (q + l.length + 1) (by omega) (by omega)
  case round =>
    obtain ⟨j, low, o, rfl, rfl, rfl, hj, HI, HO2, HBR, HSR⟩ := hrel
    by_cases hlt : j < l.length
    · obtain ⟨ad, hA, hcell⟩ := read_at (Kd.C_below HR.out HBR.out) j hlt
      subst hA
      have hx := getD_ok HO.out j
      have hst := UpI.step HI.out hlt HO.out HR64.out
      obtain ⟨X, hX⟩ := Int.eq_ofNat_of_zero_le hx.1
      rw [hX] at hcell hx hst
      simp only [Int.toNat_natCast] at hst
      have s1 : IntKind.u64.wrap ((X : Int) * 2 ^ min r 64) = ((2 ^ r * (X % 2 ^ t) : Nat) : Int) := by
        have h1 := HR64.out
        rw [← HT.out]
        have h : (X : Int) * 2 ^ r = ((2 ^ r * X : Nat) : Int) := by rw [Nat.mul_comm]; simp
        rw [Nat.min_eq_left (by omega), h, IntKind.wrap_u64, ← Nat.mul_mod_mul_left, ← Nat.pow_add, show r + (64 - r) = 64 by omega]
        rfl
      have s2 : (X : Int) / 2 ^ min t 64 = ((X / 2 ^ t : Nat) : Int) := by
        have h1 := HT.out
        rw [Nat.min_eq_left (by omega)]; simp
      rw [HT.out] at hst
      have hZB : 2 ^ r * (X % 2 ^ t) + low < B64 := by have := okL_append.1 hst.ok; have := (okL_cons.1 this.2).1; unfold B64; omega
      have s3 : bits .or .u64 ((2 ^ r * (X % 2 ^ t) : Nat) : Int) (low : Int) = ((2 ^ r * (X % 2 ^ t) + low : Nat) : Int) := by
        have h := u64_or_nat (2 ^ r * (X % 2 ^ t)) low (by unfold B64 at hZB; omega) (by unfold B64 at hZB; omega)
        rwa [← Nat.two_pow_add_eq_or_of_lt HI.out.lowlt] at h
      generalize 2 ^ r * (X % 2 ^ t) = Y at s1 s3 hst
      generalize Y + low = Z at s3 hst
      generalize X / 2 ^ t = low' at s2 hst
      have HST := Aside0.mk hst
      have hsr := HSR.out
      clear hst hX hx hZB
      go_wp2_with ((with_reducible refine gate_builtin (b := .append) (xs := #[.tmp 24, .tmp 31]) rfl ?_); at_builtin; refine wpList_append_fits _ rfl (.tmp 24) (.tmp 31) 22 rfl w.heap.size 50 i 1 hus HI0.out HZ1.out w.heap.size (q + j) (q + l.length + 1) (nums .u64 o) rfl ?aO ⟨wr.heap.size, 0, none⟩ 1 1 [.int .u64 (Z : Int)] rfl rfl ?aC ?aN (by omega) ?_; (case aO => exact HO2.out.alloc _); (case aC => exact lit_cell _ _ _); (case aN => intro u hu; rw [List.mem_singleton.1 hu]; rfl); intro w5 hown hg; have HO5 := Aside0.mk hown; have HG5 := Aside0.mk hg; clear hown hg)
      go_roundw
      case rel =>
        refine ⟨j + 1, low', o ++ [(Z : Int)], by go_num, rfl, rfl, by omega, HST, ⟨?_⟩, ⟨?_⟩, ⟨?_⟩⟩
        · rw [← nums_snoc]; exact HO5.out
        · exact (HBR.out.alloc (by omega) _).grown HG5.out (by simp; omega) (fun k hk => by cases hk; exact Nat.le_refl _)
        · have := HG5.out.size; simp at this; omega
      case measure => simp [intOf]; omega
    · obtain rfl : j = l.length := by omega
      have hd := UpI.done HI.out HR64.out
      rw [← HB.out] at hd
      have hlen : (o ++ [(low : Int)]).length = q + l.length + 1 := by simp [HI.out.len]
      have HD := Aside0.mk hd
      have HLN := Aside0.mk hlen
      have hsr := HSR.out
      clear hd hlen
      go_wp2_with ((with_reducible refine gate_builtin (b := .append) (xs := #[.tmp 39, .tmp 41]) rfl ?_); at_builtin; refine wpList_append_fits _ rfl (.tmp 39) (.tmp 41) 22 rfl w.heap.size 50 i 1 hus HI0.out HZ1.out w.heap.size (q + l.length) (q + l.length + 1) (nums .u64 o) rfl ?aO ⟨wr.heap.size, 0, none⟩ 1 1 [.int .u64 (low : Int)] rfl rfl ?aC ?aN (by omega) ?_; (case aO => exact HO2.out.alloc _); (case aC => exact lit_cell _ _ _); (case aN => intro u hu; rw [List.mem_singleton.1 hu]; rfl); intro w5 hown hg; have HO5 := Aside0.mk hown; have HG5 := Aside0.mk hg; clear hown hg)
      go_ret
      refine ⟨some ⟨w.heap.size, 0, none⟩, q + l.length + 1, o ++ [(low : Int)], by rw [HLN.out]; rfl, row_R (by rw [HLN.out, ← nums_snoc]; exact HO5.out), HD.out.2, by rw [HLN.out]; omega, HD.out.1, ?_⟩
      exact (HBR.out.alloc (by omega) _).grown HG5.out (by simp; omega) (fun k hk => by cases hk; exact Nat.le_refl _)
end Go.Proofs.Ytlcjnahfahobjaa.Lb
