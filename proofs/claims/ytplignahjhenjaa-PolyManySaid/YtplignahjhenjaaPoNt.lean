/- the kit's numbers: NatTrim, NatOf, IntOf; of. -/
import Derived.Test.YtplignahjhenjaaLbC
import Derived.Test.YtplignahjhenjaaPoBa
namespace Go.Proofs.Ytplignahjhenjaa.Lb
open Go.RowKit Go.Proofs.YtplignahjhenjaaW.PrintWords Go.Proofs.YtplignahjhenjaaW.PrintLast Go.Proofs.YtplignahjhenjaaW.PrintMore
set_option linter.unusedVariables false
set_option linter.unusedSimpArgs false

set_option maxRecDepth 100000 in
set_option maxHeartbeats 1000000 in
theorem trimk_c (A : Option Addr) (c : Nat) (l : List Int) (hc : l.length ≤ c) (ho : okL l) (hm : l.length < 17592186044416) (w : World) (hr : u64.C w A l.length l) :
    Calls Try.prog 108 #[.slice A l.length c] w fun e w' => ∃ v, e = .returned v ∧ u64.R 50 w' w.heap.size (fun _ => True) v (toL (nv l)) ∧ Below w.heap.size w w' := by
  have HR := Aside0.mk hr
  have HO := Aside0.mk ho
  have hus := Try.underlying23
  have TK := Lib.hid (fun m (h : m ≤ l.length) => (by have h1 := Kd.C_take HR.out h; rwa [show (l.take m).length = m by rw [List.length_take]; omega] at h1 : u64.C w A m (l.take m)))
  clear hr ho
  go_enter Try.func108, Try.ntmps108
  go_wp2
  go_loop [3] (fun v => ∃ m : Nat, m ≤ l.length ∧ v = .int .i64 m ∧ Aside0 (TopsNought l m)) (fun v => (intOf v).toNat)
  case atStart => exact ⟨l.length, Nat.le_refl _, rfl, ⟨tops_all l⟩⟩
  case round =>
    obtain ⟨m, hml, rfl, ht⟩ := hrel
    by_cases h0 : m = 0
    · subst h0
      have HE := Aside0.mk (tops_end HO.out hml ht.out (.inl rfl))
      have HT := Aside0.mk (TK.out 0 hml)
      go_wp2_with ((with_reducible refine gate_builtin (b := .append) (xs := #[.tmp 19, .tmp 22]) rfl ?_); at_builtin; refine Kd.R_append_rows u64 (w0 := w) w.heap.size rfl (.tmp 19) (.tmp 22) 23 50 (.int .u64 0) 8 rfl Try.underlying23 infoU rfl (by decide) (by omega) (.slice none 0 0) ([] : List Int) (l.take 0) _ _ _ (fun _ => True) (fun _ => False) rfl rfl ?aO ?aR (fun _ _ h => h) (fun _ h => h.elim) ?aF ?aB ?aS ?aL ?_; (case aO => exact Kd.R_nil _ _ _ _ _); (case aR => exact HT.out); (case aF => exact fun _ _ => trivial); (case aB => exact Below.refl _ _); (case aS => simp); (case aL => simp); intro v1 w1 hR hB _ _; have HR1 := Aside0.mk hR; have HB1 := Aside0.mk hB; clear hR hB)
      go_ret
      exact ⟨_, rfl, by rw [HE.out]; exact HR1.out, HB1.out⟩
    · obtain ⟨k, rfl⟩ : ∃ k, m = k + 1 := ⟨m - 1, by omega⟩
      obtain ⟨ad, hA, hcell⟩ := read_at HR.out k (by omega)
      subst hA
      obtain ⟨x, hx⟩ : ∃ x, l.getD k 0 = x := ⟨_, rfl⟩
      rw [hx] at hcell
      have HX := Aside0.mk hx
      clear hx
      have hk1 : ((k + 1 : Nat) : Int) - 1 = (k : Int) := by omega
      by_cases hz : x = 0
      · subst hz
        go_wp2
        go_round
        case rel => exact ⟨k, by omega, by go_num, ⟨tops_less (m := k + 1) hml (by omega) ht.out HX.out⟩⟩
        case measure => simp [intOf]
      · have hx0 : (x == 0) = false := by simpa using hz
        have HE := Aside0.mk (tops_end HO.out hml ht.out (.inr (by rw [Nat.add_sub_cancel, HX.out]; exact hz)))
        have HT := Aside0.mk (TK.out (k + 1) hml)
        go_wp2_with ((with_reducible refine gate_builtin (b := .append) (xs := #[.tmp 19, .tmp 22]) rfl ?_); at_builtin; refine Kd.R_append_rows u64 (w0 := w) w.heap.size rfl (.tmp 19) (.tmp 22) 23 50 (.int .u64 0) 8 rfl Try.underlying23 infoU rfl (by decide) (by omega) (.slice none 0 0) ([] : List Int) (l.take (k + 1)) _ _ _ (fun _ => True) (fun _ => False) rfl rfl ?aO ?aR (fun _ _ h => h) (fun _ h => h.elim) ?aF ?aB ?aS ?aL ?_; (case aO => exact Kd.R_nil _ _ _ _ _); (case aR => exact HT.out); (case aF => exact fun _ _ => trivial); (case aB => exact Below.refl _ _); (case aS => simp); (case aL => simp; omega); intro v1 w1 hR hB _ _; have HR1 := Aside0.mk hR; have HB1 := Aside0.mk hB; clear hR hB)
        go_ret
        exact ⟨_, rfl, by rw [HE.out]; exact HR1.out, HB1.out⟩
set_option maxHeartbeats 1000000 in
theorem natOf_c (x : Nat) (hx : x < 18446744073709551616) (w : World) :
    Calls Try.prog 78 #[.int .u64 (x : Int)] w fun e w' => ∃ A c, e = .returned (.slice A (toL x).length c) ∧ Aside0 (u64.R 50 w' w.heap.size (fun _ => True) (.slice A (toL x).length c) (toL x)) ∧ Aside0 (Below w.heap.size w w') := by
  have hnv : nv [(x : Int)] = x := by simp [nv]
  have hok : okL [(x : Int)] := by rw [okL_cons]; exact ⟨⟨by omega, by omega⟩, okL_nil⟩
  obtain ⟨X, hX⟩ : ∃ X, w.alloc (.cells #[.int .u64 (x : Int)] 50) = X := ⟨_, rfl⟩
  have hB : Below w.heap.size w X := by rw [← hX]; exact (Below.refl _ _).alloc (Nat.le_refl _) _
  have hC : u64.C X (some ⟨w.heap.size, 0, none⟩) 1 [(x : Int)] := by
    rw [← hX]
    have hown := World.ownsRow_lit (base := w.heap.size) (e := 50) (size := 1) w (nums .u64 [(x : Int)]).toArray 1 (Nat.le_refl _) (by decide) (by simp [nums])
    have hR : u64.R 50 _ w.heap.size (fun k => w.heap.size ≤ k) (.slice (some ⟨w.heap.size, 0, none⟩) 1 1) [(x : Int)] := row_R (by simpa using hown)
    exact (Kd.R_reads' hR).2.2
  have TR := Lib.hid (trimk_c (some ⟨w.heap.size, 0, none⟩) 1 [(x : Int)] (by simp) hok (by simp) X hC)
  rw [hnv] at TR
  have HB := Aside0.mk hB
  have HX := Aside0.mk hX
  clear hnv hok hC hB hX hx
  go_enter Try.func78, Try.ntmps78
  go_wp2_with fail
  rw [HX.out]
  refine TR.out.mono ?_
  rintro e w1 ⟨v, rfl, hR, hb⟩
  obtain ⟨A, c, rfl⟩ := Kd.R_slice hR
  have HR := Aside0.mk hR
  have HBB : Aside0 (Below w.heap.size w w1) := ⟨HB.out.trans (hb.mono HB.out.size)⟩
  have HSZ := Aside0.mk HB.out.size
  clear hR hb
  go_wp2_with fail
  go_ret
  exact ⟨A, c, rfl, ⟨Kd.R_lower HR.out HSZ.out⟩, HBB⟩
/-- A row of the call's own, the result's two cells written. -/
theorem R_far2 {w : World} {g base : Nat} {v u1 u2 : Value} {l : List Int} (h : u64.R 50 w base (fun _ => True) v l) (hg : g < base) : u64.R 50 ((w.setCell ⟨g, 0, none⟩ u1).setCell ⟨g, 1, none⟩ u2) base (fun _ => True) v l := by
  have h1 := Kd.R_mono (ok' := fun k => base ≤ k) (Kd.R_bound h) (fun k hk => hk.2.1)
  have h2 := Kd.R_far (p := ⟨g, 0, none⟩) h1 (fun k hk => by show k ≠ g; omega) u1
  have h3 := Kd.R_far (p := ⟨g, 1, none⟩) h2 (fun k hk => by show k ≠ g; omega) u2
  exact Kd.R_mono h3 (fun _ _ => trivial)
set_option maxRecDepth 100000 in
set_option maxHeartbeats 1000000 in
theorem intOf_c (a : Int) (h1 : -9223372036854775808 ≤ a) (h2 : a ≤ 9223372036854775807) (w : World) :
    Calls Try.prog 53 #[.int .i64 a] w fun e w' => ∃ A c, e = .returned (.agg #[.bool (sg a), .slice A (lm a).length c]) ∧ Aside0 (u64.R 50 w' w.heap.size (fun _ => True) (.slice A (lm a).length c) (lm a)) ∧ Aside0 (Below w.heap.size w w') := by
  have hu := Try.underlying25
  obtain ⟨x, hx⟩ : ∃ x, a.natAbs = x := ⟨_, rfl⟩
  have hxl : x < 18446744073709551616 := by omega
  have NT := Lib.hid (fun W => natOf_c x hxl W)
  have hlm : toL x = lm a := by unfold lm; rw [hx]
  rw [hlm] at NT
  obtain ⟨X, hX⟩ : ∃ X, w.alloc (.cells #[.bool false, .slice none 0 0] 25) = X := ⟨_, rfl⟩
  have HBX : Aside0 (Below w.heap.size w X) := ⟨by rw [← hX]; exact (Below.refl _ _).alloc (Nat.le_refl _) _⟩
  have HGX : Aside0 (X.heap[w.heap.size]? = some (.cells #[.bool false, .slice none 0 0] 25 (0, 0))) := ⟨by rw [← hX]; exact heap_alloc_new w _⟩
  have hzx : X.heap.size = w.heap.size + 1 := by rw [← hX]; simp
  have HZX := Aside0.mk hzx
  have HX := Aside0.mk hX
  clear hX hlm hzx
  by_cases hn : a < 0
  · have hsg : Aside0 (sg a = true) := ⟨by unfold sg; exact decide_eq_true hn⟩
    have hw1 : IntKind.u64.wrap a = 18446744073709551616 + a := by rw [IntKind.wrap_u64]; omega
    have hw2 : IntKind.u64.wrap (-(18446744073709551616 + a)) = (x : Int) := by rw [IntKind.wrap_u64]; omega
    have hd : decide (a < 0) = true := decide_eq_true hn
    clear hx hxl
    go_enter Try.func53, Try.ntmps53
    go_wp2_with fail
    rw [HX.out]
    refine (NT.out X).mono ?_
    rintro e w1 ⟨A, c, rfl, hR, hb⟩
    obtain ⟨e0, e1, i0, i1, z2⟩ := two_cells hb.out HGX.out
    have HBB : Aside0 (Below w.heap.size w w1) := ⟨HBX.out.trans (hb.out.mono HBX.out.size)⟩
    go_wp2_with fail
    refine bodyPost_ret (v := .agg #[.bool (sg a), .slice A (lm a).length c]) (by rw [hsg.out]; simp [results, Try.results53, go_sem, *]) rfl ⟨A, c, rfl, ⟨?_⟩, ⟨((HBB.out.setCell (p := ⟨w.heap.size, 0, none⟩) (Nat.le_refl _) _).setCell (p := ⟨w.heap.size, 1, none⟩) (Nat.le_refl _) _)⟩⟩
    exact Kd.R_lower (R_far2 hR.out (by have := HZX.out; omega)) (by have := HZX.out; omega)
  · have hsg : Aside0 (sg a = false) := ⟨by unfold sg; exact decide_eq_false hn⟩
    have hw1 : IntKind.u64.wrap a = (x : Int) := by rw [IntKind.wrap_u64]; omega
    have hd : decide (a < 0) = false := decide_eq_false hn
    clear hx hxl
    go_enter Try.func53, Try.ntmps53
    go_wp2_with fail
    rw [HX.out]
    refine (NT.out X).mono ?_
    rintro e w1 ⟨A, c, rfl, hR, hb⟩
    obtain ⟨e0, e1, i0, i1, z2⟩ := two_cells hb.out HGX.out
    have HBB : Aside0 (Below w.heap.size w w1) := ⟨HBX.out.trans (hb.out.mono HBX.out.size)⟩
    go_wp2_with fail
    refine bodyPost_ret (v := .agg #[.bool (sg a), .slice A (lm a).length c]) (by rw [hsg.out]; simp [results, Try.results53, go_sem, *]) rfl ⟨A, c, rfl, ⟨?_⟩, ⟨((HBB.out.setCell (p := ⟨w.heap.size, 0, none⟩) (Nat.le_refl _) _).setCell (p := ⟨w.heap.size, 1, none⟩) (Nat.le_refl _) _)⟩⟩
    exact Kd.R_lower (R_far2 hR.out (by have := HZX.out; omega)) (by have := HZX.out; omega)
set_option maxRecDepth 100000 in
set_option maxHeartbeats 1000000 in
theorem of_c (a : Int) (h1 : -9223372036854775808 ≤ a) (h2 : a ≤ 9223372036854775807) (w : World) :
    Calls Try.prog 23 #[.int .i64 a] w fun e w' => ∃ A c, e = .returned (.agg #[.bool (sg a), .slice A (lm a).length c]) ∧ Aside0 (u64.R 50 w' w.heap.size (fun _ => True) (.slice A (lm a).length c) (lm a)) ∧ Aside0 (Below w.heap.size w w') := by
  have hu := Try.underlying25
  have NT := Lib.hid (fun W => intOf_c a h1 h2 W)
  obtain ⟨X, hX⟩ : ∃ X, w.alloc (.cells #[.bool false, .slice none 0 0] 25) = X := ⟨_, rfl⟩
  have HBX : Aside0 (Below w.heap.size w X) := ⟨by rw [← hX]; exact (Below.refl _ _).alloc (Nat.le_refl _) _⟩
  have HGX : Aside0 (X.heap[w.heap.size]? = some (.cells #[.bool false, .slice none 0 0] 25 (0, 0))) := ⟨by rw [← hX]; exact heap_alloc_new w _⟩
  have hzx : X.heap.size = w.heap.size + 1 := by rw [← hX]; simp
  have HZX := Aside0.mk hzx
  have HX := Aside0.mk hX
  clear hX hzx
  go_enter Try.func23, Try.ntmps23
  go_wp2_with fail
  rw [HX.out]
  refine (NT.out X).mono ?_
  rintro e w1 ⟨A, c, rfl, hR, hb⟩
  obtain ⟨e0, e1, i0, i1, z2⟩ := two_cells hb.out HGX.out
  have HBB : Aside0 (Below w.heap.size w w1) := ⟨HBX.out.trans (hb.out.mono HBX.out.size)⟩
  go_wp2_with fail
  refine bodyPost_ret (v := .agg #[.bool (sg a), .slice A (lm a).length c]) (by simp [results, Try.results23, go_sem, *]) rfl ⟨A, c, rfl, ⟨?_⟩, ⟨((HBB.out.setCell (p := ⟨w.heap.size, 0, none⟩) (Nat.le_refl _) _).setCell (p := ⟨w.heap.size, 1, none⟩) (Nat.le_refl _) _)⟩⟩
  exact Kd.R_lower (R_far2 hR.out (by have := HZX.out; omega)) (by have := HZX.out; omega)
theorem of_z (a : Int) (h1 : -9223372036854775808 ≤ a) (h2 : a ≤ 9223372036854775807) (w : World) : Calls Try.prog 23 #[.int .i64 a] w (OutI w a) :=
  (of_c a h1 h2 w).mono fun e w' ⟨A, c, he, hR, hb⟩ => ⟨A, c, he, ⟨⟨(Kd.R_reads' hR.out).2.1, (Kd.R_reads' hR.out).2.2⟩⟩, hb⟩
end Go.Proofs.Ytplignahjhenjaa.Lb
