/- limb: sums, differences and the order of numbers with no power of two. -/
import Derived.Test.YtlcjnahfahobjaaLbCp
namespace Go.Proofs.Ytlcjnahfahobjaa.Lb
open Go.RowKit Go.Proofs.YtlcjnahfahobjaaW.PrintWords Go.Proofs.YtlcjnahfahobjaaW.PrintLast Go.Proofs.YtlcjnahfahobjaaW.PrintMore
set_option linter.unusedVariables false
set_option linter.unusedSimpArgs false

theorem plus_w (s t : Bool) (a b : Nat) (ha : (toL a).length ≤ 4096000) (hb : (toL b).length ≤ 4096000) : ∃ σ n, vz σ n = vz s a + vz t b ∧ n ≤ a + b ∧
    ∀ (A1 A2 : Option Addr) (c1 c2 : Nat) (w : World), (toL a).length ≤ c1 → (toL b).length ≤ c2 → u64.C w A1 (toL a).length (toL a) → u64.C w A2 (toL b).length (toL b) →
      Calls Try.prog 49 #[.agg #[.bool s, .slice A1 (toL a).length c1, .int .i64 0], .agg #[.bool t, .slice A2 (toL b).length c2, .int .i64 0]] w (OutW A1 A2 (toL a) (toL b) w σ (toL n)) := by
  by_cases h : a = 0
  · subst h
    exact ⟨t, b, by rw [(vz_zero s 0).2 rfl]; omega, by omega, fun A1 A2 c1 c2 w h1 h2 r1 r2 => plus_a s t A1 A2 c1 c2 b h1 h2 hb w r1 r2⟩
  · by_cases h2 : b = 0
    · subst h2
      exact ⟨s, a, by rw [(vz_zero t 0).2 rfl]; omega, by omega, fun A1 A2 c1 c2 w h1 h2 r1 r2 => plus_b s t A1 A2 c1 c2 a h ha h1 h2 w r1 r2⟩
    · by_cases e : s = t
      · exact ⟨s, a + b, by subst e; cases s <;> simp [vz] <;> omega, Nat.le_refl _, fun A1 A2 c1 c2 w g1 g2 r1 r2 => plus_n s t A1 A2 c1 c2 a b h h2 ha hb e g1 g2 w r1 r2⟩
      · by_cases h3 : b ≤ a
        · exact ⟨s, a - b, by cases s <;> cases t <;> simp [vz] at e ⊢ <;> omega, by omega, fun A1 A2 c1 c2 w g1 g2 r1 r2 => plus_g s t A1 A2 c1 c2 a b h h2 ha hb (by simpa using e) h3 g1 g2 w r1 r2⟩
        · exact ⟨t, b - a, by cases s <;> cases t <;> simp [vz] at e ⊢ <;> omega, by omega, fun A1 A2 c1 c2 w g1 g2 r1 r2 => plus_l s t A1 A2 c1 c2 a b h h2 ha hb (by simpa using e) (by omega) g1 g2 w r1 r2⟩
set_option maxRecDepth 100000 in
set_option maxHeartbeats 1000000 in
theorem minus_w (s : Bool) (A : Option Addr) (n c : Nat) (w : World) :
    Calls Try.prog 63 #[.agg #[.bool s, .slice A n c, .int .i64 0]] w (OutP2 w (.agg #[.bool (!s), .slice A n c, .int .i64 0])) := by
  have hu := Try.underlying62
  have hus := Try.underlying22
  go_enter Try.func63, Try.ntmps63
  go_wp2
  exact bodyPost_ret (v := .agg #[.bool (!s), .slice A n c, .int .i64 0]) (by simp [results, Try.results63, go_sem]) rfl ⟨rfl, ⟨((Below.refl _ _).alloc (Nat.le_refl _) _).alloc (by simp) _⟩⟩
/-- What a difference comes to. -/
def OutX (w : World) (s : Bool) (R : List Int) (e : Ending) (w' : World) : Prop := ∃ A c, e = .returned (.agg #[.bool s, .slice A R.length c, .int .i64 0]) ∧ Aside0 (R.length ≤ c ∧ u64.C w' A R.length R) ∧ Aside0 (Below w.heap.size w w')
set_option maxRecDepth 100000 in
set_option maxHeartbeats 4000000 in
theorem less_w (s t : Bool) (a b : Nat) (ha : (toL a).length ≤ 4096000) (hb : (toL b).length ≤ 4096000) : ∃ σ n, vz σ n = vz s a - vz t b ∧ n ≤ a + b ∧
    ∀ (A1 A2 : Option Addr) (c1 c2 : Nat) (w : World), (toL a).length ≤ c1 → (toL b).length ≤ c2 → u64.C w A1 (toL a).length (toL a) → u64.C w A2 (toL b).length (toL b) →
      Calls Try.prog 50 #[.agg #[.bool s, .slice A1 (toL a).length c1, .int .i64 0], .agg #[.bool t, .slice A2 (toL b).length c2, .int .i64 0]] w (OutX w σ (toL n)) := by
  obtain ⟨σ, n, hv, hn, hP⟩ := plus_w s (!t) a b ha hb
  refine ⟨σ, n, by rw [hv, vz_neg]; omega, hn, fun A1 A2 c1 c2 w h1 h2 r1 r2 => ?_⟩
  have PP := Lib.hid hP
  clear hP hv hn
  have hu := Try.underlying62
  have hus := Try.underlying22
  have I0 := Aside0.mk (PlusI.start (s := s) (t := t) h1 h2 r1 r2)
  have RR := Aside0.mk (And.intro r1 r2)
  clear r1 r2
  obtain ⟨⟨⟨x0, x1, x2, xl⟩, y0, y1, y2, yl⟩, z0, z1, z2, f0, f1, f2, zl⟩ := I0.out.cells
  have ne1 : ¬ (w.heap.size = w.heap.size + 1 + 1) := by omega
  have ne2 : ¬ (w.heap.size + 1 + 1 = w.heap.size) := by omega
  go_enter Try.func50, Try.ntmps50
  go_upto_region 1 with fail
  obtain ⟨W, hW⟩ : ∃ W, (((w.alloc (.cells #[.bool s, .slice A1 (toL a).length c1, .int .i64 0] 62)).alloc (.cells #[.bool t, .slice A2 (toL b).length c2, .int .i64 0] 62)).alloc (.cells #[.bool false, .slice none 0 0, .int .i64 0] 62)) = W := ⟨_, rfl⟩
  rw [hW] at I0 x0 x1 x2 xl y0 y1 y2 yl z0 z1 z2 f0 f1 f2 zl ⊢
  clear hW
  go_region_held3 (fun w' => (w'.cell? ⟨w.heap.size, 0, none⟩ = some (.bool s) ∧ w'.cell? ⟨w.heap.size, 1, none⟩ = some (.slice A1 (toL a).length c1) ∧ w'.cell? ⟨w.heap.size, 2, none⟩ = some (.int .i64 0)) ∧ (w'.cell? ⟨w.heap.size + 1, 0, none⟩ = some (.bool t) ∧ w'.cell? ⟨w.heap.size + 1, 1, none⟩ = some (.slice A2 (toL b).length c2) ∧ w'.cell? ⟨w.heap.size + 1, 2, none⟩ = some (.int .i64 0))) (go_keep) (first | (go_at_call 63; refine (minus_w t _ _ _ _).mono ?_; rintro e w3 ⟨rfl, b3⟩; have I3 := Aside0.mk (I0.out.drew.below b3.out); obtain ⟨⟨⟨x0', x1', x2', xl'⟩, y0', y1', y2', yl'⟩, z0', z1', z2', f0', f1', f2', zl'⟩ := I3.out.cells) | (go_at_call 49; refine (PP.out _ _ _ _ _ h1 h2 I3.out.va.row I3.out.vb.row).mono ?_; rintro e w4 ⟨A4, d4, rfl, R4, U4, b4⟩; have I4 := Aside0.mk (I3.out.below b4.out); obtain ⟨⟨⟨x0'', x1'', x2'', xl''⟩, y0'', y1'', y2'', yl''⟩, z0'', z1'', z2'', f0'', f1'', f2'', zl''⟩ := I4.out.cells))
  go_wp2_with fail
  have HF : ∀ u0 u1 u2 : Value, Below w.heap.size w (((w4.setCell ⟨w.heap.size + 2, 0, none⟩ u0).setCell ⟨w.heap.size + 2, 1, none⟩ u1).setCell ⟨w.heap.size + 2, 2, none⟩ u2) := fun _ _ _ => ((I4.out.b.setCell (Nat.le_add_right _ _) _).setCell (Nat.le_add_right _ _) _).setCell (Nat.le_add_right _ _) _
  refine bodyPost_ret (v := .agg #[.bool σ, .slice A4 (toL n).length d4, .int .i64 0]) (by simp [results, Try.results50, go_sem, z0'', z1'', z2'', f0'', f1'', f2'', zl'']) rfl ⟨A4, d4, rfl, ⟨R4.out.1, ?_⟩, ⟨HF _ _ _⟩⟩
  rcases U4.out with hv | hf
  · exact (V_rc (laid (w0 := w) hv zl' _ _ _)).2
  · exact hf _ (Kd.C_below RR.out.1 (HF _ _ _)) (Kd.C_below RR.out.2 (HF _ _ _))
theorem sign_t (s : Bool) (A : Option Addr) (c : Nat) (a : Nat) (v : Int) (hv : cmpZ (vz s a) 0 = v) (hc : (toL a).length ≤ c) (ha : (toL a).length ≤ 4096000) (w : World) (h : u64.C w A (toL a).length (toL a)) :
    Calls Try.prog 68 #[.agg #[.bool s, .slice A (toL a).length c, .int .i64 0]] w (OutP2 w (.int .i64 v)) := by
  subst hv
  exact (PD.rosetteref00_Num_Sign.calls 50000000 s A c (toL a) 0 _ w h hc (sign_f _ s a 0 ha (by omega))).mono fun e w' h => ⟨h.1, ⟨h.2⟩⟩
theorem top_t (s : Bool) (A : Option Addr) (c : Nat) (a : Nat) (v : Int) (hv : ((bitN a : Nat) : Int) = v) (hc : (toL a).length ≤ c) (ha : (toL a).length ≤ 4096000) (w : World) (h : u64.C w A (toL a).length (toL a)) :
    Calls Try.prog 69 #[.agg #[.bool s, .slice A (toL a).length c, .int .i64 0]] w (OutP2 w (.int .i64 v)) := by
  subst hv
  exact (PD.rosetteref00_Num_Top.calls 50000000 s A c (toL a) 0 _ w h hc (top_f _ s a ha (by omega))).mono fun e w' h => ⟨h.1, ⟨h.2⟩⟩
end Go.Proofs.Ytlcjnahfahobjaa.Lb
