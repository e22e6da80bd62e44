/- store: the reader's certificate. -/
import Derived.Test.YtoheamfnddfgkaaStJ
namespace Go.Proofs.Ytoheamfnddfgkaa.St
open Go.RowKit Go.Proofs.YtoheamfnddfgkaaW.PrintWords Go.Proofs.YtoheamfnddfgkaaW.PrintLast Go.Proofs.YtoheamfnddfgkaaW.PrintMore
set_option linter.unusedVariables false
set_option linter.unusedSimpArgs false

section
variable {w0 w w1 : World} {gb g : Nat} {s0 s1 s2 s3 s4 s5 : Value}
abbrev six (w : World) (gb : Nat) (s0 s1 s2 s3 s4 s5 : Value) : World := (((((w.setCell ⟨gb, 0, none⟩ s0).setCell ⟨gb, 1, none⟩ s1).setCell ⟨gb, 2, none⟩ s2).setCell ⟨gb, 3, none⟩ s3).setCell ⟨gb, 4, none⟩ s4).setCell ⟨gb, 5, none⟩ s5
theorem keep_six (h : KeepBut w w1 g none) (hg : w.heap.size ≤ gb) : KeepBut w (six w1 gb s0 s1 s2 s3 s4 s5) g none :=
  keep_far (p := ⟨gb, 5, none⟩) (keep_far (p := ⟨gb, 4, none⟩) (keep_far (p := ⟨gb, 3, none⟩) (keep_far (p := ⟨gb, 2, none⟩) (keep_far (p := ⟨gb, 1, none⟩) (keep_far (p := ⟨gb, 0, none⟩) h hg _) hg _) hg _) hg _) hg _) hg _
theorem blk_six {t : TypeId} {a0 a1 a2 a3 a4 a5 : Value} (s0 s1 s2 s3 s4 s5 : Value) (h : w.heap[gb]? = some (.cells #[a0, a1, a2, a3, a4, a5] t (0, 0))) : (six w gb s0 s1 s2 s3 s4 s5).heap[gb]? = some (.cells #[s0, s1, s2, s3, s4, s5] t (0, 0)) :=
  blk_put (blk_put (blk_put (blk_put (blk_put (blk_put h 0 s0 (by rfl)) 1 s1 (by rfl)) 2 s2 (by rfl)) 3 s3 (by rfl)) 4 s4 (by rfl)) 5 s5 (by rfl)
theorem below_six (h : Below w0.heap.size w0 w) (hg : w0.heap.size ≤ gb) : Below w0.heap.size w0 (six w gb s0 s1 s2 s3 s4 s5) := (((((h.setCell hg _).setCell hg _).setCell hg _).setCell hg _).setCell hg _).setCell hg _
theorem far_six {t : TypeId} {cs : Array Value} (h : w.heap[g]? = some (.cells cs t (0, 0))) (hg : g ≠ gb) : (six w gb s0 s1 s2 s3 s4 s5).heap[g]? = some (.cells cs t (0, 0)) :=
  blk_far (p := ⟨gb, 5, none⟩) (blk_far (p := ⟨gb, 4, none⟩) (blk_far (p := ⟨gb, 3, none⟩) (blk_far (p := ⟨gb, 2, none⟩) (blk_far (p := ⟨gb, 1, none⟩) (blk_far (p := ⟨gb, 0, none⟩) h hg _) hg _) hg _) hg _) hg _) hg _
theorem R_six {α : Type} {d : Kd α} {e base : Nat} {ok : Nat → Prop} {v : Value} {xs : List α} (h : d.R e w base ok v xs) (hg : ∀ k, ok k → k ≠ gb) : d.R e (six w gb s0 s1 s2 s3 s4 s5) base ok v xs :=
  Kd.R_far (p := ⟨gb, 5, none⟩) (Kd.R_far (p := ⟨gb, 4, none⟩) (Kd.R_far (p := ⟨gb, 3, none⟩) (Kd.R_far (p := ⟨gb, 2, none⟩) (Kd.R_far (p := ⟨gb, 1, none⟩) (Kd.R_far (p := ⟨gb, 0, none⟩) h hg _) hg _) hg _) hg _) hg _) hg _
end

def addP (d : Nat) (fs ps : List Int) : Except Nat ((List Int × List Int) × Nat) → Except Nat ((List Int × List Int) × Nat)
  | .error e => .error (d + e)
  | .ok ((f, p), k) => .ok ((fs ++ f, ps ++ p), d + k)
theorem pairs_zero (b : List Int) (d : Nat) (fs ps : List Int) : addP d fs ps (pairsS 0 b) = .ok ((fs, ps), d) := by simp [pairsS, addP]
theorem pairs_start (r : Except Nat ((List Int × List Int) × Nat)) : addP 0 [] [] r = r := by
  rcases r with e | ⟨⟨f, p⟩, k⟩ <;> simp [addP]
theorem pairs_err1 {b : List Int} (h : groupsS 2147483647 b = none) (m d : Nat) (fs ps : List Int) : addP d fs ps (pairsS (m + 1) b) = .error d := by
  simp [pairsS, h, addP]
theorem pairs_err2 {b : List Int} {f : Int} {k : Nat} (h : groupsS 2147483647 b = some (f, k)) (h2 : groupsS 2147483647 (b.drop k) = none) (m d : Nat) (fs ps : List Int) : addP d fs ps (pairsS (m + 1) b) = .error (d + k) := by
  simp [pairsS, h, h2, addP]
theorem pairs_ok {b : List Int} {f p : Int} {k k2 : Nat} (h : groupsS 2147483647 b = some (f, k)) (h2 : groupsS 2147483647 (b.drop k) = some (p, k2)) (m d : Nat) (fs ps : List Int) :
    addP d fs ps (pairsS (m + 1) b) = addP (d + k + k2) (fs ++ [f]) (ps ++ [p]) (pairsS m (b.drop (k + k2))) := by
  simp only [pairsS, h, h2]
  rcases pairsS m (b.drop (k + k2)) with e | ⟨⟨f', p'⟩, k'⟩ <;> simp [addP] <;> omega
theorem cert_e1 {b : List Int} (h : numS b = none) : certS b = .error 0 := by simp [certS, h]
theorem cert_e2 {b : List Int} {n : Bool × List Int} {k : Nat} (h : numS b = some (n, k)) (h2 : numS (b.drop k) = none) : certS b = .error k := by simp [certS, h, h2]
theorem cert_e3 {b : List Int} {n m : Bool × List Int} {k k2 : Nat} (h : numS b = some (n, k)) (h2 : numS (b.drop k) = some (m, k2)) (h3 : groupsS 64 (b.drop (k + k2)) = none) : certS b = .error (k + k2) := by simp [certS, h, h2, h3]
theorem cert_e4 {b : List Int} {n m : Bool × List Int} {k k2 k3 e : Nat} {q : Int} (h : numS b = some (n, k)) (h2 : numS (b.drop k) = some (m, k2)) (h3 : groupsS 64 (b.drop (k + k2)) = some (q, k3)) (h4 : pairsS q.toNat (b.drop (k + k2 + k3)) = .error e) : certS b = .error (k + k2 + k3 + e) := by simp [certS, h, h2, h3, h4]
theorem cert_ok {b : List Int} {n m : Bool × List Int} {k k2 k3 k4 : Nat} {q : Int} {fs ps : List Int} (h : numS b = some (n, k)) (h2 : numS (b.drop k) = some (m, k2)) (h3 : groupsS 64 (b.drop (k + k2)) = some (q, k3)) (h4 : pairsS q.toNat (b.drop (k + k2 + k3)) = .ok ((fs, ps), k4)) : certS b = .ok ((n, m, fs, ps), k + k2 + k3 + k4) := by simp [certS, h, h2, h3, h4]

set_option maxRecDepth 100000 in
set_option maxHeartbeats 4000000 in
theorem cert_c (w0 : World) (g : Nat) (A : Option Addr) (c : Nat) (b : List Int) (x : Nat) (w : World) (hr : RS w0 g A c b x w) (hx : x ≤ b.length) (ho : okB b) (hn : b.length ≤ 4611686018427387904) (hc : b.length ≤ c) :
    Calls Try.prog 49 #[.pointer (some ⟨g, 0, none⟩)] w (GivesC w0 g A c b x w (certS (b.drop x))) := by
  have HR := Aside0.mk hr
  have HO := Aside0.mk ho
  have hu := Try.underlying70
  have hu61 := Try.underlying61
  clear hr ho
  obtain ⟨Z, hZ⟩ : ∃ Z, certS (b.drop x) = Z := ⟨_, rfl⟩
  have HZ := Aside0.mk hZ
  rw [hZ]
  clear hZ
  go_enter Try.func49, Try.ntmps49
  go_wp2_with (first | ((with_reducible refine gate_dst (N := 2) rfl ?_); refine box_event ?hg (N := 2) ?hd (cs := #[.bool false, .slice none 0 0, .bool false, .slice none 0 0, .slice none 0 0, .slice none 0 0]) (t := 61) ?hr ?_; (case hd => rfl); (case hg => rfl); (case hr => first | (go_simp; done) | (go_simp; rfl)); intro gb hgb w1 hbox hb; have HR1 := Aside0.mk (HR.out.below hb); have HK1 := Aside0.mk (KeepBut.of_below hb g none); have HX1 := Aside0.mk hbox; have HGB := Aside0.mk hgb; clear hb hbox hgb))
  refine (number_c w0 g A c b x w1 HR1.out hx HO.out hn hc).mono ?_
  intro e w2 h2
  cases h : numS (b.drop x) with
  | none =>
    rw [h] at h2
    obtain ⟨rfl, ⟨y, hy⟩, hk⟩ := h2
    obtain rfl := HZ.out.symm.trans (cert_e1 h)
    exact ⟨rfl, givesC_error hy (HK1.out.trans hk.out (.inl rfl)) rfl⟩
  | some p =>
    obtain ⟨⟨s, l⟩, k⟩ := p
    rw [h] at h2
    obtain ⟨v, rfl, HV, HR2, HK2⟩ := h2
    go_wp2_with fail
    refine (number_c w0 g A c b (x + k) w2 HR2.out (by have := numS_len h; rw [List.length_drop] at this; omega) HO.out hn hc).mono ?_
    intro e w3 h3
    cases h' : numS (b.drop (x + k)) with
    | none =>
      rw [h'] at h3
      obtain ⟨rfl, ⟨y, hy⟩, hk⟩ := h3
      have h'' : numS ((b.drop x).drop k) = none := by rw [List.drop_drop]; exact h'
      obtain rfl := HZ.out.symm.trans (cert_e2 h h'')
      exact ⟨rfl, givesC_error hy ((HK1.out.trans HK2.out (.inl rfl)).trans hk.out (.inl rfl)) rfl⟩
    | some p =>
      obtain ⟨⟨s2, l2⟩, k2⟩ := p
      rw [h'] at h3
      obtain ⟨v2, rfl, HV2, HR3, HK3⟩ := h3
      have HG1 := Aside0.mk (show gb < w1.heap.size from blk_lt HX1.out)
      have HGB2 := Aside0.mk (HK2.out.blk HX1.out (by have := blk_lt HR.out.blk; have := HGB.out; omega) (by simp))
      have HGB3 := Aside0.mk (HK3.out.blk HGB2.out (by have := blk_lt HR.out.blk; have := HGB.out; omega) (by simp))
      have HVa := Aside0.mk (show Kd.R (Kd.int .u64) 58 w3 w0.heap.size (fun j => w1.heap.size ≤ j ∧ some j ≠ v2.ownBlock) v l from Kd.R_keep (Kd.R_mono (Kd.R_bound HV.out) (fun j hj => ⟨hj.1, fun e => by have := HV2.out.1 j e.symm; have := hj.2.2.1; omega⟩)) HK3.out (fun j hj => by have := blk_lt HR.out.blk; have := HK1.out.1; have := hj.1; omega))
      have HVb := Aside0.mk (show Kd.R (Kd.int .u64) 58 w3 w0.heap.size (fun j => w1.heap.size ≤ j ∧ some j ≠ v.ownBlock) v2 l2 from Kd.R_mono HV2.out (fun j hj => ⟨Nat.le_trans HK2.out.1 hj, fun e => by have := Kd.R_lt HV.out j e.symm; omega⟩))
      have HW3 := Aside0.mk ((HK1.out.trans HK2.out (.inl rfl)).trans HK3.out (.inl rfl))
      obtain ⟨A1, c1, e1⟩ := Kd.R_slice HV.out
      obtain ⟨n1, hn1⟩ : ∃ t, l.length = t := ⟨_, rfl⟩
      rw [hn1] at e1
      clear hn1
      subst e1
      obtain ⟨A2, c2, e2⟩ := Kd.R_slice HV2.out
      obtain ⟨n2, hn2⟩ : ∃ t, l2.length = t := ⟨_, rfl⟩
      rw [hn2] at e2
      clear hn2
      subst e2
      go_wp2_with (first | ((with_reducible refine gate_dst (N := 3) rfl ?_); refine box_event ?hg (N := 3) ?hd (cs := #[.bool false, .slice none 0 0, .bool false, .slice none 0 0, .slice none 0 0, .slice none 0 0]) (t := 61) ?hr ?_; (case hd => rfl); (case hg => rfl); (case hr => first | (go_simp; done) | (go_simp; rfl)); intro gx hgx w4 hbox hb; have HR4 := Aside0.mk (HR3.out.below hb); have HX4 := Aside0.mk hbox; have HGX := Aside0.mk hgx; have HB4 := Aside0.mk hb; clear hb hbox hgx; have cx0 := (blk_cell HX4.out 0).trans rfl; have cx1 := (blk_cell HX4.out 1).trans rfl; have cx2 := (blk_cell HX4.out 2).trans rfl; have cx3 := (blk_cell HX4.out 3).trans rfl; have cx4 := (blk_cell HX4.out 4).trans rfl; have cx5 := (blk_cell HX4.out 5).trans rfl; have fx0 := blk_frozen HX4.out 0; have fx1 := blk_frozen HX4.out 1; have fx2 := blk_frozen HX4.out 2; have fx3 := blk_frozen HX4.out 3; have fx4 := blk_frozen HX4.out 4; have fx5 := blk_frozen HX4.out 5))
      have k1 : gx = w3.heap.size := HGX.out
      have h3x : w3.heap.size ≤ gx := by omega
      have h0x : w0.heap.size ≤ gx := Nat.le_trans HR3.out.hb.size h3x
      have hgx : gx ≠ g := by have := blk_lt HR3.out.blk; omega
      clear k1
      obtain ⟨W5, hW5⟩ : ∃ W5, ((((((w4.setCell ⟨gx, 0, none⟩ (.bool s)).setCell ⟨gx, 1, none⟩ (.slice A1 n1 c1)).setCell ⟨gx, 2, none⟩ (.bool s2)).setCell ⟨gx, 3, none⟩ (.slice A2 n2 c2)).setCell ⟨gx, 4, none⟩ (.slice none 0 0)).setCell ⟨gx, 5, none⟩ (.slice none 0 0)) = W5 := ⟨_, rfl⟩
      have HK5 : Aside0 (KeepBut w3 W5 g none) := ⟨hW5 ▸ (keep_far (keep_far (keep_far (keep_far (keep_far (keep_far (KeepBut.of_below HB4.out g none) h3x _) h3x _) h3x _) h3x _) h3x _) h3x _)⟩
      have HB5 : Aside0 (Below w0.heap.size w0 W5) := ⟨hW5 ▸ ((((((HR4.out.hb.setCell h0x _).setCell h0x _).setCell h0x _).setCell h0x _).setCell h0x _).setCell h0x _)⟩
      have HG5 : Aside0 (W5.heap[g]? = some (.cells #[.slice A b.length c, .int .i64 ((x + k + k2 : Nat) : Int)] 70 (0, 0))) := ⟨hW5 ▸ (blk_far (blk_far (blk_far (blk_far (blk_far (blk_far HR4.out.blk hgx.symm _) hgx.symm _) hgx.symm _) hgx.symm _) hgx.symm _) hgx.symm _)⟩
      have HX5 : Aside0 (W5.heap[gx]? = some (.cells #[.bool s, .slice A1 n1 c1, .bool s2, .slice A2 n2 c2, .slice none 0 0, .slice none 0 0] 61 (0, 0))) := ⟨hW5 ▸ (blk_put (cs := #[.bool s, .slice A1 n1 c1, .bool s2, .slice A2 n2 c2, .slice none 0 0, .slice none 0 0]) (blk_put (cs := #[.bool s, .slice A1 n1 c1, .bool s2, .slice A2 n2 c2, .slice none 0 0, .slice none 0 0]) (blk_put (cs := #[.bool s, .slice A1 n1 c1, .bool s2, .slice none 0 0, .slice none 0 0, .slice none 0 0]) (blk_put (cs := #[.bool s, .slice A1 n1 c1, .bool false, .slice none 0 0, .slice none 0 0, .slice none 0 0]) (blk_put (cs := #[.bool s, .slice none 0 0, .bool false, .slice none 0 0, .slice none 0 0, .slice none 0 0]) (blk_put (cs := #[.bool false, .slice none 0 0, .bool false, .slice none 0 0, .slice none 0 0, .slice none 0 0]) HX4.out 0 _ rfl) 1 _ rfl) 2 _ rfl) 3 _ rfl) 4 _ rfl) 5 _ rfl)⟩
      have HR5 := Aside0.mk (HR3.out.keep HK5.out HB5.out HG5.out)
      rw [hW5]
      clear hW5 HX4 HR4 HB4 cx0 cx1 cx2 cx3 cx4 cx5 fx0 fx1 fx2 fx3 fx4 fx5
      have hl1 := numS_len h
      have hl2 := numS_len h'
      rw [List.length_drop] at hl1 hl2
      have hx3 : x + k + k2 ≤ b.length := by omega
      refine (groups_c w0 g A c b (x + k + k2) W5 64 HR5.out hx3 HO.out hn hc (by decide)).mono ?_
      intro e w6 h6
      cases h'' : groupsS 64 (b.drop (x + k + k2)) with
      | none =>
        rw [h''] at h6
        obtain ⟨rfl, ⟨y, hy⟩, hk⟩ := h6
        have g2 : numS ((b.drop x).drop k) = some ((s2, l2), k2) := by rw [List.drop_drop]; exact h'
        have g3 : groupsS 64 ((b.drop x).drop (k + k2)) = none := by rw [List.drop_drop, ← Nat.add_assoc]; exact h''
        obtain rfl := HZ.out.symm.trans (cert_e3 h g2 g3)
        exact ⟨rfl, givesC_error hy ((HW3.out.trans HK5.out (.inl rfl)).trans hk.out (.inl rfl)) (by omega)⟩
      | some p =>
        obtain ⟨q, k3⟩ := p
        rw [h''] at h6
        obtain ⟨rfl, HR6, HK6⟩ := h6
        go_wp2_with fail
        have hq := gr_val (l := b.drop (x + k + k2)) (by decide) (okB_drop HO.out _) h''
        obtain ⟨Q, rfl⟩ : ∃ Q : Nat, q = (Q : Int) := ⟨q.toNat, by omega⟩
        have hQ : Q ≤ 64 := by omega
        have hl3 := (gr_len h'').2.1
        rw [List.length_drop] at hl3
        have hx4 : x + k + k2 + k3 ≤ b.length := by omega
        have HX6 := Aside0.mk (HK6.out.blk HX5.out hgx (by simp))
        have g2 : numS ((b.drop x).drop k) = some ((s2, l2), k2) := by rw [List.drop_drop]; exact h'
        have g3 : groupsS 64 ((b.drop x).drop (k + k2)) = some ((Q : Int), k3) := by rw [List.drop_drop, ← Nat.add_assoc]; exact h''
        have g4 : (b.drop x).drop (k + k2 + k3) = b.drop (x + k + k2 + k3) := by rw [List.drop_drop]; congr 1; omega
        have HZe : Aside0 (∀ e, pairsS Q (b.drop (x + k + k2 + k3)) = .error e → Z = .error (k + k2 + k3 + e)) := ⟨fun e he => HZ.out.symm.trans (cert_e4 h g2 g3 (by rw [g4]; simpa using he))⟩
        have HZo : Aside0 (∀ fs ps k4, pairsS Q (b.drop (x + k + k2 + k3)) = .ok ((fs, ps), k4) → Z = .ok (((s, l), (s2, l2), fs, ps), k + k2 + k3 + k4)) := ⟨fun fs ps k4 he => HZ.out.symm.trans (cert_ok h g2 g3 (by rw [g4]; simpa using he))⟩
        obtain ⟨X0, hX0⟩ : ∃ X0, x + k + k2 + k3 = X0 := ⟨_, rfl⟩
        have HX0 := Aside0.mk hX0
        rw [hX0] at HZe HZo HR6 hx4
        have HCB := Aside0.mk (CB.mk (w0 := w0) (w3 := w3) (g := g) (A := A) (c := c) (b := b) (gx := gx) (m := w6.heap.size) ⟨_, HR3.out⟩ h3x (blk_lt HX6.out))
        have HCL := Aside0.mk (CL.mk (n1 := s) (v1 := .slice A1 n1 c1) (n2 := s2) (v2 := .slice A2 n2 c2) (fs := []) (ps := []) (m := w6.heap.size) HR6.out (HK5.out.trans HK6.out (.inl rfl)) HX6.out (Kd.R_nil _ _ _ _ _) (Kd.R_nil _ _ _ _ _))
        clear hX0 g2 g3 g4 hl1 hl2 hl3 hx3 h h' h'' hgx h0x HZ HR3 HR5 HR6 HK5 HK6 HX5 HX6 HG5 HB5 HGX
        go_loopw [11] (fun v11 wr => ∃ (i y d : Nat) (fs ps : List Int) (u1 u2 : Value), v11 = .int .i64 (i : Int) ∧ i ≤ Q ∧ Aside0 (y = X0 + d) ∧ y ≤ b.length ∧ Aside0 (fs.length = i) ∧ Aside0 (ps.length = i) ∧ Aside0 (pairsS Q (b.drop X0) = addP d fs ps (pairsS (Q - i) (b.drop y))) ∧ Aside0 (CL w0 w3 g A c b gx w6.heap.size s s2 (.slice A1 n1 c1) (.slice A2 n2 c2) y fs ps u1 u2 wr) ∧ Aside0 (w6.heap.size ≤ wr.heap.size)) (fun v11 _ => Q - (intOf v11).toNat)
        case atStart => exact ⟨0, X0, 0, [], [], .slice none 0 0, .slice none 0 0, rfl, Nat.zero_le _, ⟨rfl⟩, hx4, ⟨rfl⟩, ⟨rfl⟩, ⟨(pairs_start _).symm⟩, HCL, ⟨Nat.le_refl _⟩⟩
        case round =>
          clear HCL
          obtain ⟨i, y, d, fs, ps, u1, u2, rfl, hi, HY, hy, HF, HP, HPS, HCL, HWS⟩ := hrel
          by_cases hiq : i = Q
          · subst hiq
            have hps := HPS.out
            rw [Nat.sub_self, pairs_zero] at hps
            obtain rfl := HZo.out _ _ _ hps
            clear hps
            have HGB4 := Aside0.mk (HCL.out.kp.blk HGB3.out (by have := blk_lt HR.out.blk; have := HGB.out; omega) (by simp))
            have cx0 := (blk_cell HCL.out.bx 0).trans rfl
            have cx1 := (blk_cell HCL.out.bx 1).trans rfl
            have cx2 := (blk_cell HCL.out.bx 2).trans rfl
            have cx3 := (blk_cell HCL.out.bx 3).trans rfl
            have cx4 := (blk_cell HCL.out.bx 4).trans rfl
            have cx5 := (blk_cell HCL.out.bx 5).trans rfl
            have cg0 := (blk_cell HGB4.out 0).trans rfl
            have cg1 := (blk_cell HGB4.out 1).trans rfl
            have cg2 := (blk_cell HGB4.out 2).trans rfl
            have cg3 := (blk_cell HGB4.out 3).trans rfl
            have cg4 := (blk_cell HGB4.out 4).trans rfl
            have cg5 := (blk_cell HGB4.out 5).trans rfl
            have fg0 := blk_frozen HGB4.out 0
            have fg1 := blk_frozen HGB4.out 1
            have fg2 := blk_frozen HGB4.out 2
            have fg3 := blk_frozen HGB4.out 3
            have fg4 := blk_frozen HGB4.out 4
            have fg5 := blk_frozen HGB4.out 5
            have HC0 := HCL
            obtain ⟨B1, d1, e1⟩ := Kd.R_slice HCL.out.r1
            obtain ⟨B2, d2, e2⟩ := Kd.R_slice HCL.out.r2
            obtain ⟨m1, hm1⟩ : ∃ t, fs.length = t := ⟨_, rfl⟩
            obtain ⟨m2, hm2⟩ : ∃ t, ps.length = t := ⟨_, rfl⟩
            rw [hm1] at e1
            rw [hm2] at e2
            clear hm1 hm2
            subst e1 e2
            go_wp2
            have hgW : w.heap.size ≤ gb := by have := HGB.out; omega
            have hg1 := HG1.out
            have hg0 : w0.heap.size ≤ gb := Nat.le_trans HR.out.hb.size hgW
            have hgg : gb ≠ g := by have := blk_lt HR.out.blk; omega
            have hk13 := Nat.le_trans HK2.out.1 HK3.out.1
            have h36 : w3.heap.size ≤ w6.heap.size := by have := HCB.out.hx; have := HCB.out.hm; omega
            have hK9 := keep_six (s0 := .bool s) (s1 := .slice A1 n1 c1) (s2 := .bool s2) (s3 := .slice A2 n2 c2) (s4 := .slice B1 m1 d1) (s5 := .slice B2 m2 d2) (HW3.out.trans HC0.out.kp (.inl rfl)) hgW
            have hY9 := blk_six (.bool s) (.slice A1 n1 c1) (.bool s2) (.slice A2 n2 c2) (.slice B1 m1 d1) (.slice B2 m2 d2) HGB4.out
            refine bodyPost_ret (results_cell_row rfl _ _ gb 61 #[.bool s, .slice A1 n1 c1, .bool s2, .slice A2 n2 c2, .slice B1 m1 d1, .slice B2 m2 d2] (0, 0) _ rfl hY9 Try.underlying61 rfl (by kernel_rfl)) rfl ?_
            refine ⟨_, _, _, _, rfl, ⟨Kd.R_mono (R_six (Kd.R_keep HVa.out HC0.out.kp (fun j hj => by have := blk_lt HR.out.blk; have := hj.1; omega)) (fun j hj => by have := hj.1; omega)) (fun j hj => ⟨by have := hj.1; omega, hj.2⟩)⟩, ⟨Kd.R_mono (R_six (Kd.R_keep HVb.out HC0.out.kp (fun j hj => by have := blk_lt HR.out.blk; have := hj.1; omega)) (fun j hj => by have := hj.1; omega)) (fun j hj => ⟨by have := hj.1; omega, hj.2⟩)⟩, ⟨Kd.R_mono (R_six HC0.out.r1 (fun j hj => by have := hj.1; omega)) (fun j hj => ⟨by have := hj.1; omega, hj.2⟩)⟩, ⟨Kd.R_mono (R_six HC0.out.r2 (fun j hj => by have := hj.1; omega)) (fun j hj => ⟨by have := hj.1; omega, hj.2⟩)⟩, ⟨?_⟩, ⟨hK9⟩⟩
            have hXY : x + (k + k2 + k3 + d) = y := by have := HY.out; have := HX0.out; omega
            rw [hXY]
            exact HR.out.keep hK9 (below_six HC0.out.rs.hb hg0) (far_six HC0.out.rs.blk hgg.symm)
          · have g1 : i < Q := by omega
            obtain ⟨M, hM⟩ : ∃ M, Q - i = M + 1 := ⟨Q - i - 1, by omega⟩
            have HM := Aside0.mk hM
            rw [hM] at HPS
            clear hM
            obtain ⟨B1, d1, e1⟩ := Kd.R_slice HCL.out.r1
            obtain ⟨B2, d2, e2⟩ := Kd.R_slice HCL.out.r2
            obtain ⟨m1, hm1⟩ : ∃ t, fs.length = t := ⟨_, rfl⟩
            obtain ⟨m2, hm2⟩ : ∃ t, ps.length = t := ⟨_, rfl⟩
            rw [hm1] at e1
            rw [hm2] at e2
            have HF2 : Aside0 (m1 = i ∧ m2 = i) := ⟨hm1.symm.trans HF.out, hm2.symm.trans HP.out⟩
            clear hm1 hm2
            subst e1 e2
            have cx4 := (blk_cell HCL.out.bx 4).trans rfl
            have cx5 := (blk_cell HCL.out.bx 5).trans rfl
            have fx4 := blk_frozen HCL.out.bx 4
            have fx5 := blk_frozen HCL.out.bx 5
            go_wp2_with fail
            refine start_ (n := 8) (S := fun w' => w'.cell? ⟨gx, 4, none⟩ = some (.slice B1 m1 d1)) (ds := [7]) #[false, false, false, false, false, false, false, false] (by kernel_rfl) rfl rfl cx4 (fun hHeld => ?_)
            have HCD := Aside0.mk HCL.out.drew
            have HWD := Aside0.mk (show w6.heap.size ≤ wr.drew.heap.size from HWS.out)
            clear HCL HWS
            (try clear cx4 fx4)
            (try clear cx5 fx5)
            generalize wr.drew = WD4 at HCD HWD hHeld ⊢
            refine pure_ (i := 0) (N := some 13) (v := ?_) (a' := ?_) #[true, false, false, false, false, false, false, false] rfl rfl (by kernel_rfl) (fun _ _ _ h => h) (Or.inl ⟨by rfl, ?_⟩) ?_ ?_
            rotate_left
            · intro w'
              go_simp
              with_reducible rfl
            rotate_left
            · simp only [Act.put, List.setIfInBounds_toArray, List.set_cons_zero, List.set_cons_succ, i64_w, i32_w]
              rfl
            refine pure_ (i := 2) (N := some 15) (v := ?_) (a' := ?_) #[true, false, true, false, false, false, false, false] rfl rfl (by kernel_rfl) (fun _ _ _ h => h) (Or.inl ⟨by rfl, ?_⟩) ?_ ?_
            rotate_left
            · intro w'
              go_simp
              with_reducible rfl
            rotate_left
            · simp only [Act.put, List.setIfInBounds_toArray, List.set_cons_zero, List.set_cons_succ, i64_w, i32_w]
              rfl
            refine take_ (i := 1) (N := some 14) (v := ?_) (a' := ?_) #[true, true, true, false, false, false, false, false] rfl rfl (by kernel_rfl) (fun _ _ _ h => h) (Or.inl ⟨by rfl, ?_⟩) hHeld ?_ ?_
            rotate_left
            · intro w' s0
              go_simp
              with_reducible rfl
            rotate_left
            · simp only [Act.put, List.setIfInBounds_toArray, List.set_cons_zero, List.set_cons_succ, i64_w, i32_w]
              rfl
            refine one_ (i := 3) (N := some 16) #[true, true, true, true, false, false, false, false] rfl rfl (by kernel_rfl) (by decide) (fun K hK => ?_)
            cases hq4 : groupsS 2147483647 (b.drop (y)) with
            | none =>
              refine callp_ Try.func48 (by kernel_rfl) rfl #[.pointer (some ⟨g, 0, none⟩), .int .i64 2147483647] (by rfl) rfl (by (try simp only [List.map_toArray, List.map_cons, List.map_nil]); first | done | rfl) ?_
              refine (groups_c w0 g A c b (y) WD4 2147483647 HCD.out.rs hy HO.out hn hc (by decide)).mono ?_
              intro e w7 h7
              rw [hq4] at h7
              obtain ⟨rfl, ⟨yy, hyy⟩, hk7⟩ := h7
              refine ⟨_, rfl, ?_⟩
              obtain rfl := HZe.out _ (HPS.out.trans (pairs_err1 hq4 M d fs ps))
              exact ⟨rfl, givesC_error hyy ((HW3.out.trans HCD.out.kp (.inl rfl)).trans hk7.out (.inl rfl)) (by have := HY.out; have := HX0.out; omega)⟩
            | some p4 =>
              obtain ⟨f, k4⟩ := p4
              refine goes_ Try.func48 (by kernel_rfl) rfl #[.pointer (some ⟨g, 0, none⟩), .int .i64 2147483647] (by rfl) rfl rfl (by (try simp only [List.map_toArray, List.map_cons, List.map_nil]); first | done | rfl) ?_
              refine (groups_c w0 g A c b (y) WD4 2147483647 HCD.out.rs hy HO.out hn hc (by decide)).mono ?_
              intro e wc4 h7
              rw [hq4] at h7
              obtain ⟨rfl, hr7, hk7⟩ := h7
              refine ⟨_, rfl, ?_⟩
              have HCE := Aside0.mk (CL.call HCB.out HCD.out hk7.out hr7.out)
              have HWE := Aside0.mk (show w6.heap.size ≤ wc4.heap.size from Nat.le_trans HWD.out hk7.out.1)
              clear hk7 hr7 HCD HWD
              refine hK.out _ _ ((blk_cell HCE.out.bx 4).trans rfl) (fun hHeld => ?_)
              clear hK K
              refine norm_ (a' := ?_) ?_ ?_
              rotate_left
              · show Act.put _ (some 16) _ = _
                simp only [Act.put, List.setIfInBounds_toArray, List.set_cons_zero, List.set_cons_succ, i64_w, i32_w]
                rfl
              refine one_ (i := 4) (N := some 17) #[true, true, true, true, true, false, false, false] rfl rfl (by kernel_rfl) (by decide) (fun K hK => ?_)
              refine value_ (w1 := ?_) (v := ?_) (by rfl) rfl ?_ ?_
              rotate_left 2
              · go_simp
                constructor
                · rfl
                · rfl
              refine hK.out _ _ ((blk_cell (blk_alloc HCE.out.bx _) 4).trans rfl) (fun hHeld => ?_)
              clear hK K
              refine norm_ (a' := ?_) ?_ ?_
              rotate_left
              · show Act.put _ (some 17) _ = _
                simp only [Act.put, List.setIfInBounds_toArray, List.set_cons_zero, List.set_cons_succ, i64_w, i32_w]
                rfl
              refine one_ (i := 5) (N := some 18) #[true, true, true, true, true, true, false, false] rfl rfl (by kernel_rfl) (by decide) (fun K hK => ?_)
              refine Kd.R_append_step i64 (w0 := w0) w0.heap.size (by rfl) (.tmp 14) (.tmp 17) 59 3 (.int .i64 0) 8 rfl Try.underlying59 infoI rfl (by decide) (by omega) (.slice B1 m1 d1) fs f [.int .i64 f] _ (fun _ => False) rfl rfl rfl (fun _ hk => hk.elim) (HCE.out.fresh1 HCB.out HWE.out) HCE.out.r1 HCE.out.rs.hb HCE.out.rs.hb.size ?aL ?_
              (case aL => have := HF.out; omega)
              intro ux w8 hU hb8 hg8 hat8
              have HCF := Aside0.mk (CL.app1 HCB.out HCE.out hU hb8 hg8 hat8)
              have HWF := Aside0.mk (show w6.heap.size ≤ w8.heap.size from Nat.le_trans HWE.out hg8.size)
              have HXF := Aside0.mk (blk_grown HCE.out.bx hg8 (Kd.R_ne HCE.out.r1 HCE.out.bx (by decide)))
              obtain ⟨Bn1, dn1, en1⟩ := Kd.R_slice hU
              clear hU hb8 hg8 hat8 HCE HWE
              subst en1
              obtain ⟨mm1, hmm1⟩ : ∃ t, (fs ++ [f]).length = t := ⟨_, rfl⟩
              rw [hmm1] at HCF ⊢
              refine hK.out _ _ ((blk_cell HXF.out 4).trans rfl) (fun hHeld => ?_)
              clear hK K
              refine norm_ (a' := ?_) ?_ ?_
              rotate_left
              · show Act.put _ (some 18) _ = _
                simp only [Act.put, List.setIfInBounds_toArray, List.set_cons_zero, List.set_cons_succ, i64_w, i32_w]
                rfl
              refine pure_ (i := 6) (N := some 19) (v := ?_) (a' := ?_) #[true, true, true, true, true, true, true, false] rfl rfl (by kernel_rfl) (fun _ _ _ h => h) (Or.inl ⟨by rfl, ?_⟩) ?_ ?_
              rotate_left
              · intro w'
                go_simp
                with_reducible rfl
              rotate_left
              · simp only [Act.put, List.setIfInBounds_toArray, List.set_cons_zero, List.set_cons_succ, i64_w, i32_w]
                rfl
              refine last_ (i := 7) (N := none) #[true, true, true, true, true, true, true, true] rfl rfl (by kernel_rfl) (by decide) (fun K hK => ?_)
              have fz := blk_frozen HXF.out 4
              have cz := (blk_cell HXF.out 4).trans rfl
              refine skip_ (w1 := ?_) (by rfl) rfl ?_ ?_
              rotate_left
              · go_simp
                rfl
              refine hK.out _ _ ?_
              clear hK K fz cz HXF
              refine done_ (by kernel_rfl) ?_
              generalize hWF4 : w8.setCell _ _ = W4 at HCF ⊢
              have HWG := Aside0.mk (show w6.heap.size ≤ W4.heap.size from by rw [← hWF4]; simpa [World.setCell] using HWF.out)
              clear hWF4 HWF
              have hl4 := (gr_len hq4).2.1
              rw [List.length_drop] at hl4
              have hy2 : y + k4 ≤ b.length := by omega
              clear hHeld
              generalize hff : fs ++ [f] = fs2 at HCF hmm1
              have HFF := Aside0.mk hff
              have cx5 := (blk_cell HCF.out.bx 5).trans rfl
              have fx5 := blk_frozen HCF.out.bx 5
              have HCL := HCF
              have HWS := HWG
              clear HCF HWG
              go_wp2_with fail
              refine start_ (n := 8) (S := fun w' => w'.cell? ⟨gx, 5, none⟩ = some (.slice B2 m2 d2)) (ds := [7]) #[false, false, false, false, false, false, false, false] (by kernel_rfl) rfl rfl cx5 (fun hHeld => ?_)
              have HCD := Aside0.mk HCL.out.drew
              have HWD := Aside0.mk (show w6.heap.size ≤ W4.drew.heap.size from HWS.out)
              clear HCL HWS
              (try clear cx4 fx4)
              (try clear cx5 fx5)
              generalize W4.drew = WD5 at HCD HWD hHeld ⊢
              refine pure_ (i := 0) (N := some 20) (v := ?_) (a' := ?_) #[true, false, false, false, false, false, false, false] rfl rfl (by kernel_rfl) (fun _ _ _ h => h) (Or.inl ⟨by rfl, ?_⟩) ?_ ?_
              rotate_left
              · intro w'
                go_simp
                with_reducible rfl
              rotate_left
              · simp only [Act.put, List.setIfInBounds_toArray, List.set_cons_zero, List.set_cons_succ, i64_w, i32_w]
                rfl
              refine pure_ (i := 2) (N := some 22) (v := ?_) (a' := ?_) #[true, false, true, false, false, false, false, false] rfl rfl (by kernel_rfl) (fun _ _ _ h => h) (Or.inl ⟨by rfl, ?_⟩) ?_ ?_
              rotate_left
              · intro w'
                go_simp
                with_reducible rfl
              rotate_left
              · simp only [Act.put, List.setIfInBounds_toArray, List.set_cons_zero, List.set_cons_succ, i64_w, i32_w]
                rfl
              refine take_ (i := 1) (N := some 21) (v := ?_) (a' := ?_) #[true, true, true, false, false, false, false, false] rfl rfl (by kernel_rfl) (fun _ _ _ h => h) (Or.inl ⟨by rfl, ?_⟩) hHeld ?_ ?_
              rotate_left
              · intro w' s0
                go_simp
                with_reducible rfl
              rotate_left
              · simp only [Act.put, List.setIfInBounds_toArray, List.set_cons_zero, List.set_cons_succ, i64_w, i32_w]
                rfl
              refine one_ (i := 3) (N := some 23) #[true, true, true, true, false, false, false, false] rfl rfl (by kernel_rfl) (by decide) (fun K hK => ?_)
              cases hq5 : groupsS 2147483647 (b.drop (y + k4)) with
              | none =>
                refine callp_ Try.func48 (by kernel_rfl) rfl #[.pointer (some ⟨g, 0, none⟩), .int .i64 2147483647] (by rfl) rfl (by (try simp only [List.map_toArray, List.map_cons, List.map_nil]); first | done | rfl) ?_
                refine (groups_c w0 g A c b (y + k4) WD5 2147483647 HCD.out.rs hy2 HO.out hn hc (by decide)).mono ?_
                intro e w7 h7
                rw [hq5] at h7
                obtain ⟨rfl, ⟨yy, hyy⟩, hk7⟩ := h7
                refine ⟨_, rfl, ?_⟩
                have hq6 : groupsS 2147483647 ((b.drop y).drop k4) = none := by rw [List.drop_drop]; exact hq5
                obtain rfl := HZe.out _ (HPS.out.trans (pairs_err2 hq4 hq6 M d fs ps))
                exact ⟨rfl, givesC_error hyy ((HW3.out.trans HCD.out.kp (.inl rfl)).trans hk7.out (.inl rfl)) (by have := HY.out; have := HX0.out; omega)⟩
              | some p5 =>
                obtain ⟨p, k5⟩ := p5
                refine goes_ Try.func48 (by kernel_rfl) rfl #[.pointer (some ⟨g, 0, none⟩), .int .i64 2147483647] (by rfl) rfl rfl (by (try simp only [List.map_toArray, List.map_cons, List.map_nil]); first | done | rfl) ?_
                refine (groups_c w0 g A c b (y + k4) WD5 2147483647 HCD.out.rs hy2 HO.out hn hc (by decide)).mono ?_
                intro e wc5 h7
                rw [hq5] at h7
                obtain ⟨rfl, hr7, hk7⟩ := h7
                refine ⟨_, rfl, ?_⟩
                have HCE := Aside0.mk (CL.call HCB.out HCD.out hk7.out hr7.out)
                have HWE := Aside0.mk (show w6.heap.size ≤ wc5.heap.size from Nat.le_trans HWD.out hk7.out.1)
                clear hk7 hr7 HCD HWD
                refine hK.out _ _ ((blk_cell HCE.out.bx 5).trans rfl) (fun hHeld => ?_)
                clear hK K
                refine norm_ (a' := ?_) ?_ ?_
                rotate_left
                · show Act.put _ (some 23) _ = _
                  simp only [Act.put, List.setIfInBounds_toArray, List.set_cons_zero, List.set_cons_succ, i64_w, i32_w]
                  rfl
                refine one_ (i := 4) (N := some 24) #[true, true, true, true, true, false, false, false] rfl rfl (by kernel_rfl) (by decide) (fun K hK => ?_)
                refine value_ (w1 := ?_) (v := ?_) (by rfl) rfl ?_ ?_
                rotate_left 2
                · go_simp
                  constructor
                  · rfl
                  · rfl
                refine hK.out _ _ ((blk_cell (blk_alloc HCE.out.bx _) 5).trans rfl) (fun hHeld => ?_)
                clear hK K
                refine norm_ (a' := ?_) ?_ ?_
                rotate_left
                · show Act.put _ (some 24) _ = _
                  simp only [Act.put, List.setIfInBounds_toArray, List.set_cons_zero, List.set_cons_succ, i64_w, i32_w]
                  rfl
                refine one_ (i := 5) (N := some 25) #[true, true, true, true, true, true, false, false] rfl rfl (by kernel_rfl) (by decide) (fun K hK => ?_)
                refine Kd.R_append_step i64 (w0 := w0) w0.heap.size (by rfl) (.tmp 21) (.tmp 24) 59 3 (.int .i64 0) 8 rfl Try.underlying59 infoI rfl (by decide) (by omega) (.slice B2 m2 d2) ps p [.int .i64 p] _ (fun _ => False) rfl rfl rfl (fun _ hk => hk.elim) (HCE.out.fresh2 HCB.out HWE.out) HCE.out.r2 HCE.out.rs.hb HCE.out.rs.hb.size ?aL ?_
                (case aL => have := HP.out; omega)
                intro uy w8 hU hb8 hg8 hat8
                have HCF := Aside0.mk (CL.app2 HCB.out HCE.out hU hb8 hg8 hat8)
                have HWF := Aside0.mk (show w6.heap.size ≤ w8.heap.size from Nat.le_trans HWE.out hg8.size)
                have HXF := Aside0.mk (blk_grown HCE.out.bx hg8 (Kd.R_ne HCE.out.r2 HCE.out.bx (by decide)))
                obtain ⟨Bn2, dn2, en2⟩ := Kd.R_slice hU
                clear hU hb8 hg8 hat8 HCE HWE
                subst en2
                obtain ⟨mm2, hmm2⟩ : ∃ t, (ps ++ [p]).length = t := ⟨_, rfl⟩
                rw [hmm2] at HCF ⊢
                refine hK.out _ _ ((blk_cell HXF.out 5).trans rfl) (fun hHeld => ?_)
                clear hK K
                refine norm_ (a' := ?_) ?_ ?_
                rotate_left
                · show Act.put _ (some 25) _ = _
                  simp only [Act.put, List.setIfInBounds_toArray, List.set_cons_zero, List.set_cons_succ, i64_w, i32_w]
                  rfl
                refine pure_ (i := 6) (N := some 26) (v := ?_) (a' := ?_) #[true, true, true, true, true, true, true, false] rfl rfl (by kernel_rfl) (fun _ _ _ h => h) (Or.inl ⟨by rfl, ?_⟩) ?_ ?_
                rotate_left
                · intro w'
                  go_simp
                  with_reducible rfl
                rotate_left
                · simp only [Act.put, List.setIfInBounds_toArray, List.set_cons_zero, List.set_cons_succ, i64_w, i32_w]
                  rfl
                refine last_ (i := 7) (N := none) #[true, true, true, true, true, true, true, true] rfl rfl (by kernel_rfl) (by decide) (fun K hK => ?_)
                have fz := blk_frozen HXF.out 5
                have cz := (blk_cell HXF.out 5).trans rfl
                refine skip_ (w1 := ?_) (by rfl) rfl ?_ ?_
                rotate_left
                · go_simp
                  rfl
                refine hK.out _ _ ?_
                clear hK K fz cz HXF
                refine done_ (by kernel_rfl) ?_
                generalize hWF5 : w8.setCell _ _ = W5 at HCF ⊢
                have HWG := Aside0.mk (show w6.heap.size ≤ W5.heap.size from by rw [← hWF5]; simpa [World.setCell] using HWF.out)
                clear hWF5 HWF
                have hq6 : groupsS 2147483647 ((b.drop y).drop k4) = some (p, k5) := by rw [List.drop_drop]; exact hq5
                have HPS2 := Aside0.mk (HPS.out.trans (pairs_ok hq4 hq6 M d fs ps))
                rw [HFF.out, List.drop_drop] at HPS2
                have hl5 := (gr_len hq5).2.1
                rw [List.length_drop] at hl5
                obtain ⟨i1, hi1⟩ : ∃ i1, i + 1 = i1 := ⟨_, rfl⟩
                have HQM : Aside0 (Q - i1 = M) := ⟨by have := HM.out; omega⟩
                have hw1 : wrap64 ((i : Int) + 1) = (i1 : Int) := by unfold wrap64; omega
                have HI := Aside0.mk hi1
                have HY2 := Aside0.mk hy2
                have HL5 := Aside0.mk hl5
                clear hi1 hq6 hq5 hq4 hmm1 hmm2 hy2 hl5 hl4 hy
                clear hHeld
                go_wp2
                exact ⟨⟨i1, y + k4 + k5, d + k4 + k5, fs2, ps ++ [p], _, _, by simp [← HI.out], by have := HI.out; omega, ⟨by have := HY.out; omega⟩, by have := HL5.out; have := HY2.out; omega, ⟨by rw [← HFF.out, List.length_append, HF.out]; exact HI.out⟩, ⟨by rw [List.length_append, HP.out]; exact HI.out⟩, ⟨by rw [HQM.out, Nat.add_assoc y]; exact HPS2.out⟩, HCF, HWG⟩, by have := HI.out; simp [intOf]; omega⟩
end Go.Proofs.Ytoheamfnddfgkaa.St
