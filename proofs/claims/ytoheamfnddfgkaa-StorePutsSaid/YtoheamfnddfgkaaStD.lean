/- store: the reader's number. -/
import Derived.Test.YtoheamfnddfgkaaStC
namespace Go.Proofs.Ytoheamfnddfgkaa.St
open Go.RowKit Go.Proofs.YtoheamfnddfgkaaW.PrintWords Go.Proofs.YtoheamfnddfgkaaW.PrintLast Go.Proofs.YtoheamfnddfgkaaW.PrintMore
set_option linter.unusedVariables false
set_option linter.unusedSimpArgs false

theorem RS.below {w0 w w1 : World} {g : Nat} {A : Option Addr} {c : Nat} {b : List Int} {x : Nat} (h : RS w0 g A c b x w) (hb : Below w.heap.size w w1) : RS w0 g A c b x w1 :=
  h.keep (KeepBut.of_below hb g none) (below_step h.hb hb) ((hb.block g (blk_lt h.blk)).trans h.blk)
theorem infoU : (Try.prog.info? 58).map (fun i => (i.zero, i.size, i.bytes)) = some (some (.int .u64 0), 1, 8) := by kernel_rfl
theorem keepRow {w W w1 : World} {g : Nat} {row : Option Nat} (h : KeepBut w W g none) (hg : W.grownBy w1 row) (hr : ∀ k, row = some k → w.heap.size ≤ k) : KeepBut w w1 g none :=
  h.trans (KeepBut.of_grown hg g) (by
    cases row with
    | none => exact .inl rfl
    | some k => exact .inr ⟨k, rfl, hr k rfl⟩)
/-- What comes of a reader's number. -/
def GivesN (w0 : World) (g : Nat) (A : Option Addr) (c : Nat) (b : List Int) (x : Nat) (w : World) (r : Option ((Bool × List Int) × Nat)) (e : Ending) (w' : World) : Prop :=
  match r with
  | some ((s, l), k) => ∃ v, e = .returned (.agg #[.bool s, v]) ∧ Aside0 (Kd.R (Kd.int .u64) 58 w' w0.heap.size (fun k => w.heap.size ≤ k) v l) ∧ Aside0 (RS w0 g A c b (x + k) w') ∧ Aside0 (KeepBut w w' g none)
  | none => e = .panicked [{ v := .iface 79 (.int .i64 (x : Int)), recovered := false }] ∧ (∃ y, RS w0 g A c b y w') ∧ Aside0 (KeepBut w w' g none)
theorem givesN_none {w0 : World} {g : Nat} {A : Option Addr} {c : Nat} {b : List Int} {x y : Nat} {w w' : World} (h : RS w0 g A c b y w') (hk : KeepBut w w' g none) : GivesN w0 g A c b x w none (.panicked [{ v := .iface 79 (.int .i64 (x : Int)), recovered := false }]) w' := ⟨rfl, ⟨y, h⟩, ⟨hk⟩⟩

set_option maxRecDepth 100000 in
set_option maxHeartbeats 4000000 in
theorem number_c (w0 : World) (g : Nat) (A : Option Addr) (c : Nat) (b : List Int) (x : Nat) (w : World) (hr : RS w0 g A c b x w) (hx : x ≤ b.length) (ho : okB b) (hn : b.length ≤ 4611686018427387904) (hc : b.length ≤ c) :
    Calls Try.prog 44 #[.pointer (some ⟨g, 0, none⟩)] w (GivesN w0 g A c b x w (numS (b.drop x))) := by
  have HR := Aside0.mk hr
  have HO := Aside0.mk ho
  have hu := Try.underlying70
  have hu24 := Try.underlying24
  clear hr ho
  obtain ⟨Z, hZ⟩ : ∃ Z, numS (b.drop x) = Z := ⟨_, rfl⟩
  have HZ := Aside0.mk hZ
  rw [hZ]
  clear hZ
  obtain ⟨c0, c1, f0, f1⟩ := HR.out.cells
  go_enter Try.func44, Try.ntmps44
  go_wp2_with (first | ((with_reducible refine gate_dst (N := 2) rfl ?_); refine box_event ?hg (N := 2) ?hd (cs := #[.bool false, .slice none 0 0]) (t := 24) ?hr ?_; (case hd => rfl); (case hg => rfl); (case hr => first | (go_simp; done) | (go_simp; rfl)); intro gb hgb w1 hbox hb; have HR1 := Aside0.mk (HR.out.below hb); have HK1 := Aside0.mk (KeepBut.of_below hb g none); have HX1 := Aside0.mk hbox; have HGB := Aside0.mk hgb; clear hb hbox hgb; obtain ⟨c0, c1, f0, f1⟩ := HR1.out.cells))
  refine (groups_c w0 g A c b x _ 8193 HR1.out hx HO.out hn hc (by decide)).mono ?_
  intro e w2 h2
  obtain ⟨G, hG⟩ : ∃ G, groupsS 8193 (b.drop x) = G := ⟨_, rfl⟩
  have HG := Aside0.mk hG
  rw [hG] at h2
  clear hG
  cases G with
  | none =>
    obtain ⟨rfl, ⟨y, hy⟩, hk⟩ := h2
    have hz : Z = none := by rw [← HZ.out]; unfold numS; rw [HG.out]
    subst hz
    exact ⟨rfl, givesN_none hy (HK1.out.trans hk.out (.inl rfl))⟩
  | some p =>
    obtain ⟨v, k⟩ := p
    obtain ⟨rfl, HR2, hk2⟩ := h2
    have HK2 := Aside0.mk (HK1.out.trans hk2.out (.inl rfl))
    have HGG : Aside0 (gb ≠ g) := ⟨by have := blk_lt HR.out.blk; have := HGB.out; omega⟩
    have HX2 := Aside0.mk (hk2.out.blk HX1.out HGG.out (by simp))
    clear hk2
    have hv := gr_val (l := b.drop x) (by decide) (okB_drop HO.out x) HG.out
    have hk := (gr_len HG.out).2.1
    rw [List.length_drop] at hk
    obtain ⟨n, rfl⟩ : ∃ n : Nat, v = (n : Int) := ⟨v.toNat, by omega⟩
    have hn1 : n ≤ 8193 := by omega
    obtain ⟨q, hq⟩ : ∃ q, n / 2 = q := ⟨_, rfl⟩
    have hq1 : wrap64 (Int.tdiv (n : Int) 2) = (q : Int) := by rw [← hq, Int.tdiv_eq_ediv_of_nonneg (by omega)]; unfold wrap64; omega
    have hq2 : (n : Int) / 2 = (q : Int) := by omega
    have hq3 : Int.tdiv (n : Int) 2 = (q : Int) := by rw [Int.tdiv_eq_ediv_of_nonneg (by omega)]; exact hq2
    have hA1 := and1 n (by omega)
    obtain ⟨N, hN⟩ : ∃ N, q * 8 = N := ⟨_, rfl⟩
    have hN1 : (q : Int) * 8 = (N : Int) := by omega
    have hN2 : N ≤ 32768 := by omega
    have hxk : x + k ≤ b.length := by omega
    have HQ := Aside0.mk hq
    have HN := Aside0.mk hN
    clear hq hk hv hN
    go_wp2_with fail
    refine (take_c w0 g A c b (x + k) N w2 (x : Int) HR2.out hxk hn hc (by omega)).mono ?_
    intro e w3 h3
    unfold Takes at h3
    by_cases hlt : b.length < x + k + N
    · rw [if_pos hlt] at h3
      obtain ⟨rfl, ⟨y, hy⟩, hk⟩ := h3
      have hz : Z = none := by
        rw [← HZ.out]
        unfold numS
        rw [HG.out]
        simp only [Int.toNat_natCast, HQ.out, HN.out]
        rw [if_pos (by rw [List.length_drop]; omega)]
      subst hz
      exact ⟨rfl, givesN_none hy (HK2.out.trans hk.out (.inl rfl))⟩
    · rw [if_neg hlt] at h3
      obtain ⟨A', rfl, HL, HR3, HK3⟩ := h3
      obtain ⟨s, hs⟩ : ∃ s, (n % 2 == 1) = s := ⟨_, rfl⟩
      have hs1 : ((n : Int) % 2 == 1) = s := by rw [← hs, show (n : Int) % 2 = ((n % 2 : Nat) : Int) by omega]; rcases Nat.mod_two_eq_zero_or_one n with h | h <;> simp [h]
      obtain ⟨L, hL⟩ : ∃ L, words q ((b.drop (x + k)).take N) = L := ⟨_, rfl⟩
      have HZ2 : Aside0 ((if rightB s L = true then some ((s, L), k + N) else none) = Z) := ⟨by
        rw [← HZ.out]
        unfold numS
        rw [HG.out]
        simp only [Int.toNat_natCast, HQ.out, HN.out]
        rw [if_neg (show ¬ ((b.drop x).length < k + N) by rw [List.length_drop]; omega), hs, List.drop_drop, hL]⟩
      have HLL := Aside0.mk hL
      have HNL : Aside0 (((b.drop (x + k)).take N).length = N) := ⟨by rw [List.length_take, List.length_drop]; omega⟩
      have HOL : Aside0 (okB ((b.drop (x + k)).take N)) := ⟨okB_take (okB_drop HO.out _) _⟩
      clear hL hs hlt
      go_wp2_with (first | ((with_reducible refine gate_dst (N := 6) rfl ?_); refine box_event ?hg (N := 6) ?hd (cs := #[.bool false, .slice none 0 0]) (t := 24) ?hr ?_; (case hd => rfl); (case hg => rfl); (case hr => first | (go_simp; done) | (go_simp; rfl)); intro gx hgx w4 hbox hb; have HR4 := Aside0.mk (HR3.out.below hb); have HK4 := Aside0.mk (KeepBut.of_below hb g none); have HB4 := Aside0.mk (below_step HR3.out.hb hb); have HX4 := Aside0.mk hbox; have HGX := Aside0.mk hgx; clear hb hbox hgx; have cx0 := (blk_cell HX4.out 0).trans rfl; have cx1 := (blk_cell HX4.out 1).trans rfl; have fx0 := blk_frozen HX4.out 0; have fx1 := blk_frozen HX4.out 1))
      have HG3 : Aside0 (w3.heap.size ≤ gx) := ⟨by rw [HGX.out]; exact Nat.le_refl _⟩
      have HG0 : Aside0 (w0.heap.size ≤ gx) := ⟨Nat.le_trans HR3.out.hb.size HG3.out⟩
      have HNG : Aside0 (gx ≠ g) := ⟨by have := blk_lt HR3.out.blk; have := HG3.out; omega⟩
      go_loopw [5] (fun v5 wr => ∃ (m M : Nat) (ly : List Int) (Ay : Option Addr) (xs : List Int) (u : Value), v5 = .slice Ay M M ∧ Aside0 (M = 8 * m) ∧ M ≤ 32768 ∧ Aside0 (ly.length = M) ∧ Aside0 (okB ly) ∧ Aside0 (∀ W, KeepBut w3 W g none → u8.C W Ay ly.length ly) ∧ Aside0 (xs ++ words m ly = L) ∧ Aside0 (Kd.R (Kd.int .u64) 58 wr w0.heap.size (fun k => w3.heap.size ≤ k) u xs) ∧ Aside0 (wr.heap[gx]? = some (.cells #[.bool s, u] 24 (0, 0))) ∧ Aside0 (wr.heap[g]? = some (.cells #[.slice A b.length c, .int .i64 ((x + k + N : Nat) : Int)] 70 (0, 0))) ∧ Aside0 (Below w0.heap.size w0 wr) ∧ Aside0 (KeepBut w3 wr g none)) (fun v5 _ => match v5 with | .slice _ n _ => n | _ => 0)
      case atStart => exact ⟨q, N, _, A', [], .slice none 0 0, rfl, ⟨by have := HN.out; omega⟩, hN2, HNL, HOL, ⟨by rw [HNL.out]; exact HL.out⟩, ⟨HLL.out⟩, ⟨Kd.R_nil _ _ _ _ _⟩, ⟨blk_put (cs := #[.bool s, .slice none 0 0]) (blk_put (cs := #[.bool false, .slice none 0 0]) HX4.out 0 _ rfl) 1 _ rfl⟩, ⟨blk_far (blk_far HR4.out.blk HNG.out.symm _) HNG.out.symm _⟩, ⟨(HB4.out.setCell HG0.out _).setCell HG0.out _⟩, ⟨keep_far (keep_far HK4.out HG3.out _) HG3.out _⟩⟩
      case round =>
        obtain ⟨m, M, ly, Ay, xs, u, rfl, HM, hM, HLY, HOY, HCY, HXS, HRX, HBX, HBG, HBW, HKW⟩ := hrel
        clear HX4 HK4 HB4 HR4
        by_cases hm0 : M = 0
        · have hxl : xs = L := by
            have h0 : m = 0 := by have := HM.out; omega
            have h := HXS.out
            rw [h0] at h
            simpa [words] using h
          subst hxl
          subst hm0
          obtain ⟨Au, cu, eu⟩ := Kd.R_slice HRX.out
          subst eu
          have cx0 := (blk_cell HBX.out 0).trans rfl
          have cx1 := (blk_cell HBX.out 1).trans rfl
          go_wp2_with fail
          refine (right_c s Au cu xs _ (Kd.R_reads' HRX.out).2.2 (Kd.R_reads' HRX.out).2.1).mono ?_
          rintro e w7 ⟨rfl, hb7⟩
          have HK7 := Aside0.mk (HKW.out.trans (KeepBut.of_below hb7 g none) (.inl rfl))
          have HK27 := Aside0.mk (HK3.out.trans HK7.out (.inl rfl))
          have HKw7 := Aside0.mk (HK2.out.trans HK27.out (.inl rfl))
          have HR7 := Aside0.mk (HR3.out.keep HK7.out (below_step HBW.out hb7) ((hb7.block g (blk_lt HBG.out)).trans HBG.out))
          have HX7 := Aside0.mk ((hb7.block gx (blk_lt HBX.out)).trans HBX.out)
          have HY7 := Aside0.mk (HK27.out.blk HX2.out HGG.out (by simp))
          have HRX7 := Aside0.mk (Kd.R_below HRX.out hb7)
          clear hb7 cx0 cx1
          have cx0 := (blk_cell HX7.out 0).trans rfl
          have cx1 := (blk_cell HX7.out 1).trans rfl
          have cb0 := (blk_cell HY7.out 0).trans rfl
          have cb1 := (blk_cell HY7.out 1).trans rfl
          have fb0 := blk_frozen HY7.out 0
          have fb1 := blk_frozen HY7.out 1
          by_cases hR : rightB s xs = true
          · have hz := HZ2.out
            rw [if_pos hR] at hz
            subst hz
            have HGB3 : Aside0 (∀ k, w3.heap.size ≤ k → k ≠ gb) := ⟨fun k hk => by have := blk_lt HX2.out; have := HK3.out.1; omega⟩
            have HGBw : Aside0 (w.heap.size ≤ gb) := ⟨by rw [HGB.out]; exact Nat.le_refl _⟩
            have HGB0 : Aside0 (w0.heap.size ≤ gb) := ⟨Nat.le_trans HR.out.hb.size HGBw.out⟩
            have HW3 : Aside0 (w.heap.size ≤ w3.heap.size) := ⟨Nat.le_trans HK2.out.1 HK3.out.1⟩
            go_wp2_with fail
            have hK9 : KeepBut w ((w7.setCell ⟨gb, 0, none⟩ (.bool s)).setCell ⟨gb, 1, none⟩ (.slice Au xs.length cu)) g none := keep_far (keep_far HKw7.out HGBw.out _) HGBw.out _
            have hY9 := blk_put (cs := #[.bool s, .slice none 0 0]) (blk_put (cs := #[.bool false, .slice none 0 0]) HY7.out 0 (.bool s) rfl) 1 (.slice Au xs.length cu) rfl
            have hB9 : Below w0.heap.size w0 ((w7.setCell ⟨gb, 0, none⟩ (.bool s)).setCell ⟨gb, 1, none⟩ (.slice Au xs.length cu)) := (HR7.out.hb.setCell HGB0.out _).setCell HGB0.out _
            have hG9 := blk_far (blk_far HR7.out.blk (p := ⟨gb, 0, none⟩) HGG.out.symm (.bool s)) (p := ⟨gb, 1, none⟩) HGG.out.symm (.slice Au xs.length cu)
            refine bodyPost_ret (results_cell_row rfl _ _ gb 24 #[.bool s, .slice Au xs.length cu] (0, 0) _ rfl hY9 Try.underlying24 rfl (by kernel_rfl)) rfl ?_
            exact ⟨_, rfl, ⟨Kd.R_mono (Kd.R_far (p := ⟨gb, 1, none⟩) (Kd.R_far (p := ⟨gb, 0, none⟩) HRX7.out HGB3.out _) HGB3.out _) (fun k hk => Nat.le_trans HW3.out hk)⟩, ⟨by rw [← Nat.add_assoc]; exact HR.out.keep hK9 hB9 hG9⟩, ⟨hK9⟩⟩
          · have hz := HZ2.out
            rw [if_neg hR] at hz
            subst hz
            have hR2 : rightB s xs = false := by simpa using hR
            clear hR
            go_wp2_with fail
            exact ⟨rfl, givesN_none (HR7.out.drewN 0) HKw7.out⟩
        · obtain ⟨P, hP⟩ : ∃ P, M = P + 8 := ⟨M - 8, by have := HM.out; omega⟩
          have g1 : decide (0 < (M : Int)) = true := decide_eq_true (by omega)
          have g2 : 0 < M := by omega
          go_wp2
          go_loopw [7, 8] (fun v7 v8 wr => ∃ (i j : Nat), i + j = 8 ∧ v7 = .int .u64 ((w8 ly i : Nat) : Int) ∧ v8 = .int .i64 ((j : Int) - 1) ∧ Aside0 (Kd.R (Kd.int .u64) 58 wr w0.heap.size (fun k => w3.heap.size ≤ k) u xs) ∧ Aside0 (wr.heap[gx]? = some (.cells #[.bool s, u] 24 (0, 0))) ∧ Aside0 (wr.heap[g]? = some (.cells #[.slice A b.length c, .int .i64 ((x + k + N : Nat) : Int)] 70 (0, 0))) ∧ Aside0 (Below w0.heap.size w0 wr) ∧ Aside0 (KeepBut w3 wr g none)) (fun _ v8 _ => (intOf v8 + 1).toNat)
          case atStart => exact ⟨0, 8, rfl, rfl, rfl, HRX, HBX, HBG, HBW, HKW⟩
          case round =>
            clear HRX HBX HBG HBW HKW
            obtain ⟨i, j, hij, rfl, rfl, HRX, HBX, HBG, HBW, HKW⟩ := hrel
            by_cases hj : j = 0
            · subst hj
              have hi8 : i = 8 := by omega
              subst hi8
              obtain ⟨z, hz⟩ : ∃ z, w8 ly 8 = z := ⟨_, rfl⟩
              have hm1 : Aside0 (m = m - 1 + 1) := ⟨by have := HM.out; omega⟩
              have HXS2 : Aside0 ((xs ++ [(z : Int)]) ++ words (m - 1) (ly.drop 8) = L) := ⟨by rw [← HXS.out, hm1.out, ← hz]; simp [words]⟩
              have HLX : Aside0 ((xs.length + 1) * 8 ≤ 140737488355328) := ⟨by have h1 := congrArg List.length HXS.out; have h2 := congrArg List.length HLL.out; rw [words_len] at h2; rw [List.length_append, words_len] at h1; have := HN.out; omega⟩
              have HD : Aside0 ((ly.drop 8).length = P) := ⟨by rw [List.length_drop, HLY.out]; omega⟩
              have cx0 := (blk_cell HBX.out 0).trans rfl
              have cx1 := (blk_cell HBX.out 1).trans rfl
              rw [hz]
              by_cases hP0 : P = 0
              · subst hP0
                obtain rfl : M = 8 := by omega
                clear hP hij
                have HCD : Aside0 (∀ W, KeepBut w3 W g none → (Kd.int .u8).C W Ay (ly.drop 8).length (ly.drop 8)) := ⟨fun W hW => by
                  have h := Kd.C_drop (c := 8) (m := 8) (HCY.out W hW) (by rw [HLY.out]; exact Nat.le_refl _) (by rw [HLY.out]; exact Nat.le_refl _)
                  rwa [if_pos rfl] at h⟩
                go_wp2_with (first | ((with_reducible refine gate_builtin (b := .append) (xs := #[.tmp 43, .tmp 45]) rfl ?_); at_builtin; refine Kd.R_append (Kd.int .u64) (w0 := w0) w0.heap.size rfl (.tmp 43) (.tmp 45) 22 58 (.int .u64 0) 8 rfl Try.underlying22 infoU rfl (by decide) (by omega) u xs (z : Int) [.int .u64 (z : Int)] (fun k => w3.heap.size ≤ k) (fun _ => False) rfl rfl ?aP (fun _ hk => hk.elim) ?aF ?aO ?aB ?aS ?aL ?_; (case aP => exact rfl); (case aB => exact HBW.out); (case aF => exact (fun k hk => Nat.le_trans HKW.out.1 hk)); (case aO => exact HRX.out); (case aS => exact HBW.out.size); (case aL => exact HLX.out); intro u2 w6 ho hb hg hat; obtain ⟨A2, c2, e2⟩ := Kd.R_slice ho; obtain ⟨ln, hln⟩ : ∃ t, (xs ++ [(z : Int)]).length = t := ⟨_, rfl⟩; rw [hln] at e2; clear hln; subst e2; have HR6 := Aside0.mk ho; have HB6 := Aside0.mk hb; have HK6 := Aside0.mk (keepRow HKW.out hg HRX.out.1); have HX6 := Aside0.mk (blk_grown (g := gx) HBX.out hg (Kd.R_ne HRX.out HBX.out (by decide))); have HG6 := Aside0.mk (blk_grown (g := g) HBG.out hg (Kd.R_ne HRX.out HBG.out (by decide))); clear ho hb hg hat; have fx0 := blk_frozen HX6.out 0; have fx1 := blk_frozen HX6.out 1; have cx0 := (blk_cell HX6.out 0).trans rfl; have cx1 := (blk_cell HX6.out 1).trans rfl))
                exact ⟨⟨m - 1, 0, ly.drop 8, Ay, xs ++ [(z : Int)], _, rfl, ⟨by have := HM.out; omega⟩, by omega, ⟨by rw [List.length_drop, HLY.out]⟩, ⟨okB_drop HOY.out 8⟩, ⟨HCD.out⟩, HXS2, ⟨Kd.R_mono (Kd.R_far (p := ⟨gx, 1, none⟩) (Kd.R_types HR6.out HX6.out (by decide)) (fun _ hk => hk.2) _) (fun _ hk => hk.1)⟩, ⟨blk_put (cs := #[.bool s, u]) HX6.out 1 _ rfl⟩, ⟨blk_far HG6.out HNG.out.symm _⟩, ⟨HB6.out.setCell HG0.out _⟩, ⟨keep_far HK6.out HG3.out _⟩⟩, by simp <;> omega⟩
              · have h8 : 8 ≤ M := by omega
                have h9 : ¬ M = 8 := by omega
                have h10 : ¬ M - 8 = 0 := by omega
                have HCD : Aside0 (∀ W, KeepBut w3 W g none → (Kd.int .u8).C W (Ay.map (fun z => z.add 8)) (ly.drop 8).length (ly.drop 8)) := ⟨fun W hW => by
                  have h := Kd.C_drop (c := M) (m := 8) (HCY.out W hW) (by rw [HLY.out]; exact h8) (by rw [HLY.out]; exact Nat.le_refl _)
                  rwa [if_neg h9] at h⟩
                clear hP hij
                go_wp2_with (first | ((with_reducible refine gate_builtin (b := .append) (xs := #[.tmp 43, .tmp 45]) rfl ?_); at_builtin; refine Kd.R_append (Kd.int .u64) (w0 := w0) w0.heap.size rfl (.tmp 43) (.tmp 45) 22 58 (.int .u64 0) 8 rfl Try.underlying22 infoU rfl (by decide) (by omega) u xs (z : Int) [.int .u64 (z : Int)] (fun k => w3.heap.size ≤ k) (fun _ => False) rfl rfl ?aP (fun _ hk => hk.elim) ?aF ?aO ?aB ?aS ?aL ?_; (case aP => exact rfl); (case aB => exact HBW.out); (case aF => exact (fun k hk => Nat.le_trans HKW.out.1 hk)); (case aO => exact HRX.out); (case aS => exact HBW.out.size); (case aL => exact HLX.out); intro u2 w6 ho hb hg hat; obtain ⟨A2, c2, e2⟩ := Kd.R_slice ho; obtain ⟨ln, hln⟩ : ∃ t, (xs ++ [(z : Int)]).length = t := ⟨_, rfl⟩; rw [hln] at e2; clear hln; subst e2; have HR6 := Aside0.mk ho; have HB6 := Aside0.mk hb; have HK6 := Aside0.mk (keepRow HKW.out hg HRX.out.1); have HX6 := Aside0.mk (blk_grown (g := gx) HBX.out hg (Kd.R_ne HRX.out HBX.out (by decide))); have HG6 := Aside0.mk (blk_grown (g := g) HBG.out hg (Kd.R_ne HRX.out HBG.out (by decide))); clear ho hb hg hat; have fx0 := blk_frozen HX6.out 0; have fx1 := blk_frozen HX6.out 1; have cx0 := (blk_cell HX6.out 0).trans rfl; have cx1 := (blk_cell HX6.out 1).trans rfl))
                exact ⟨⟨m - 1, M - 8, ly.drop 8, _, xs ++ [(z : Int)], _, rfl, ⟨by have := HM.out; omega⟩, by omega, ⟨by rw [List.length_drop, HLY.out]⟩, ⟨okB_drop HOY.out 8⟩, ⟨HCD.out⟩, HXS2, ⟨Kd.R_mono (Kd.R_far (p := ⟨gx, 1, none⟩) (Kd.R_types HR6.out HX6.out (by decide)) (fun _ hk => hk.2) _) (fun _ hk => hk.1)⟩, ⟨blk_put (cs := #[.bool s, u]) HX6.out 1 _ rfl⟩, ⟨blk_far HG6.out HNG.out.symm _⟩, ⟨HB6.out.setCell HG0.out _⟩, ⟨keep_far HK6.out HG3.out _⟩⟩, by simp <;> omega⟩
            · obtain ⟨j1, rfl⟩ : ∃ j1, j = j1 + 1 := ⟨j - 1, by omega⟩
              obtain ⟨ad, hA, hcell⟩ := Kd.at_int (HCY.out _ HKW.out) (j1 : Int) (by omega) (by have := HLY.out; omega)
              subst hA
              have hi7 : 7 - i = j1 := by omega
              have hb := byte_lt HOY.out j1
              obtain ⟨y, hy, hy1⟩ : ∃ y : Nat, ly.getD j1 0 = (y : Int) ∧ y < 256 := ⟨(ly.getD j1 0).toNat, by omega, by omega⟩
              have hcell2 : wr.cell? (ad.add j1) = some (Value.int .u8 (y : Int)) := by rw [← hy]; simpa [rd] using hcell
              have hw := w8_lt56 HOY.out (i := i) (by omega)
              obtain ⟨z, hz⟩ : ∃ z, w8 ly i = z := ⟨_, rfl⟩
              have HW : Aside0 (w8 ly (i + 1) = z * 256 + y) := ⟨by show w8 ly i * 256 + (ly.getD (7 - i) 0).toNat = _; rw [hi7, hy, hz]; rfl⟩
              rw [hz] at hw
              rw [hz]
              have hS := shl8 z hw
              have hO : bits .or .u64 ((z : Int) * 256) (y : Int) = ((z * 256 + y : Nat) : Int) := by simpa using or8 z y hw hy1
              have hk1 : ((j1 + 1 : Nat) : Int) - 1 = (j1 : Int) := by omega
              have hk2 : (j1 : Int) < (M : Int) := by omega
              rw [hk1]
              clear hb hcell hy
              go_wp2
              exact ⟨⟨i + 1, j1, by omega, by rw [HW.out]; simp, rfl, HRX, HBX, HBG, HBW, HKW⟩, by simp [intOf]⟩
end Go.Proofs.Ytoheamfnddfgkaa.St
