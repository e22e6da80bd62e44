/- PolyLaws: the walk. -/
import Derived.Test.YtplignahjhenjaaPoFl
namespace Go.Proofs.Ytplignahjhenjaa.Lb
open Go.RowKit Go.Proofs.YtplignahjhenjaaW.PrintWords Go.Proofs.YtplignahjhenjaaW.PrintLast Go.Proofs.YtplignahjhenjaaW.PrintMore
open Go.Proofs.Ytplignahjhenjaa.Po (trm trm_of_tight tight_trm trm_len tight_iff ev)
set_option linter.unusedVariables false
set_option linter.unusedSimpArgs false

/-- What `tame` makes: its blocks lie from lo to hi. -/
structure TW (w : World) (lo hi : Nat) (A : Option Addr) (c : Nat) (zs : List Int) : Prop where
  row : Kd.R PB.k25 25 w lo (fun k => lo ≤ k ∧ k < hi) (.slice A zs.length c) (zs.map sv)
  tg : Po.tight zs
  len : zs.length ≤ 12
  lm : ∀ z ∈ zs, lim 8 z
theorem TW.below {w w' : World} {lo hi : Nat} {A : Option Addr} {c : Nat} {zs : List Int} (h : TW w lo hi A c zs) (hb : Below w.heap.size w w') : TW w' lo hi A c zs := ⟨Kd.R_below h.row hb, h.tg, h.len, h.lm⟩
theorem TW.far {w : World} {lo hi : Nat} {A : Option Addr} {c : Nat} {zs : List Int} (h : TW w lo hi A c zs) {g : Nat} (hg : g < lo ∨ hi ≤ g) (u v : Value) : TW ((w.setCell ⟨g, 0, none⟩ u).setCell ⟨g, 1, none⟩ v) lo hi A c zs :=
  ⟨Kd.R_far (p := ⟨g, 1, none⟩) (Kd.R_far (p := ⟨g, 0, none⟩) h.row (fun k hk => by show k ≠ g; omega) u) (fun k hk => by show k ≠ g; omega) v, h.tg, h.len, h.lm⟩
theorem TW.fl {w : World} {lo hi : Nat} {A : Option Addr} {c : Nat} {zs : List Int} (h : TW w lo hi A c zs) : FL w A c zs 8 12 := by
  have h2 := Kd.R_reads' h.row
  rw [List.length_map] at h2
  exact ⟨h2.2.1, h.tg, h.len, h.lm, PL_of_C h2.2.2 (by have := h.len; omega)⟩
theorem tame_w (A : Option Addr) (n c : Nat) (l : List PB.S25) (hn : l.length = n) (hc : n ≤ c) (hl : ∀ c ∈ l, okc c) (hs : n ≤ 9223372036854775806) (w : World) (r : Kd.C PB.k25 w A n l) :
    Calls Try.prog 33 #[.slice A n c] w fun e w' => ∃ zs A' c', e = .returned (.slice A' zs.length c') ∧ Aside0 (TW w' w.heap.size w'.heap.size A' c' zs) ∧ Aside0 (Below w.heap.size w w') :=
  (tame_t A n c l hn hc hl hs w r).mono fun e w' ⟨zs, A', c', he, t, l12, l8, hR, hB⟩ => ⟨zs, A', c', he, ⟨⟨Kd.R_mono (Kd.R_bound hR.out) (fun k hk => ⟨hk.2.1, hk.2.2.1⟩), t.out, l12, l8.out⟩⟩, hB⟩
/-- A parameter that is a number, in its variable. -/
structure PV (w : World) (g : Nat) (s : Bool) (A : Option Addr) (c : Nat) (l : List Int) : Prop where
  blk : w.heap[g]? = some (.cells #[.bool s, .slice A l.length c] 25 (0, 0))
  rd : u64.C w A l.length l
theorem PV.below {w w' : World} {g : Nat} {s : Bool} {A : Option Addr} {c : Nat} {l : List Int} (h : PV w g s A c l) (hb : Below w.heap.size w w') : PV w' g s A c l := ⟨(hb.block g (Array.getElem?_eq_some_iff.1 h.blk).1).trans h.blk, Kd.C_below h.rd hb⟩
theorem PV.cells {w : World} {g : Nat} {s : Bool} {A : Option Addr} {c : Nat} {l : List Int} (h : PV w g s A c l) : w.cell? ⟨g, 0, none⟩ = some (.bool s) ∧ w.cell? ⟨g, 1, none⟩ = some (.slice A l.length c) ∧ g < w.heap.size := by
  obtain ⟨c0, c1, _, _, c2⟩ := two_cells (Below.refl w.heap.size w) h.blk
  exact ⟨c0, c1, c2⟩
theorem PV.new {w : World} {s : Bool} {A : Option Addr} {c : Nat} {l : List Int} (h : u64.C w A l.length l) : PV (w.alloc (.cells #[.bool s, .slice A l.length c] 25)) w.heap.size s A c l := ⟨heap_alloc_new w _, Kd.C_alloc h _⟩
def CutLaws (w : World) (y1 y2 y3 y4 : Value) (wx : World) : Prop := ∃ (p q r : List Int) (z : Int) (Ap : Option Addr) (cp : Nat) (Aq : Option Addr) (cq : Nat) (Ar : Option Addr) (cr g : Nat) (Az : Option Addr) (cz : Nat), y1 = .slice Ap p.length cp ∧ y2 = .slice Aq q.length cq ∧ y3 = .slice Ar r.length cr ∧ y4 = .pointer (some ⟨g, 0, none⟩) ∧ Aside0 (FL wx Ap cp p 8 12) ∧ Aside0 (FL wx Aq cq q 8 12) ∧ Aside0 (FL wx Ar cr r 8 12) ∧ Aside0 (BV wx g Az cz z) ∧ Aside0 (lim 4 z) ∧ Aside0 (Below w.heap.size w wx)
def CutTwo (w : World) (z : Int) (y1 y2 : Value) (wx : World) : Prop := ∃ (g : Nat) (A : Option Addr) (c : Nat), y1 = .pointer (some ⟨g, 0, none⟩) ∧ y2 = .int .i64 0 ∧ Aside0 (BV wx g A c z) ∧ Aside0 (Below w.heap.size w wx)
set_option maxRecDepth 100000 in
set_option maxHeartbeats 8000000 in
theorem polyLaws_c (A1 : Option Addr) (n1 : Nat) (c1 : Nat) (l1 : List PB.S25) (hn1 : l1.length = n1) (hc1 : n1 ≤ c1) (hs1 : n1 ≤ 9223372036854775806) (ho1 : ∀ c ∈ l1, okc c) (A2 : Option Addr) (n2 : Nat) (c2 : Nat) (l2 : List PB.S25) (hn2 : l2.length = n2) (hc2 : n2 ≤ c2) (hs2 : n2 ≤ 9223372036854775806) (ho2 : ∀ c ∈ l2, okc c) (A3 : Option Addr) (n3 : Nat) (c3 : Nat) (l3 : List PB.S25) (hn3 : l3.length = n3) (hc3 : n3 ≤ c3) (hs3 : n3 ≤ 9223372036854775806) (ho3 : ∀ c ∈ l3, okc c) (s : Bool) (A4 : Option Addr) (c4 : Nat) (l4 : List Int) (hc4 : l4.length ≤ c4) (ho4 : okL l4) (hm4 : l4.length < 17592186044416) (w : World) (r1 : Kd.C PB.k25 w A1 n1 l1) (r2 : Kd.C PB.k25 w A2 n2 l2) (r3 : Kd.C PB.k25 w A3 n3 l3) (r4 : u64.C w A4 l4.length l4) :
    Calls Try.prog 7 #[.slice A1 n1 c1, .slice A2 n2 c2, .slice A3 n3 c3, .agg #[.bool s, .slice A4 l4.length c4]] w (OutP w (.bool true)) := by
  have HB : Aside0 (Below w.heap.size w w) := ⟨Below.refl _ _⟩
  have R1 := Aside0.mk r1
  have R2 := Aside0.mk r2
  have R3 := Aside0.mk r3
  have R4 := Aside0.mk r4
  have HO1 := Aside0.mk ho1
  have HO2 := Aside0.mk ho2
  have HO3 := Aside0.mk ho3
  have HO4 := Aside0.mk ho4
  have hu := Try.underlying25
  clear r1 r2 r3 r4 ho1 ho2 ho3 ho4
  go_enter Try.func7, Try.ntmps7
  go_wp2_with fail
  obtain ⟨X0, hX⟩ : ∃ X, w.alloc (.cells #[.bool s, .slice A4 l4.length c4] 25) = X := ⟨_, rfl⟩
  have nX : Below w.heap.size w X0 := by rw [← hX]; exact (Below.refl _ _).alloc (Nat.le_refl _) _
  have HPV : Aside0 (PV X0 w.heap.size s A4 c4 l4) := ⟨by rw [← hX]; exact PV.new R4.out⟩
  replace HB : Aside0 (Below w.heap.size w X0) := ⟨HB.out.trans (nX.mono HB.out.size)⟩
  rw [hX]
  clear hX nX
  refine (awake_c _).mono ?_
  rintro e w1 ⟨rfl, hB⟩
  replace HPV := Aside0.mk (HPV.out.below hB.out)
  replace HB : Aside0 (Below w.heap.size w w1) := ⟨HB.out.trans (hB.out.mono HB.out.size)⟩
  clear hB
  go_upto_region 3 with fail
  go_cut [9, 10, 11, 12] (fun y1 y2 y3 y4 wx => CutLaws w y1 y2 y3 y4 wx)
  case first =>
    obtain ⟨x0, x1, _⟩ := HPV.out.cells
    refine start_ (n := 13) (S := fun w' => Below w1.heap.size w1 w') (ds := [12]) #[false, false, false, false, false, false, false, false, false, false, false, false, false] (by kernel_rfl) rfl rfl (Below.refl _ _).drew (fun hHeld => ?_)
    generalize w1.drew = WD at  hHeld ⊢
    have hzD : w1.heap.size ≤ WD.heap.size := hHeld.size
    refine pure_ (i := 0) (N := some 45) (v := ?_) (a' := ?_) #[true, false, false, false, false, false, false, false, false, false, false, false, false] rfl rfl (by kernel_rfl) (fun _ _ _ h => h) (Or.inl ⟨by rfl, ?_⟩) ?_ ?_
    rotate_left
    · intro w'
      go_simp
      with_reducible rfl
    rotate_left
    · simp only [Act.put, List.setIfInBounds_toArray, List.set_cons_zero, List.set_cons_succ, i64_w, i32_w]
      rfl
    refine pure_ (i := 2) (N := some 47) (v := ?_) (a' := ?_) #[true, false, true, false, false, false, false, false, false, false, false, false, false] rfl rfl (by kernel_rfl) (fun _ _ _ h => h) (Or.inl ⟨by rfl, ?_⟩) ?_ ?_
    rotate_left
    · intro w'
      go_simp
      with_reducible rfl
    rotate_left
    · simp only [Act.put, List.setIfInBounds_toArray, List.set_cons_zero, List.set_cons_succ, i64_w, i32_w]
      rfl
    refine pure_ (i := 4) (N := some 49) (v := ?_) (a' := ?_) #[true, false, true, false, true, false, false, false, false, false, false, false, false] rfl rfl (by kernel_rfl) (fun _ _ _ h => h) (Or.inl ⟨by rfl, ?_⟩) ?_ ?_
    rotate_left
    · intro w'
      go_simp
      with_reducible rfl
    rotate_left
    · simp only [Act.put, List.setIfInBounds_toArray, List.set_cons_zero, List.set_cons_succ, i64_w, i32_w]
      rfl
    refine take_ (i := 6) (N := some 51) (v := ?_) (a' := ?_) #[true, false, true, false, true, false, true, false, false, false, false, false, false] rfl rfl (by kernel_rfl) (fun _ _ _ h => h) (Or.inl ⟨by rfl, ?_⟩) hHeld ?_ ?_
    rotate_left
    · intro w' s0
      have e0 := pw_cell_below s0 x0
      have e1 := pw_cell_below s0 x1
      go_simp
      with_reducible rfl
    rotate_left
    · simp only [Act.put, List.setIfInBounds_toArray, List.set_cons_zero, List.set_cons_succ, i64_w, i32_w]
      rfl
    refine two_ (i := 1) (j := 8) (Ni := some 46) (Nj := some 12) #[true, true, true, false, true, false, true, false, false, false, false, false, false] #[true, false, true, false, true, false, true, false, true, false, false, false, false] rfl rfl rfl rfl (by kernel_rfl) (by decide) (by decide) (fun K hK => ?_) (fun K hK => ?_)
    · refine goes_ Try.func33 (by kernel_rfl) rfl #[.slice A1 n1 c1] (by rfl) rfl rfl (by (try simp only [List.map_toArray, List.map_cons, List.map_nil]); first | done | rfl) ?_
      refine (tame_w A1 n1 c1 l1 hn1 hc1 HO1.out hs1 _ (Kd.C_below R1.out (HB.out.trans (hHeld.mono HB.out.size)))).mono ?_
      rintro e y1 ⟨p, Ap, cp, rfl, Hp, hB⟩
      refine ⟨_, rfl, ?_⟩
      have HH : Aside0 (Below w1.heap.size w1 y1) := ⟨hHeld.trans (hB.out.mono hHeld.size)⟩
      have hzy1 : WD.heap.size ≤ y1.heap.size := hB.out.size
      clear hB
      refine hK.out _ _ HH.out ?_
      clear hHeld hK K HH
      intro hHeld
      refine norm_ (a' := ?_) ?_ ?_
      rotate_left
      · show Act.put _ (some 46) _ = _
        simp only [Act.put, List.setIfInBounds_toArray, List.set_cons_zero, List.set_cons_succ, i64_w, i32_w]
        rfl
      refine two_ (i := 3) (j := 8) (Ni := some 48) (Nj := some 12) #[true, true, true, true, true, false, true, false, false, false, false, false, false] #[true, true, true, false, true, false, true, false, true, false, false, false, false] rfl rfl rfl rfl (by kernel_rfl) (by decide) (by decide) (fun K hK => ?_) (fun K hK => ?_)
      · refine goes_ Try.func33 (by kernel_rfl) rfl #[.slice A2 n2 c2] (by rfl) rfl rfl (by (try simp only [List.map_toArray, List.map_cons, List.map_nil]); first | done | rfl) ?_
        refine (tame_w A2 n2 c2 l2 hn2 hc2 HO2.out hs2 _ (Kd.C_below R2.out (HB.out.trans (hHeld.mono HB.out.size)))).mono ?_
        rintro e y2 ⟨q, Aq, cq, rfl, Hq, hB⟩
        refine ⟨_, rfl, ?_⟩
        have HH : Aside0 (Below w1.heap.size w1 y2) := ⟨hHeld.trans (hB.out.mono hHeld.size)⟩
        replace Hp := Aside0.mk (Hp.out.below hB.out)
        have hzy2 : y1.heap.size ≤ y2.heap.size := hB.out.size
        clear hB
        refine hK.out _ _ HH.out ?_
        clear hHeld hK K HH
        intro hHeld
        refine norm_ (a' := ?_) ?_ ?_
        rotate_left
        · show Act.put _ (some 48) _ = _
          simp only [Act.put, List.setIfInBounds_toArray, List.set_cons_zero, List.set_cons_succ, i64_w, i32_w]
          rfl
        refine two_ (i := 5) (j := 8) (Ni := some 50) (Nj := some 12) #[true, true, true, true, true, true, true, false, false, false, false, false, false] #[true, true, true, true, true, false, true, false, true, false, false, false, false] rfl rfl rfl rfl (by kernel_rfl) (by decide) (by decide) (fun K hK => ?_) (fun K hK => ?_)
        · refine goes_ Try.func33 (by kernel_rfl) rfl #[.slice A3 n3 c3] (by rfl) rfl rfl (by (try simp only [List.map_toArray, List.map_cons, List.map_nil]); first | done | rfl) ?_
          refine (tame_w A3 n3 c3 l3 hn3 hc3 HO3.out hs3 _ (Kd.C_below R3.out (HB.out.trans (hHeld.mono HB.out.size)))).mono ?_
          rintro e y3 ⟨r, Ar, cr, rfl, Hr, hB⟩
          refine ⟨_, rfl, ?_⟩
          have HH : Aside0 (Below w1.heap.size w1 y3) := ⟨hHeld.trans (hB.out.mono hHeld.size)⟩
          replace Hp := Aside0.mk (Hp.out.below hB.out)
          replace Hq := Aside0.mk (Hq.out.below hB.out)
          have hzy3 : y2.heap.size ≤ y3.heap.size := hB.out.size
          clear hB
          refine hK.out _ _ HH.out ?_
          clear hHeld hK K HH
          intro hHeld
          refine norm_ (a' := ?_) ?_ ?_
          rotate_left
          · show Act.put _ (some 50) _ = _
            simp only [Act.put, List.setIfInBounds_toArray, List.set_cons_zero, List.set_cons_succ, i64_w, i32_w]
            rfl
          refine two_ (i := 7) (j := 8) (Ni := some 52) (Nj := some 12) #[true, true, true, true, true, true, true, true, false, false, false, false, false] #[true, true, true, true, true, true, true, false, true, false, false, false, false] rfl rfl rfl rfl (by kernel_rfl) (by decide) (by decide) (fun K hK => ?_) (fun K hK => ?_)
          · refine goes_ Try.func34 (by kernel_rfl) rfl #[.agg #[.bool s, .slice A4 l4.length c4]] (by rfl) rfl rfl (by (try simp only [List.map_toArray, List.map_cons, List.map_nil]); first | done | rfl) ?_
            refine (number_z s A4 c4 l4 hc4 HO4.out hm4 _ (Kd.C_below R4.out (HB.out.trans (hHeld.mono HB.out.size)))).mono ?_
            rintro e y4 ⟨z, lz, Az, cz, rfl, Hz, hB⟩
            refine ⟨_, rfl, ?_⟩
            have HH : Aside0 (Below w1.heap.size w1 y4) := ⟨hHeld.trans (hB.out.mono hHeld.size)⟩
            replace Hp := Aside0.mk (Hp.out.below hB.out)
            replace Hq := Aside0.mk (Hq.out.below hB.out)
            replace Hr := Aside0.mk (Hr.out.below hB.out)
            have hzy4 : y3.heap.size ≤ y4.heap.size := hB.out.size
            clear hB
            have LZ := Aside0.mk lz
            clear lz
            refine hK.out _ _ HH.out ?_
            clear hHeld hK K HH
            intro hHeld
            refine norm_ (a' := ?_) ?_ ?_
            rotate_left
            · show Act.put _ (some 52) _ = _
              simp only [Act.put, List.setIfInBounds_toArray, List.set_cons_zero, List.set_cons_succ, i64_w, i32_w]
              rfl
            refine one_ (i := 8) (N := some 12) #[true, true, true, true, true, true, true, true, true, false, false, false, false] rfl rfl (by kernel_rfl) (by decide) (fun K hK => ?_)
            refine value_ (w1 := ?_) (v := ?_) (by rfl) rfl ?_ ?_
            rotate_left 2
            · go_simp
              constructor
              · rfl
              · rfl
            obtain ⟨y5, hX⟩ : ∃ X, y4.alloc (.cells #[.bool false, .slice none 0 0] 25) = X := ⟨_, rfl⟩
            have nX : Below y4.heap.size y4 y5 := by rw [← hX]; exact (Below.refl _ _).alloc (Nat.le_refl _) _
            have HV : Aside0 (BV y5 y4.heap.size none 0 0) := ⟨by rw [← hX]; exact BV.zero y4⟩
            have HH : Aside0 (Below w1.heap.size w1 y5) := ⟨hHeld.trans (nX.mono hHeld.size)⟩
            replace Hp := Aside0.mk (Hp.out.below nX)
            replace Hq := Aside0.mk (Hq.out.below nX)
            replace Hr := Aside0.mk (Hr.out.below nX)
            replace Hz := Aside0.mk (Hz.out.below nX)
            have hzy5 : y4.heap.size < y5.heap.size := by rw [← hX]; show _ < (Array.push _ _).size; rw [Array.size_push]; omega
            rw [hX]
            clear hX nX
            refine hK.out _ _ HH.out ?_
            clear hHeld hK K HH
            intro hHeld
            refine norm_ (a' := ?_) ?_ ?_
            rotate_left
            · show Act.put _ (some 12) _ = _
              simp only [Act.put, List.setIfInBounds_toArray, List.set_cons_zero, List.set_cons_succ, i64_w, i32_w]
              rfl
            refine pure_ (i := 9) (N := some 9) (v := ?_) (a' := ?_) #[true, true, true, true, true, true, true, true, true, true, false, false, false] rfl rfl (by kernel_rfl) (fun _ _ _ h => h) (Or.inl ⟨by rfl, ?_⟩) ?_ ?_
            rotate_left
            · intro w'
              go_simp
              with_reducible rfl
            rotate_left
            · simp only [Act.put, List.setIfInBounds_toArray, List.set_cons_zero, List.set_cons_succ, i64_w, i32_w]
              rfl
            refine pure_ (i := 10) (N := some 10) (v := ?_) (a' := ?_) #[true, true, true, true, true, true, true, true, true, true, true, false, false] rfl rfl (by kernel_rfl) (fun _ _ _ h => h) (Or.inl ⟨by rfl, ?_⟩) ?_ ?_
            rotate_left
            · intro w'
              go_simp
              with_reducible rfl
            rotate_left
            · simp only [Act.put, List.setIfInBounds_toArray, List.set_cons_zero, List.set_cons_succ, i64_w, i32_w]
              rfl
            refine pure_ (i := 11) (N := some 11) (v := ?_) (a' := ?_) #[true, true, true, true, true, true, true, true, true, true, true, true, false] rfl rfl (by kernel_rfl) (fun _ _ _ h => h) (Or.inl ⟨by rfl, ?_⟩) ?_ ?_
            rotate_left
            · intro w'
              go_simp
              with_reducible rfl
            rotate_left
            · simp only [Act.put, List.setIfInBounds_toArray, List.set_cons_zero, List.set_cons_succ, i64_w, i32_w]
              rfl
            refine last_ (i := 12) (N := none) #[true, true, true, true, true, true, true, true, true, true, true, true, true] rfl rfl (by kernel_rfl) (by decide) (fun K hK => ?_)
            obtain ⟨z0, z1, _⟩ := HV.out.cells
            have zf0 := HV.out.frz 0
            have zf1 := HV.out.frz 1
            refine skip_ (w1 := ?_) (by rfl) rfl ?_ ?_
            rotate_left
            · go_simp
              rfl
            refine hK.out _ _ ?_
            clear hK K
            refine done_ (by kernel_rfl) ?_
            have hg := HV.out.cells.2.2
            clear z0 z1 zf0 zf1 x0 x1
            go_wp2
            go_meet
            refine ⟨p, q, r, z, Ap, cp, Aq, cq, Ar, cr, _, Az, cz, rfl, rfl, rfl, rfl, ⟨(Hp.out.far (by omega) _ _).fl⟩, ⟨(Hq.out.far (by omega) _ _).fl⟩, ⟨(Hr.out.far (by omega) _ _).fl⟩, ⟨HV.out.set Hz.out⟩, LZ, ⟨?_⟩⟩
            have hBe := HB.out.trans (hHeld.mono HB.out.size)
            have hBs := HB.out.size
            exact (hBe.setCell (by show w.heap.size ≤ _; (try dsimp only); omega) _).setCell (by show w.heap.size ≤ _; (try dsimp only); omega) _
          · refine value_ (w1 := ?_) (v := ?_) (by rfl) rfl ?_ ?_
            rotate_left 2
            · go_simp
              constructor
              · rfl
              · rfl
            obtain ⟨y4, hX⟩ : ∃ X, y3.alloc (.cells #[.bool false, .slice none 0 0] 25) = X := ⟨_, rfl⟩
            have nX : Below y3.heap.size y3 y4 := by rw [← hX]; exact (Below.refl _ _).alloc (Nat.le_refl _) _
            have HV : Aside0 (BV y4 y3.heap.size none 0 0) := ⟨by rw [← hX]; exact BV.zero y3⟩
            have HH : Aside0 (Below w1.heap.size w1 y4) := ⟨hHeld.trans (nX.mono hHeld.size)⟩
            replace Hp := Aside0.mk (Hp.out.below nX)
            replace Hq := Aside0.mk (Hq.out.below nX)
            replace Hr := Aside0.mk (Hr.out.below nX)
            have hzy4 : y3.heap.size < y4.heap.size := by rw [← hX]; show _ < (Array.push _ _).size; rw [Array.size_push]; omega
            rw [hX]
            clear hX nX
            refine hK.out _ _ HH.out ?_
            clear hHeld hK K HH
            intro hHeld
            refine norm_ (a' := ?_) ?_ ?_
            rotate_left
            · show Act.put _ (some 12) _ = _
              simp only [Act.put, List.setIfInBounds_toArray, List.set_cons_zero, List.set_cons_succ, i64_w, i32_w]
              rfl
            refine one_ (i := 7) (N := some 52) #[true, true, true, true, true, true, true, true, true, false, false, false, false] rfl rfl (by kernel_rfl) (by decide) (fun K hK => ?_)
            refine goes_ Try.func34 (by kernel_rfl) rfl #[.agg #[.bool s, .slice A4 l4.length c4]] (by rfl) rfl rfl (by (try simp only [List.map_toArray, List.map_cons, List.map_nil]); first | done | rfl) ?_
            refine (number_z s A4 c4 l4 hc4 HO4.out hm4 _ (Kd.C_below R4.out (HB.out.trans (hHeld.mono HB.out.size)))).mono ?_
            rintro e y5 ⟨z, lz, Az, cz, rfl, Hz, hB⟩
            refine ⟨_, rfl, ?_⟩
            have HH : Aside0 (Below w1.heap.size w1 y5) := ⟨hHeld.trans (hB.out.mono hHeld.size)⟩
            replace Hp := Aside0.mk (Hp.out.below hB.out)
            replace Hq := Aside0.mk (Hq.out.below hB.out)
            replace Hr := Aside0.mk (Hr.out.below hB.out)
            replace HV := Aside0.mk (HV.out.below hB.out)
            have hzy5 : y4.heap.size ≤ y5.heap.size := hB.out.size
            clear hB
            have LZ := Aside0.mk lz
            clear lz
            refine hK.out _ _ HH.out ?_
            clear hHeld hK K HH
            intro hHeld
            refine norm_ (a' := ?_) ?_ ?_
            rotate_left
            · show Act.put _ (some 52) _ = _
              simp only [Act.put, List.setIfInBounds_toArray, List.set_cons_zero, List.set_cons_succ, i64_w, i32_w]
              rfl
            refine pure_ (i := 9) (N := some 9) (v := ?_) (a' := ?_) #[true, true, true, true, true, true, true, true, true, true, false, false, false] rfl rfl (by kernel_rfl) (fun _ _ _ h => h) (Or.inl ⟨by rfl, ?_⟩) ?_ ?_
            rotate_left
            · intro w'
              go_simp
              with_reducible rfl
            rotate_left
            · simp only [Act.put, List.setIfInBounds_toArray, List.set_cons_zero, List.set_cons_succ, i64_w, i32_w]
              rfl
            refine pure_ (i := 10) (N := some 10) (v := ?_) (a' := ?_) #[true, true, true, true, true, true, true, true, true, true, true, false, false] rfl rfl (by kernel_rfl) (fun _ _ _ h => h) (Or.inl ⟨by rfl, ?_⟩) ?_ ?_
            rotate_left
            · intro w'
              go_simp
              with_reducible rfl
            rotate_left
            · simp only [Act.put, List.setIfInBounds_toArray, List.set_cons_zero, List.set_cons_succ, i64_w, i32_w]
              rfl
            refine pure_ (i := 11) (N := some 11) (v := ?_) (a' := ?_) #[true, true, true, true, true, true, true, true, true, true, true, true, false] rfl rfl (by kernel_rfl) (fun _ _ _ h => h) (Or.inl ⟨by rfl, ?_⟩) ?_ ?_
            rotate_left
            · intro w'
              go_simp
              with_reducible rfl
            rotate_left
            · simp only [Act.put, List.setIfInBounds_toArray, List.set_cons_zero, List.set_cons_succ, i64_w, i32_w]
              rfl
            refine last_ (i := 12) (N := none) #[true, true, true, true, true, true, true, true, true, true, true, true, true] rfl rfl (by kernel_rfl) (by decide) (fun K hK => ?_)
            obtain ⟨z0, z1, _⟩ := HV.out.cells
            have zf0 := HV.out.frz 0
            have zf1 := HV.out.frz 1
            refine skip_ (w1 := ?_) (by rfl) rfl ?_ ?_
            rotate_left
            · go_simp
              rfl
            refine hK.out _ _ ?_
            clear hK K
            refine done_ (by kernel_rfl) ?_
            have hg := HV.out.cells.2.2
            clear z0 z1 zf0 zf1 x0 x1
            go_wp2
            go_meet
            refine ⟨p, q, r, z, Ap, cp, Aq, cq, Ar, cr, _, Az, cz, rfl, rfl, rfl, rfl, ⟨(Hp.out.far (by omega) _ _).fl⟩, ⟨(Hq.out.far (by omega) _ _).fl⟩, ⟨(Hr.out.far (by omega) _ _).fl⟩, ⟨HV.out.set Hz.out⟩, LZ, ⟨?_⟩⟩
            have hBe := HB.out.trans (hHeld.mono HB.out.size)
            have hBs := HB.out.size
            exact (hBe.setCell (by show w.heap.size ≤ _; (try dsimp only); omega) _).setCell (by show w.heap.size ≤ _; (try dsimp only); omega) _
        · refine value_ (w1 := ?_) (v := ?_) (by rfl) rfl ?_ ?_
          rotate_left 2
          · go_simp
            constructor
            · rfl
            · rfl
          obtain ⟨y3, hX⟩ : ∃ X, y2.alloc (.cells #[.bool false, .slice none 0 0] 25) = X := ⟨_, rfl⟩
          have nX : Below y2.heap.size y2 y3 := by rw [← hX]; exact (Below.refl _ _).alloc (Nat.le_refl _) _
          have HV : Aside0 (BV y3 y2.heap.size none 0 0) := ⟨by rw [← hX]; exact BV.zero y2⟩
          have HH : Aside0 (Below w1.heap.size w1 y3) := ⟨hHeld.trans (nX.mono hHeld.size)⟩
          replace Hp := Aside0.mk (Hp.out.below nX)
          replace Hq := Aside0.mk (Hq.out.below nX)
          have hzy3 : y2.heap.size < y3.heap.size := by rw [← hX]; show _ < (Array.push _ _).size; rw [Array.size_push]; omega
          rw [hX]
          clear hX nX
          refine hK.out _ _ HH.out ?_
          clear hHeld hK K HH
          intro hHeld
          refine norm_ (a' := ?_) ?_ ?_
          rotate_left
          · show Act.put _ (some 12) _ = _
            simp only [Act.put, List.setIfInBounds_toArray, List.set_cons_zero, List.set_cons_succ, i64_w, i32_w]
            rfl
          refine one_ (i := 5) (N := some 50) #[true, true, true, true, true, true, true, false, true, false, false, false, false] rfl rfl (by kernel_rfl) (by decide) (fun K hK => ?_)
          refine goes_ Try.func33 (by kernel_rfl) rfl #[.slice A3 n3 c3] (by rfl) rfl rfl (by (try simp only [List.map_toArray, List.map_cons, List.map_nil]); first | done | rfl) ?_
          refine (tame_w A3 n3 c3 l3 hn3 hc3 HO3.out hs3 _ (Kd.C_below R3.out (HB.out.trans (hHeld.mono HB.out.size)))).mono ?_
          rintro e y4 ⟨r, Ar, cr, rfl, Hr, hB⟩
          refine ⟨_, rfl, ?_⟩
          have HH : Aside0 (Below w1.heap.size w1 y4) := ⟨hHeld.trans (hB.out.mono hHeld.size)⟩
          replace Hp := Aside0.mk (Hp.out.below hB.out)
          replace Hq := Aside0.mk (Hq.out.below hB.out)
          replace HV := Aside0.mk (HV.out.below hB.out)
          have hzy4 : y3.heap.size ≤ y4.heap.size := hB.out.size
          clear hB
          refine hK.out _ _ HH.out ?_
          clear hHeld hK K HH
          intro hHeld
          refine norm_ (a' := ?_) ?_ ?_
          rotate_left
          · show Act.put _ (some 50) _ = _
            simp only [Act.put, List.setIfInBounds_toArray, List.set_cons_zero, List.set_cons_succ, i64_w, i32_w]
            rfl
          refine one_ (i := 7) (N := some 52) #[true, true, true, true, true, true, true, true, true, false, false, false, false] rfl rfl (by kernel_rfl) (by decide) (fun K hK => ?_)
          refine goes_ Try.func34 (by kernel_rfl) rfl #[.agg #[.bool s, .slice A4 l4.length c4]] (by rfl) rfl rfl (by (try simp only [List.map_toArray, List.map_cons, List.map_nil]); first | done | rfl) ?_
          refine (number_z s A4 c4 l4 hc4 HO4.out hm4 _ (Kd.C_below R4.out (HB.out.trans (hHeld.mono HB.out.size)))).mono ?_
          rintro e y5 ⟨z, lz, Az, cz, rfl, Hz, hB⟩
          refine ⟨_, rfl, ?_⟩
          have HH : Aside0 (Below w1.heap.size w1 y5) := ⟨hHeld.trans (hB.out.mono hHeld.size)⟩
          replace Hp := Aside0.mk (Hp.out.below hB.out)
          replace Hq := Aside0.mk (Hq.out.below hB.out)
          replace HV := Aside0.mk (HV.out.below hB.out)
          replace Hr := Aside0.mk (Hr.out.below hB.out)
          have hzy5 : y4.heap.size ≤ y5.heap.size := hB.out.size
          clear hB
          have LZ := Aside0.mk lz
          clear lz
          refine hK.out _ _ HH.out ?_
          clear hHeld hK K HH
          intro hHeld
          refine norm_ (a' := ?_) ?_ ?_
          rotate_left
          · show Act.put _ (some 52) _ = _
            simp only [Act.put, List.setIfInBounds_toArray, List.set_cons_zero, List.set_cons_succ, i64_w, i32_w]
            rfl
          refine pure_ (i := 9) (N := some 9) (v := ?_) (a' := ?_) #[true, true, true, true, true, true, true, true, true, true, false, false, false] rfl rfl (by kernel_rfl) (fun _ _ _ h => h) (Or.inl ⟨by rfl, ?_⟩) ?_ ?_
          rotate_left
          · intro w'
            go_simp
            with_reducible rfl
          rotate_left
          · simp only [Act.put, List.setIfInBounds_toArray, List.set_cons_zero, List.set_cons_succ, i64_w, i32_w]
            rfl
          refine pure_ (i := 10) (N := some 10) (v := ?_) (a' := ?_) #[true, true, true, true, true, true, true, true, true, true, true, false, false] rfl rfl (by kernel_rfl) (fun _ _ _ h => h) (Or.inl ⟨by rfl, ?_⟩) ?_ ?_
          rotate_left
          · intro w'
            go_simp
            with_reducible rfl
          rotate_left
          · simp only [Act.put, List.setIfInBounds_toArray, List.set_cons_zero, List.set_cons_succ, i64_w, i32_w]
            rfl
          refine pure_ (i := 11) (N := some 11) (v := ?_) (a' := ?_) #[true, true, true, true, true, true, true, true, true, true, true, true, false] rfl rfl (by kernel_rfl) (fun _ _ _ h => h) (Or.inl ⟨by rfl, ?_⟩) ?_ ?_
          rotate_left
          · intro w'
            go_simp
            with_reducible rfl
          rotate_left
          · simp only [Act.put, List.setIfInBounds_toArray, List.set_cons_zero, List.set_cons_succ, i64_w, i32_w]
            rfl
          refine last_ (i := 12) (N := none) #[true, true, true, true, true, true, true, true, true, true, true, true, true] rfl rfl (by kernel_rfl) (by decide) (fun K hK => ?_)
          obtain ⟨z0, z1, _⟩ := HV.out.cells
          have zf0 := HV.out.frz 0
          have zf1 := HV.out.frz 1
          refine skip_ (w1 := ?_) (by rfl) rfl ?_ ?_
          rotate_left
          · go_simp
            rfl
          refine hK.out _ _ ?_
          clear hK K
          refine done_ (by kernel_rfl) ?_
          have hg := HV.out.cells.2.2
          clear z0 z1 zf0 zf1 x0 x1
          go_wp2
          go_meet
          refine ⟨p, q, r, z, Ap, cp, Aq, cq, Ar, cr, _, Az, cz, rfl, rfl, rfl, rfl, ⟨(Hp.out.far (by omega) _ _).fl⟩, ⟨(Hq.out.far (by omega) _ _).fl⟩, ⟨(Hr.out.far (by omega) _ _).fl⟩, ⟨HV.out.set Hz.out⟩, LZ, ⟨?_⟩⟩
          have hBe := HB.out.trans (hHeld.mono HB.out.size)
          have hBs := HB.out.size
          exact (hBe.setCell (by show w.heap.size ≤ _; (try dsimp only); omega) _).setCell (by show w.heap.size ≤ _; (try dsimp only); omega) _
      · refine value_ (w1 := ?_) (v := ?_) (by rfl) rfl ?_ ?_
        rotate_left 2
        · go_simp
          constructor
          · rfl
          · rfl
        obtain ⟨y2, hX⟩ : ∃ X, y1.alloc (.cells #[.bool false, .slice none 0 0] 25) = X := ⟨_, rfl⟩
        have nX : Below y1.heap.size y1 y2 := by rw [← hX]; exact (Below.refl _ _).alloc (Nat.le_refl _) _
        have HV : Aside0 (BV y2 y1.heap.size none 0 0) := ⟨by rw [← hX]; exact BV.zero y1⟩
        have HH : Aside0 (Below w1.heap.size w1 y2) := ⟨hHeld.trans (nX.mono hHeld.size)⟩
        replace Hp := Aside0.mk (Hp.out.below nX)
        have hzy2 : y1.heap.size < y2.heap.size := by rw [← hX]; show _ < (Array.push _ _).size; rw [Array.size_push]; omega
        rw [hX]
        clear hX nX
        refine hK.out _ _ HH.out ?_
        clear hHeld hK K HH
        intro hHeld
        refine norm_ (a' := ?_) ?_ ?_
        rotate_left
        · show Act.put _ (some 12) _ = _
          simp only [Act.put, List.setIfInBounds_toArray, List.set_cons_zero, List.set_cons_succ, i64_w, i32_w]
          rfl
        refine one_ (i := 3) (N := some 48) #[true, true, true, true, true, false, true, false, true, false, false, false, false] rfl rfl (by kernel_rfl) (by decide) (fun K hK => ?_)
        refine goes_ Try.func33 (by kernel_rfl) rfl #[.slice A2 n2 c2] (by rfl) rfl rfl (by (try simp only [List.map_toArray, List.map_cons, List.map_nil]); first | done | rfl) ?_
        refine (tame_w A2 n2 c2 l2 hn2 hc2 HO2.out hs2 _ (Kd.C_below R2.out (HB.out.trans (hHeld.mono HB.out.size)))).mono ?_
        rintro e y3 ⟨q, Aq, cq, rfl, Hq, hB⟩
        refine ⟨_, rfl, ?_⟩
        have HH : Aside0 (Below w1.heap.size w1 y3) := ⟨hHeld.trans (hB.out.mono hHeld.size)⟩
        replace Hp := Aside0.mk (Hp.out.below hB.out)
        replace HV := Aside0.mk (HV.out.below hB.out)
        have hzy3 : y2.heap.size ≤ y3.heap.size := hB.out.size
        clear hB
        refine hK.out _ _ HH.out ?_
        clear hHeld hK K HH
        intro hHeld
        refine norm_ (a' := ?_) ?_ ?_
        rotate_left
        · show Act.put _ (some 48) _ = _
          simp only [Act.put, List.setIfInBounds_toArray, List.set_cons_zero, List.set_cons_succ, i64_w, i32_w]
          rfl
        refine one_ (i := 5) (N := some 50) #[true, true, true, true, true, true, true, false, true, false, false, false, false] rfl rfl (by kernel_rfl) (by decide) (fun K hK => ?_)
        refine goes_ Try.func33 (by kernel_rfl) rfl #[.slice A3 n3 c3] (by rfl) rfl rfl (by (try simp only [List.map_toArray, List.map_cons, List.map_nil]); first | done | rfl) ?_
        refine (tame_w A3 n3 c3 l3 hn3 hc3 HO3.out hs3 _ (Kd.C_below R3.out (HB.out.trans (hHeld.mono HB.out.size)))).mono ?_
        rintro e y4 ⟨r, Ar, cr, rfl, Hr, hB⟩
        refine ⟨_, rfl, ?_⟩
        have HH : Aside0 (Below w1.heap.size w1 y4) := ⟨hHeld.trans (hB.out.mono hHeld.size)⟩
        replace Hp := Aside0.mk (Hp.out.below hB.out)
        replace HV := Aside0.mk (HV.out.below hB.out)
        replace Hq := Aside0.mk (Hq.out.below hB.out)
        have hzy4 : y3.heap.size ≤ y4.heap.size := hB.out.size
        clear hB
        refine hK.out _ _ HH.out ?_
        clear hHeld hK K HH
        intro hHeld
        refine norm_ (a' := ?_) ?_ ?_
        rotate_left
        · show Act.put _ (some 50) _ = _
          simp only [Act.put, List.setIfInBounds_toArray, List.set_cons_zero, List.set_cons_succ, i64_w, i32_w]
          rfl
        refine one_ (i := 7) (N := some 52) #[true, true, true, true, true, true, true, true, true, false, false, false, false] rfl rfl (by kernel_rfl) (by decide) (fun K hK => ?_)
        refine goes_ Try.func34 (by kernel_rfl) rfl #[.agg #[.bool s, .slice A4 l4.length c4]] (by rfl) rfl rfl (by (try simp only [List.map_toArray, List.map_cons, List.map_nil]); first | done | rfl) ?_
        refine (number_z s A4 c4 l4 hc4 HO4.out hm4 _ (Kd.C_below R4.out (HB.out.trans (hHeld.mono HB.out.size)))).mono ?_
        rintro e y5 ⟨z, lz, Az, cz, rfl, Hz, hB⟩
        refine ⟨_, rfl, ?_⟩
        have HH : Aside0 (Below w1.heap.size w1 y5) := ⟨hHeld.trans (hB.out.mono hHeld.size)⟩
        replace Hp := Aside0.mk (Hp.out.below hB.out)
        replace HV := Aside0.mk (HV.out.below hB.out)
        replace Hq := Aside0.mk (Hq.out.below hB.out)
        replace Hr := Aside0.mk (Hr.out.below hB.out)
        have hzy5 : y4.heap.size ≤ y5.heap.size := hB.out.size
        clear hB
        have LZ := Aside0.mk lz
        clear lz
        refine hK.out _ _ HH.out ?_
        clear hHeld hK K HH
        intro hHeld
        refine norm_ (a' := ?_) ?_ ?_
        rotate_left
        · show Act.put _ (some 52) _ = _
          simp only [Act.put, List.setIfInBounds_toArray, List.set_cons_zero, List.set_cons_succ, i64_w, i32_w]
          rfl
        refine pure_ (i := 9) (N := some 9) (v := ?_) (a' := ?_) #[true, true, true, true, true, true, true, true, true, true, false, false, false] rfl rfl (by kernel_rfl) (fun _ _ _ h => h) (Or.inl ⟨by rfl, ?_⟩) ?_ ?_
        rotate_left
        · intro w'
          go_simp
          with_reducible rfl
        rotate_left
        · simp only [Act.put, List.setIfInBounds_toArray, List.set_cons_zero, List.set_cons_succ, i64_w, i32_w]
          rfl
        refine pure_ (i := 10) (N := some 10) (v := ?_) (a' := ?_) #[true, true, true, true, true, true, true, true, true, true, true, false, false] rfl rfl (by kernel_rfl) (fun _ _ _ h => h) (Or.inl ⟨by rfl, ?_⟩) ?_ ?_
        rotate_left
        · intro w'
          go_simp
          with_reducible rfl
        rotate_left
        · simp only [Act.put, List.setIfInBounds_toArray, List.set_cons_zero, List.set_cons_succ, i64_w, i32_w]
          rfl
        refine pure_ (i := 11) (N := some 11) (v := ?_) (a' := ?_) #[true, true, true, true, true, true, true, true, true, true, true, true, false] rfl rfl (by kernel_rfl) (fun _ _ _ h => h) (Or.inl ⟨by rfl, ?_⟩) ?_ ?_
        rotate_left
        · intro w'
          go_simp
          with_reducible rfl
        rotate_left
        · simp only [Act.put, List.setIfInBounds_toArray, List.set_cons_zero, List.set_cons_succ, i64_w, i32_w]
          rfl
        refine last_ (i := 12) (N := none) #[true, true, true, true, true, true, true, true, true, true, true, true, true] rfl rfl (by kernel_rfl) (by decide) (fun K hK => ?_)
        obtain ⟨z0, z1, _⟩ := HV.out.cells
        have zf0 := HV.out.frz 0
        have zf1 := HV.out.frz 1
        refine skip_ (w1 := ?_) (by rfl) rfl ?_ ?_
        rotate_left
        · go_simp
          rfl
        refine hK.out _ _ ?_
        clear hK K
        refine done_ (by kernel_rfl) ?_
        have hg := HV.out.cells.2.2
        clear z0 z1 zf0 zf1 x0 x1
        go_wp2
        go_meet
        refine ⟨p, q, r, z, Ap, cp, Aq, cq, Ar, cr, _, Az, cz, rfl, rfl, rfl, rfl, ⟨(Hp.out.far (by omega) _ _).fl⟩, ⟨(Hq.out.far (by omega) _ _).fl⟩, ⟨(Hr.out.far (by omega) _ _).fl⟩, ⟨HV.out.set Hz.out⟩, LZ, ⟨?_⟩⟩
        have hBe := HB.out.trans (hHeld.mono HB.out.size)
        have hBs := HB.out.size
        exact (hBe.setCell (by show w.heap.size ≤ _; (try dsimp only); omega) _).setCell (by show w.heap.size ≤ _; (try dsimp only); omega) _
    · refine value_ (w1 := ?_) (v := ?_) (by rfl) rfl ?_ ?_
      rotate_left 2
      · go_simp
        constructor
        · rfl
        · rfl
      obtain ⟨y1, hX⟩ : ∃ X, WD.alloc (.cells #[.bool false, .slice none 0 0] 25) = X := ⟨_, rfl⟩
      have nX : Below WD.heap.size WD y1 := by rw [← hX]; exact (Below.refl _ _).alloc (Nat.le_refl _) _
      have HV : Aside0 (BV y1 WD.heap.size none 0 0) := ⟨by rw [← hX]; exact BV.zero WD⟩
      have HH : Aside0 (Below w1.heap.size w1 y1) := ⟨hHeld.trans (nX.mono hHeld.size)⟩
      have hzy1 : WD.heap.size < y1.heap.size := by rw [← hX]; show _ < (Array.push _ _).size; rw [Array.size_push]; omega
      rw [hX]
      clear hX nX
      refine hK.out _ _ HH.out ?_
      clear hHeld hK K HH
      intro hHeld
      refine norm_ (a' := ?_) ?_ ?_
      rotate_left
      · show Act.put _ (some 12) _ = _
        simp only [Act.put, List.setIfInBounds_toArray, List.set_cons_zero, List.set_cons_succ, i64_w, i32_w]
        rfl
      refine one_ (i := 1) (N := some 46) #[true, true, true, false, true, false, true, false, true, false, false, false, false] rfl rfl (by kernel_rfl) (by decide) (fun K hK => ?_)
      refine goes_ Try.func33 (by kernel_rfl) rfl #[.slice A1 n1 c1] (by rfl) rfl rfl (by (try simp only [List.map_toArray, List.map_cons, List.map_nil]); first | done | rfl) ?_
      refine (tame_w A1 n1 c1 l1 hn1 hc1 HO1.out hs1 _ (Kd.C_below R1.out (HB.out.trans (hHeld.mono HB.out.size)))).mono ?_
      rintro e y2 ⟨p, Ap, cp, rfl, Hp, hB⟩
      refine ⟨_, rfl, ?_⟩
      have HH : Aside0 (Below w1.heap.size w1 y2) := ⟨hHeld.trans (hB.out.mono hHeld.size)⟩
      replace HV := Aside0.mk (HV.out.below hB.out)
      have hzy2 : y1.heap.size ≤ y2.heap.size := hB.out.size
      clear hB
      refine hK.out _ _ HH.out ?_
      clear hHeld hK K HH
      intro hHeld
      refine norm_ (a' := ?_) ?_ ?_
      rotate_left
      · show Act.put _ (some 46) _ = _
        simp only [Act.put, List.setIfInBounds_toArray, List.set_cons_zero, List.set_cons_succ, i64_w, i32_w]
        rfl
      refine one_ (i := 3) (N := some 48) #[true, true, true, true, true, false, true, false, true, false, false, false, false] rfl rfl (by kernel_rfl) (by decide) (fun K hK => ?_)
      refine goes_ Try.func33 (by kernel_rfl) rfl #[.slice A2 n2 c2] (by rfl) rfl rfl (by (try simp only [List.map_toArray, List.map_cons, List.map_nil]); first | done | rfl) ?_
      refine (tame_w A2 n2 c2 l2 hn2 hc2 HO2.out hs2 _ (Kd.C_below R2.out (HB.out.trans (hHeld.mono HB.out.size)))).mono ?_
      rintro e y3 ⟨q, Aq, cq, rfl, Hq, hB⟩
      refine ⟨_, rfl, ?_⟩
      have HH : Aside0 (Below w1.heap.size w1 y3) := ⟨hHeld.trans (hB.out.mono hHeld.size)⟩
      replace HV := Aside0.mk (HV.out.below hB.out)
      replace Hp := Aside0.mk (Hp.out.below hB.out)
      have hzy3 : y2.heap.size ≤ y3.heap.size := hB.out.size
      clear hB
      refine hK.out _ _ HH.out ?_
      clear hHeld hK K HH
      intro hHeld
      refine norm_ (a' := ?_) ?_ ?_
      rotate_left
      · show Act.put _ (some 48) _ = _
        simp only [Act.put, List.setIfInBounds_toArray, List.set_cons_zero, List.set_cons_succ, i64_w, i32_w]
        rfl
      refine one_ (i := 5) (N := some 50) #[true, true, true, true, true, true, true, false, true, false, false, false, false] rfl rfl (by kernel_rfl) (by decide) (fun K hK => ?_)
      refine goes_ Try.func33 (by kernel_rfl) rfl #[.slice A3 n3 c3] (by rfl) rfl rfl (by (try simp only [List.map_toArray, List.map_cons, List.map_nil]); first | done | rfl) ?_
      refine (tame_w A3 n3 c3 l3 hn3 hc3 HO3.out hs3 _ (Kd.C_below R3.out (HB.out.trans (hHeld.mono HB.out.size)))).mono ?_
      rintro e y4 ⟨r, Ar, cr, rfl, Hr, hB⟩
      refine ⟨_, rfl, ?_⟩
      have HH : Aside0 (Below w1.heap.size w1 y4) := ⟨hHeld.trans (hB.out.mono hHeld.size)⟩
      replace HV := Aside0.mk (HV.out.below hB.out)
      replace Hp := Aside0.mk (Hp.out.below hB.out)
      replace Hq := Aside0.mk (Hq.out.below hB.out)
      have hzy4 : y3.heap.size ≤ y4.heap.size := hB.out.size
      clear hB
      refine hK.out _ _ HH.out ?_
      clear hHeld hK K HH
      intro hHeld
      refine norm_ (a' := ?_) ?_ ?_
      rotate_left
      · show Act.put _ (some 50) _ = _
        simp only [Act.put, List.setIfInBounds_toArray, List.set_cons_zero, List.set_cons_succ, i64_w, i32_w]
        rfl
      refine one_ (i := 7) (N := some 52) #[true, true, true, true, true, true, true, true, true, false, false, false, false] rfl rfl (by kernel_rfl) (by decide) (fun K hK => ?_)
      refine goes_ Try.func34 (by kernel_rfl) rfl #[.agg #[.bool s, .slice A4 l4.length c4]] (by rfl) rfl rfl (by (try simp only [List.map_toArray, List.map_cons, List.map_nil]); first | done | rfl) ?_
      refine (number_z s A4 c4 l4 hc4 HO4.out hm4 _ (Kd.C_below R4.out (HB.out.trans (hHeld.mono HB.out.size)))).mono ?_
      rintro e y5 ⟨z, lz, Az, cz, rfl, Hz, hB⟩
      refine ⟨_, rfl, ?_⟩
      have HH : Aside0 (Below w1.heap.size w1 y5) := ⟨hHeld.trans (hB.out.mono hHeld.size)⟩
      replace HV := Aside0.mk (HV.out.below hB.out)
      replace Hp := Aside0.mk (Hp.out.below hB.out)
      replace Hq := Aside0.mk (Hq.out.below hB.out)
      replace Hr := Aside0.mk (Hr.out.below hB.out)
      have hzy5 : y4.heap.size ≤ y5.heap.size := hB.out.size
      clear hB
      have LZ := Aside0.mk lz
      clear lz
      refine hK.out _ _ HH.out ?_
      clear hHeld hK K HH
      intro hHeld
      refine norm_ (a' := ?_) ?_ ?_
      rotate_left
      · show Act.put _ (some 52) _ = _
        simp only [Act.put, List.setIfInBounds_toArray, List.set_cons_zero, List.set_cons_succ, i64_w, i32_w]
        rfl
      refine pure_ (i := 9) (N := some 9) (v := ?_) (a' := ?_) #[true, true, true, true, true, true, true, true, true, true, false, false, false] rfl rfl (by kernel_rfl) (fun _ _ _ h => h) (Or.inl ⟨by rfl, ?_⟩) ?_ ?_
      rotate_left
      · intro w'
        go_simp
        with_reducible rfl
      rotate_left
      · simp only [Act.put, List.setIfInBounds_toArray, List.set_cons_zero, List.set_cons_succ, i64_w, i32_w]
        rfl
      refine pure_ (i := 10) (N := some 10) (v := ?_) (a' := ?_) #[true, true, true, true, true, true, true, true, true, true, true, false, false] rfl rfl (by kernel_rfl) (fun _ _ _ h => h) (Or.inl ⟨by rfl, ?_⟩) ?_ ?_
      rotate_left
      · intro w'
        go_simp
        with_reducible rfl
      rotate_left
      · simp only [Act.put, List.setIfInBounds_toArray, List.set_cons_zero, List.set_cons_succ, i64_w, i32_w]
        rfl
      refine pure_ (i := 11) (N := some 11) (v := ?_) (a' := ?_) #[true, true, true, true, true, true, true, true, true, true, true, true, false] rfl rfl (by kernel_rfl) (fun _ _ _ h => h) (Or.inl ⟨by rfl, ?_⟩) ?_ ?_
      rotate_left
      · intro w'
        go_simp
        with_reducible rfl
      rotate_left
      · simp only [Act.put, List.setIfInBounds_toArray, List.set_cons_zero, List.set_cons_succ, i64_w, i32_w]
        rfl
      refine last_ (i := 12) (N := none) #[true, true, true, true, true, true, true, true, true, true, true, true, true] rfl rfl (by kernel_rfl) (by decide) (fun K hK => ?_)
      obtain ⟨z0, z1, _⟩ := HV.out.cells
      have zf0 := HV.out.frz 0
      have zf1 := HV.out.frz 1
      refine skip_ (w1 := ?_) (by rfl) rfl ?_ ?_
      rotate_left
      · go_simp
        rfl
      refine hK.out _ _ ?_
      clear hK K
      refine done_ (by kernel_rfl) ?_
      have hg := HV.out.cells.2.2
      clear z0 z1 zf0 zf1 x0 x1
      go_wp2
      go_meet
      refine ⟨p, q, r, z, Ap, cp, Aq, cq, Ar, cr, _, Az, cz, rfl, rfl, rfl, rfl, ⟨(Hp.out.far (by omega) _ _).fl⟩, ⟨(Hq.out.far (by omega) _ _).fl⟩, ⟨(Hr.out.far (by omega) _ _).fl⟩, ⟨HV.out.set Hz.out⟩, LZ, ⟨?_⟩⟩
      have hBe := HB.out.trans (hHeld.mono HB.out.size)
      have hBs := HB.out.size
      exact (hBe.setCell (by show w.heap.size ≤ _; (try dsimp only); omega) _).setCell (by show w.heap.size ≤ _; (try dsimp only); omega) _
  case rest =>
    obtain ⟨p, q, r, z, Ap, cp, Aq, cq, Ar, cr, g, Az, cz, rfl, rfl, rfl, rfl, Hp, Hq, Hr, Hz, lz, HB⟩ := hcut
    rename World => wx
    go_wp2_with fail
    have TT := Lib.hid (times_f Hp.out Hq.out (by omega) (by omega) (by omega) (by omega))
    obtain ⟨pq, hpq⟩ : ∃ x, tm p q = x := ⟨_, rfl⟩
    rw [hpq] at TT
    have Epq := Aside0.mk hpq
    clear hpq
    refine (TT.out).mono ?_
    rintro e w4 ⟨Apq, cpq, rfl, Hpq, hB⟩
    replace Hp := Aside0.mk (Hp.out.below hB.out)
    replace Hq := Aside0.mk (Hq.out.below hB.out)
    replace Hr := Aside0.mk (Hr.out.below hB.out)
    replace Hz := Aside0.mk (Hz.out.below hB.out)
    replace HB : Aside0 (Below w.heap.size w w4) := ⟨HB.out.trans (hB.out.mono HB.out.size)⟩
    clear hB TT
    go_wp2_with fail
    have TT := Lib.hid (times_f Hq.out Hp.out (by omega) (by omega) (by omega) (by omega))
    obtain ⟨qp, hqp⟩ : ∃ x, tm q p = x := ⟨_, rfl⟩
    rw [hqp] at TT
    have Eqp := Aside0.mk hqp
    clear hqp
    refine (TT.out).mono ?_
    rintro e w5 ⟨Aqp, cqp, rfl, Hqp, hB⟩
    replace Hp := Aside0.mk (Hp.out.below hB.out)
    replace Hq := Aside0.mk (Hq.out.below hB.out)
    replace Hr := Aside0.mk (Hr.out.below hB.out)
    replace Hz := Aside0.mk (Hz.out.below hB.out)
    replace Hpq := Aside0.mk (Hpq.out.below hB.out)
    replace HB : Aside0 (Below w.heap.size w w5) := ⟨HB.out.trans (hB.out.mono HB.out.size)⟩
    clear hB TT
    go_wp2_with fail
    have TT := Lib.hid (times_f Hpq.out Hr.out (by omega) (by omega) (by omega) (by omega))
    obtain ⟨le, hle⟩ : ∃ x, tm pq r = x := ⟨_, rfl⟩
    rw [hle] at TT
    have Ele := Aside0.mk hle
    clear hle
    refine (TT.out).mono ?_
    rintro e w6 ⟨Ale, cle, rfl, Hle, hB⟩
    replace Hp := Aside0.mk (Hp.out.below hB.out)
    replace Hq := Aside0.mk (Hq.out.below hB.out)
    replace Hr := Aside0.mk (Hr.out.below hB.out)
    replace Hz := Aside0.mk (Hz.out.below hB.out)
    replace Hpq := Aside0.mk (Hpq.out.below hB.out)
    replace Hqp := Aside0.mk (Hqp.out.below hB.out)
    replace HB : Aside0 (Below w.heap.size w w6) := ⟨HB.out.trans (hB.out.mono HB.out.size)⟩
    clear hB TT
    go_wp2_with fail
    have TT := Lib.hid (times_f Hq.out Hr.out (by omega) (by omega) (by omega) (by omega))
    obtain ⟨qr, hqr⟩ : ∃ x, tm q r = x := ⟨_, rfl⟩
    rw [hqr] at TT
    have Eqr := Aside0.mk hqr
    clear hqr
    refine (TT.out).mono ?_
    rintro e w7 ⟨Aqr, cqr, rfl, Hqr, hB⟩
    replace Hp := Aside0.mk (Hp.out.below hB.out)
    replace Hq := Aside0.mk (Hq.out.below hB.out)
    replace Hr := Aside0.mk (Hr.out.below hB.out)
    replace Hz := Aside0.mk (Hz.out.below hB.out)
    replace Hpq := Aside0.mk (Hpq.out.below hB.out)
    replace Hqp := Aside0.mk (Hqp.out.below hB.out)
    replace Hle := Aside0.mk (Hle.out.below hB.out)
    replace HB : Aside0 (Below w.heap.size w w7) := ⟨HB.out.trans (hB.out.mono HB.out.size)⟩
    clear hB TT
    go_wp2_with fail
    have TT := Lib.hid (times_f Hp.out Hqr.out (by omega) (by omega) (by omega) (by omega))
    obtain ⟨ri, hri⟩ : ∃ x, tm p qr = x := ⟨_, rfl⟩
    rw [hri] at TT
    have Eri := Aside0.mk hri
    clear hri
    refine (TT.out).mono ?_
    rintro e w8 ⟨Ari, cri, rfl, Hri, hB⟩
    replace Hp := Aside0.mk (Hp.out.below hB.out)
    replace Hq := Aside0.mk (Hq.out.below hB.out)
    replace Hr := Aside0.mk (Hr.out.below hB.out)
    replace Hz := Aside0.mk (Hz.out.below hB.out)
    replace Hpq := Aside0.mk (Hpq.out.below hB.out)
    replace Hqp := Aside0.mk (Hqp.out.below hB.out)
    replace Hle := Aside0.mk (Hle.out.below hB.out)
    replace Hqr := Aside0.mk (Hqr.out.below hB.out)
    replace HB : Aside0 (Below w.heap.size w w8) := ⟨HB.out.trans (hB.out.mono HB.out.size)⟩
    clear hB TT
    go_wp2_with fail
    have TT := Lib.hid (add_f Hq.out Hr.out (by omega) (by omega) (by omega) (by omega))
    obtain ⟨s2, hs2⟩ : ∃ x, ad q r = x := ⟨_, rfl⟩
    rw [hs2] at TT
    have Es2 := Aside0.mk hs2
    clear hs2
    refine (TT.out).mono ?_
    rintro e w9 ⟨As2, cs2, rfl, Hs2, hB⟩
    replace Hp := Aside0.mk (Hp.out.below hB.out)
    replace Hq := Aside0.mk (Hq.out.below hB.out)
    replace Hr := Aside0.mk (Hr.out.below hB.out)
    replace Hz := Aside0.mk (Hz.out.below hB.out)
    replace Hpq := Aside0.mk (Hpq.out.below hB.out)
    replace Hqp := Aside0.mk (Hqp.out.below hB.out)
    replace Hle := Aside0.mk (Hle.out.below hB.out)
    replace Hqr := Aside0.mk (Hqr.out.below hB.out)
    replace Hri := Aside0.mk (Hri.out.below hB.out)
    replace HB : Aside0 (Below w.heap.size w w9) := ⟨HB.out.trans (hB.out.mono HB.out.size)⟩
    clear hB TT
    go_wp2_with fail
    have TT := Lib.hid (add_f Hr.out Hq.out (by omega) (by omega) (by omega) (by omega))
    obtain ⟨t2, ht2⟩ : ∃ x, ad r q = x := ⟨_, rfl⟩
    rw [ht2] at TT
    have Et2 := Aside0.mk ht2
    clear ht2
    refine (TT.out).mono ?_
    rintro e w10 ⟨At2, ct2, rfl, Ht2, hB⟩
    replace Hp := Aside0.mk (Hp.out.below hB.out)
    replace Hq := Aside0.mk (Hq.out.below hB.out)
    replace Hr := Aside0.mk (Hr.out.below hB.out)
    replace Hz := Aside0.mk (Hz.out.below hB.out)
    replace Hpq := Aside0.mk (Hpq.out.below hB.out)
    replace Hqp := Aside0.mk (Hqp.out.below hB.out)
    replace Hle := Aside0.mk (Hle.out.below hB.out)
    replace Hqr := Aside0.mk (Hqr.out.below hB.out)
    replace Hri := Aside0.mk (Hri.out.below hB.out)
    replace Hs2 := Aside0.mk (Hs2.out.below hB.out)
    replace HB : Aside0 (Below w.heap.size w w10) := ⟨HB.out.trans (hB.out.mono HB.out.size)⟩
    clear hB TT
    go_wp2_with fail
    have TT := Lib.hid (times_f Hp.out Hs2.out (by omega) (by omega) (by omega) (by omega))
    obtain ⟨ps, hps⟩ : ∃ x, tm p s2 = x := ⟨_, rfl⟩
    rw [hps] at TT
    have Eps := Aside0.mk hps
    clear hps
    refine (TT.out).mono ?_
    rintro e w11 ⟨Aps, cps, rfl, Hps, hB⟩
    replace Hp := Aside0.mk (Hp.out.below hB.out)
    replace Hq := Aside0.mk (Hq.out.below hB.out)
    replace Hr := Aside0.mk (Hr.out.below hB.out)
    replace Hz := Aside0.mk (Hz.out.below hB.out)
    replace Hpq := Aside0.mk (Hpq.out.below hB.out)
    replace Hqp := Aside0.mk (Hqp.out.below hB.out)
    replace Hle := Aside0.mk (Hle.out.below hB.out)
    replace Hqr := Aside0.mk (Hqr.out.below hB.out)
    replace Hri := Aside0.mk (Hri.out.below hB.out)
    replace Hs2 := Aside0.mk (Hs2.out.below hB.out)
    replace Ht2 := Aside0.mk (Ht2.out.below hB.out)
    replace HB : Aside0 (Below w.heap.size w w11) := ⟨HB.out.trans (hB.out.mono HB.out.size)⟩
    clear hB TT
    go_wp2_with fail
    have TT := Lib.hid (times_f Hp.out Hr.out (by omega) (by omega) (by omega) (by omega))
    obtain ⟨pr, hpr⟩ : ∃ x, tm p r = x := ⟨_, rfl⟩
    rw [hpr] at TT
    have Epr := Aside0.mk hpr
    clear hpr
    refine (TT.out).mono ?_
    rintro e w12 ⟨Apr, cpr, rfl, Hpr, hB⟩
    replace Hp := Aside0.mk (Hp.out.below hB.out)
    replace Hq := Aside0.mk (Hq.out.below hB.out)
    replace Hr := Aside0.mk (Hr.out.below hB.out)
    replace Hz := Aside0.mk (Hz.out.below hB.out)
    replace Hpq := Aside0.mk (Hpq.out.below hB.out)
    replace Hqp := Aside0.mk (Hqp.out.below hB.out)
    replace Hle := Aside0.mk (Hle.out.below hB.out)
    replace Hqr := Aside0.mk (Hqr.out.below hB.out)
    replace Hri := Aside0.mk (Hri.out.below hB.out)
    replace Hs2 := Aside0.mk (Hs2.out.below hB.out)
    replace Ht2 := Aside0.mk (Ht2.out.below hB.out)
    replace Hps := Aside0.mk (Hps.out.below hB.out)
    replace HB : Aside0 (Below w.heap.size w w12) := ⟨HB.out.trans (hB.out.mono HB.out.size)⟩
    clear hB TT
    go_wp2_with fail
    have TT := Lib.hid (add_f Hpq.out Hpr.out (by omega) (by omega) (by omega) (by omega))
    obtain ⟨su, hsu⟩ : ∃ x, ad pq pr = x := ⟨_, rfl⟩
    rw [hsu] at TT
    have Esu := Aside0.mk hsu
    clear hsu
    refine (TT.out).mono ?_
    rintro e w13 ⟨Asu, csu, rfl, Hsu, hB⟩
    replace Hp := Aside0.mk (Hp.out.below hB.out)
    replace Hq := Aside0.mk (Hq.out.below hB.out)
    replace Hr := Aside0.mk (Hr.out.below hB.out)
    replace Hz := Aside0.mk (Hz.out.below hB.out)
    replace Hpq := Aside0.mk (Hpq.out.below hB.out)
    replace Hqp := Aside0.mk (Hqp.out.below hB.out)
    replace Hle := Aside0.mk (Hle.out.below hB.out)
    replace Hqr := Aside0.mk (Hqr.out.below hB.out)
    replace Hri := Aside0.mk (Hri.out.below hB.out)
    replace Hs2 := Aside0.mk (Hs2.out.below hB.out)
    replace Ht2 := Aside0.mk (Ht2.out.below hB.out)
    replace Hps := Aside0.mk (Hps.out.below hB.out)
    replace Hpr := Aside0.mk (Hpr.out.below hB.out)
    replace HB : Aside0 (Below w.heap.size w w13) := ⟨HB.out.trans (hB.out.mono HB.out.size)⟩
    clear hB TT
    go_wp2_with fail
    refine (same_f (p := pq) (q := qp) (by rw [← Epq.out, ← Eqp.out]; exact tm_comm p q) Hpq.out Hqp.out (by omega) (by omega)).mono ?_
    rintro e w14 ⟨rfl, hB⟩
    replace Hp := Aside0.mk (Hp.out.below hB.out)
    replace Hq := Aside0.mk (Hq.out.below hB.out)
    replace Hr := Aside0.mk (Hr.out.below hB.out)
    replace Hz := Aside0.mk (Hz.out.below hB.out)
    replace Hpq := Aside0.mk (Hpq.out.below hB.out)
    replace Hqp := Aside0.mk (Hqp.out.below hB.out)
    replace Hle := Aside0.mk (Hle.out.below hB.out)
    replace Hqr := Aside0.mk (Hqr.out.below hB.out)
    replace Hri := Aside0.mk (Hri.out.below hB.out)
    replace Hs2 := Aside0.mk (Hs2.out.below hB.out)
    replace Ht2 := Aside0.mk (Ht2.out.below hB.out)
    replace Hps := Aside0.mk (Hps.out.below hB.out)
    replace Hpr := Aside0.mk (Hpr.out.below hB.out)
    replace Hsu := Aside0.mk (Hsu.out.below hB.out)
    replace HB : Aside0 (Below w.heap.size w w14) := ⟨HB.out.trans (hB.out.mono HB.out.size)⟩
    clear hB
    go_wp2_with fail
    refine (same_f (p := le) (q := ri) (by rw [← Ele.out, ← Eri.out, ← Epq.out, ← Eqr.out]; exact tm_assoc p q r) Hle.out Hri.out (by omega) (by omega)).mono ?_
    rintro e w15 ⟨rfl, hB⟩
    replace Hp := Aside0.mk (Hp.out.below hB.out)
    replace Hq := Aside0.mk (Hq.out.below hB.out)
    replace Hr := Aside0.mk (Hr.out.below hB.out)
    replace Hz := Aside0.mk (Hz.out.below hB.out)
    replace Hpq := Aside0.mk (Hpq.out.below hB.out)
    replace Hqp := Aside0.mk (Hqp.out.below hB.out)
    replace Hle := Aside0.mk (Hle.out.below hB.out)
    replace Hqr := Aside0.mk (Hqr.out.below hB.out)
    replace Hri := Aside0.mk (Hri.out.below hB.out)
    replace Hs2 := Aside0.mk (Hs2.out.below hB.out)
    replace Ht2 := Aside0.mk (Ht2.out.below hB.out)
    replace Hps := Aside0.mk (Hps.out.below hB.out)
    replace Hpr := Aside0.mk (Hpr.out.below hB.out)
    replace Hsu := Aside0.mk (Hsu.out.below hB.out)
    replace HB : Aside0 (Below w.heap.size w w15) := ⟨HB.out.trans (hB.out.mono HB.out.size)⟩
    clear hB
    go_wp2_with fail
    refine (same_f (p := s2) (q := t2) (by rw [← Es2.out, ← Et2.out]; exact ad_comm q r) Hs2.out Ht2.out (by omega) (by omega)).mono ?_
    rintro e w16 ⟨rfl, hB⟩
    replace Hp := Aside0.mk (Hp.out.below hB.out)
    replace Hq := Aside0.mk (Hq.out.below hB.out)
    replace Hr := Aside0.mk (Hr.out.below hB.out)
    replace Hz := Aside0.mk (Hz.out.below hB.out)
    replace Hpq := Aside0.mk (Hpq.out.below hB.out)
    replace Hqp := Aside0.mk (Hqp.out.below hB.out)
    replace Hle := Aside0.mk (Hle.out.below hB.out)
    replace Hqr := Aside0.mk (Hqr.out.below hB.out)
    replace Hri := Aside0.mk (Hri.out.below hB.out)
    replace Hs2 := Aside0.mk (Hs2.out.below hB.out)
    replace Ht2 := Aside0.mk (Ht2.out.below hB.out)
    replace Hps := Aside0.mk (Hps.out.below hB.out)
    replace Hpr := Aside0.mk (Hpr.out.below hB.out)
    replace Hsu := Aside0.mk (Hsu.out.below hB.out)
    replace HB : Aside0 (Below w.heap.size w w16) := ⟨HB.out.trans (hB.out.mono HB.out.size)⟩
    clear hB
    go_wp2_with fail
    refine (same_f (p := ps) (q := su) (by rw [← Eps.out, ← Esu.out, ← Epq.out, ← Epr.out, ← Es2.out]; exact tm_ad p q r) Hps.out Hsu.out (by omega) (by omega)).mono ?_
    rintro e w17 ⟨rfl, hB⟩
    replace Hp := Aside0.mk (Hp.out.below hB.out)
    replace Hq := Aside0.mk (Hq.out.below hB.out)
    replace Hr := Aside0.mk (Hr.out.below hB.out)
    replace Hz := Aside0.mk (Hz.out.below hB.out)
    replace Hpq := Aside0.mk (Hpq.out.below hB.out)
    replace Hqp := Aside0.mk (Hqp.out.below hB.out)
    replace Hle := Aside0.mk (Hle.out.below hB.out)
    replace Hqr := Aside0.mk (Hqr.out.below hB.out)
    replace Hri := Aside0.mk (Hri.out.below hB.out)
    replace Hs2 := Aside0.mk (Hs2.out.below hB.out)
    replace Ht2 := Aside0.mk (Ht2.out.below hB.out)
    replace Hps := Aside0.mk (Hps.out.below hB.out)
    replace Hpr := Aside0.mk (Hpr.out.below hB.out)
    replace Hsu := Aside0.mk (Hsu.out.below hB.out)
    replace HB : Aside0 (Below w.heap.size w w17) := ⟨HB.out.trans (hB.out.mono HB.out.size)⟩
    clear hB
    clear Hpq Hqp Hle Hqr Hri Hs2 Ht2 Hps Hpr Hsu Hq Hr Epq Eqp Ele Eqr Eri Es2 Et2 Eps Epr Esu
    obtain ⟨z0, z1, z2⟩ := Hz.out.cells
    have hzl := lz.out
    go_wp2_with fail
    have TN := Lib.hid (neg_z z (lim_le lz.out (by omega)) Az cz w17 Hz.out.rv)
    obtain ⟨m, hm⟩ : ∃ m, -z = m := ⟨_, rfl⟩
    rw [hm] at TN
    have Em := Aside0.mk hm
    clear hm hzl
    refine (TN.out).mono ?_
    rintro e w18 ⟨Am, cm, rfl, HM0, hB⟩
    replace Hp := Aside0.mk (Hp.out.below hB.out)
    replace Hz := Aside0.mk (Hz.out.below hB.out)
    replace HB : Aside0 (Below w.heap.size w w18) := ⟨HB.out.trans (hB.out.mono HB.out.size)⟩
    clear hB TN
    clear z0 z1 z2
    obtain ⟨z0, z1, z2⟩ := Hz.out.cells
    go_wp2_with fail
    obtain ⟨X1, hX⟩ : ∃ X, w18.alloc (.cells #[.bool (sg m), .slice Am (lm m).length cm] 25) = X := ⟨_, rfl⟩
    have nX : Below w18.heap.size w18 X1 := by rw [← hX]; exact (Below.refl _ _).alloc (Nat.le_refl _) _
    have HM : Aside0 (BV X1 w18.heap.size Am cm m) := ⟨by rw [← hX]; exact BV.new HM0.out⟩
    replace Hp := Aside0.mk (Hp.out.below nX)
    replace Hz := Aside0.mk (Hz.out.below nX)
    replace HM0 := Aside0.mk (HM0.out.below nX)
    replace HB : Aside0 (Below w.heap.size w X1) := ⟨HB.out.trans (nX.mono HB.out.size)⟩
    rw [hX]
    clear hX nX
    clear z0 z1 z2
    have TT := Lib.hid (sh_f Hp.out lz.out Hz.out.rv (by omega) (by omega) (by omega))
    obtain ⟨u, hu1⟩ : ∃ x, sf z p = x := ⟨_, rfl⟩
    rw [hu1] at TT
    have Eu := Aside0.mk hu1
    clear hu1
    refine (TT.out).mono ?_
    rintro e w19 ⟨Au, cu, rfl, Hu, hB⟩
    replace Hp := Aside0.mk (Hp.out.below hB.out)
    replace Hz := Aside0.mk (Hz.out.below hB.out)
    replace HM0 := Aside0.mk (HM0.out.below hB.out)
    replace HM := Aside0.mk (HM.out.below hB.out)
    replace HB : Aside0 (Below w.heap.size w w19) := ⟨HB.out.trans (hB.out.mono HB.out.size)⟩
    clear hB TT
    obtain ⟨z0, z1, z2⟩ := HM.out.cells
    go_wp2_with fail
    clear z0 z1 z2
    have TT := Lib.hid (sh_f (b := 4) Hu.out (by rw [← Em.out]; exact lim_neg lz.out) HM.out.rv (by omega) (by omega) (by omega))
    have hb1 : sf m u = p := by rw [← Em.out, ← Eu.out]; exact sf_back Hp.out.tg z
    rw [hb1] at TT
    clear hb1
    refine (TT.out).mono ?_
    rintro e w20 ⟨Ab, cb, rfl, Hb, hB⟩
    replace Hp := Aside0.mk (Hp.out.below hB.out)
    replace Hz := Aside0.mk (Hz.out.below hB.out)
    replace HM0 := Aside0.mk (HM0.out.below hB.out)
    replace HM := Aside0.mk (HM.out.below hB.out)
    replace Hu := Aside0.mk (Hu.out.below hB.out)
    replace HB : Aside0 (Below w.heap.size w w20) := ⟨HB.out.trans (hB.out.mono HB.out.size)⟩
    clear hB TT
    obtain ⟨z0, z1, z2⟩ := Hz.out.cells
    obtain ⟨k, hk⟩ : ∃ k, z + 2 = k := ⟨_, rfl⟩
    have lk : Aside0 (lim 5 k) := ⟨by rw [← hk]; exact lim_add lz.out (lim_le (lim_small (by decide)) (by omega))⟩
    have Ek := Aside0.mk hk
    clear hk
    go_upto_region 19 with fail
    go_cut [38, 39] (fun y1 y2 wy => CutTwo w20 k y1 y2 wy)
    case first =>
      have add_k : ∀ {W : World} {A1 A2 : Option Addr} {c1 c2 : Nat}, RV W A1 c1 z → RV W A2 c2 2 → Calls Try.prog 35 #[.agg #[.bool (sg z), .slice A1 (lm z).length c1], .agg #[.bool (sg 2), .slice A2 (lm 2).length c2]] W (OutZ W k) := fun r1 r2 => by rw [← Ek.out]; exact add_z z 2 (lim_le lz.out (by omega)) (lim_le (lim_small (by decide)) (by omega)) (by rw [Ek.out]; exact lim_le lk.out (by omega)) _ _ _ _ _ r1 r2
      refine start_ (n := 9) (S := fun w' => Below w20.heap.size w20 w') (ds := [7]) #[false, false, false, false, false, false, false, false, false] (by kernel_rfl) rfl rfl (Below.refl _ _).drew (fun hHeld => ?_)
      generalize w20.drew = WD at  hHeld ⊢
      have hzD : w20.heap.size ≤ WD.heap.size := hHeld.size
      refine take_ (i := 0) (N := some 165) (v := ?_) (a' := ?_) #[true, false, false, false, false, false, false, false, false] rfl rfl (by kernel_rfl) (fun _ _ _ h => h) (Or.inl ⟨by rfl, ?_⟩) hHeld ?_ ?_
      rotate_left
      · intro w' s0
        have e0 := pw_cell_below s0 z0
        have e1 := pw_cell_below s0 z1
        go_simp
        with_reducible rfl
      rotate_left
      · simp only [Act.put, List.setIfInBounds_toArray, List.set_cons_zero, List.set_cons_succ, i64_w, i32_w]
        rfl
      refine two_ (i := 1) (j := 6) (Ni := some 166) (Nj := some 38) #[true, true, false, false, false, false, false, false, false] #[true, false, false, false, false, false, true, false, false] rfl rfl rfl rfl (by kernel_rfl) (by decide) (by decide) (fun K hK => ?_) (fun K hK => ?_)
      · refine goes_ Try.func23 (by kernel_rfl) rfl #[.int .i64 2] (by rfl) rfl rfl (by (try simp only [List.map_toArray, List.map_cons, List.map_nil]); first | done | rfl) ?_
        refine (of_z 2 (by decide) (by decide) _).mono ?_
        rintro e y1 ⟨A2', c2', rfl, H2, hB⟩
        refine ⟨_, rfl, ?_⟩
        have HH : Aside0 (Below w20.heap.size w20 y1) := ⟨hHeld.trans (hB.out.mono hHeld.size)⟩
        have hzy1 : WD.heap.size ≤ y1.heap.size := hB.out.size
        clear hB
        refine hK.out _ _ HH.out ?_
        clear hHeld hK K HH
        intro hHeld
        refine norm_ (a' := ?_) ?_ ?_
        rotate_left
        · show Act.put _ (some 166) _ = _
          simp only [Act.put, List.setIfInBounds_toArray, List.set_cons_zero, List.set_cons_succ, i64_w, i32_w]
          rfl
        refine two_ (i := 2) (j := 6) (Ni := some 167) (Nj := some 38) #[true, true, true, false, false, false, false, false, false] #[true, true, false, false, false, false, true, false, false] rfl rfl rfl rfl (by kernel_rfl) (by decide) (by decide) (fun K hK => ?_) (fun K hK => ?_)
        · refine goes_ Try.func35 (by kernel_rfl) rfl #[.agg #[.bool (sg z), .slice Az (lm z).length cz], .agg #[.bool (sg 2), .slice A2' (lm 2).length c2']] (by rfl) rfl rfl (by (try simp only [List.map_toArray, List.map_cons, List.map_nil]); first | done | rfl) ?_
          refine (add_k (Hz.out.rv.below hHeld) H2.out).mono ?_
          rintro e y2 ⟨As, cs, rfl, HS, hB⟩
          refine ⟨_, rfl, ?_⟩
          have HH : Aside0 (Below w20.heap.size w20 y2) := ⟨hHeld.trans (hB.out.mono hHeld.size)⟩
          replace H2 := Aside0.mk (H2.out.below hB.out)
          have hzy2 : y1.heap.size ≤ y2.heap.size := hB.out.size
          clear hB
          refine hK.out _ _ HH.out ?_
          clear hHeld hK K HH
          intro hHeld
          refine norm_ (a' := ?_) ?_ ?_
          rotate_left
          · show Act.put _ (some 167) _ = _
            simp only [Act.put, List.setIfInBounds_toArray, List.set_cons_zero, List.set_cons_succ, i64_w, i32_w]
            rfl
          refine pure_ (i := 3) (N := some 164) (v := ?_) (a' := ?_) #[true, true, true, true, false, false, false, false, false] rfl rfl (by kernel_rfl) (fun _ _ _ h => h) (Or.inl ⟨by rfl, ?_⟩) ?_ ?_
          rotate_left
          · intro w'
            go_simp
            with_reducible rfl
          rotate_left
          · simp only [Act.put, List.setIfInBounds_toArray, List.set_cons_zero, List.set_cons_succ, i64_w, i32_w]
            rfl
          refine pure_ (i := 4) (N := some 168) (v := ?_) (a' := ?_) #[true, true, true, true, true, false, false, false, false] rfl rfl (by kernel_rfl) (fun _ _ _ h => h) (Or.inl ⟨by rfl, ?_⟩) ?_ ?_
          rotate_left
          · intro w'
            go_simp
            with_reducible rfl
          rotate_left
          · simp only [Act.put, List.setIfInBounds_toArray, List.set_cons_zero, List.set_cons_succ, i64_w, i32_w]
            rfl
          refine pure_ (i := 5) (N := some 169) (v := ?_) (a' := ?_) #[true, true, true, true, true, true, false, false, false] rfl rfl (by kernel_rfl) (fun _ _ _ h => h) (Or.inl ⟨by rfl, ?_⟩) ?_ ?_
          rotate_left
          · intro w'
            go_simp
            with_reducible rfl
          rotate_left
          · simp only [Act.put, List.setIfInBounds_toArray, List.set_cons_zero, List.set_cons_succ, i64_w, i32_w]
            rfl
          refine one_ (i := 6) (N := some 38) #[true, true, true, true, true, true, true, false, false] rfl rfl (by kernel_rfl) (by decide) (fun K hK => ?_)
          refine value_ (w1 := ?_) (v := ?_) (by rfl) rfl ?_ ?_
          rotate_left 2
          · go_simp
            constructor
            · rfl
            · rfl
          obtain ⟨y3, hX⟩ : ∃ X, y2.alloc (.cells #[.bool false, .slice none 0 0] 25) = X := ⟨_, rfl⟩
          have nX : Below y2.heap.size y2 y3 := by rw [← hX]; exact (Below.refl _ _).alloc (Nat.le_refl _) _
          have HV : Aside0 (BV y3 y2.heap.size none 0 0) := ⟨by rw [← hX]; exact BV.zero y2⟩
          have HH : Aside0 (Below w20.heap.size w20 y3) := ⟨hHeld.trans (nX.mono hHeld.size)⟩
          replace H2 := Aside0.mk (H2.out.below nX)
          replace HS := Aside0.mk (HS.out.below nX)
          have hzy3 : y2.heap.size < y3.heap.size := by rw [← hX]; show _ < (Array.push _ _).size; rw [Array.size_push]; omega
          rw [hX]
          clear hX nX
          refine hK.out _ _ HH.out ?_
          clear hHeld hK K HH
          intro hHeld
          refine norm_ (a' := ?_) ?_ ?_
          rotate_left
          · show Act.put _ (some 38) _ = _
            simp only [Act.put, List.setIfInBounds_toArray, List.set_cons_zero, List.set_cons_succ, i64_w, i32_w]
            rfl
          refine last_ (i := 7) (N := none) #[true, true, true, true, true, true, true, true, false] rfl rfl (by kernel_rfl) (by decide) (fun K hK => ?_)
          obtain ⟨t0, t1, _⟩ := HV.out.cells
          have tf0 := HV.out.frz 0
          have tf1 := HV.out.frz 1
          refine skip_ (w1 := ?_) (by rfl) rfl ?_ ?_
          rotate_left
          · go_simp
            rfl
          refine hK.out _ _ ?_
          clear hK K
          refine pure_ (i := 8) (N := some 39) (v := ?_) (a' := ?_) #[true, true, true, true, true, true, true, true, true] rfl rfl (by kernel_rfl) (fun _ _ _ h => h) (Or.inl ⟨by rfl, ?_⟩) ?_ ?_
          rotate_left
          · intro w'
            go_simp
            with_reducible rfl
          rotate_left
          · simp only [Act.put, List.setIfInBounds_toArray, List.set_cons_zero, List.set_cons_succ, i64_w, i32_w]
            rfl
          refine done_ (by kernel_rfl) ?_
          have hg := HV.out.cells.2.2
          clear t0 t1 tf0 tf1 z0 z1 z2
          go_wp2
          go_meet
          refine ⟨_, As, cs, rfl, rfl, ⟨HV.out.set HS.out⟩, ⟨?_⟩⟩
          exact (hHeld.setCell (by show w20.heap.size ≤ _; (try dsimp only); omega) _).setCell (by show w20.heap.size ≤ _; (try dsimp only); omega) _
        · refine value_ (w1 := ?_) (v := ?_) (by rfl) rfl ?_ ?_
          rotate_left 2
          · go_simp
            constructor
            · rfl
            · rfl
          obtain ⟨y2, hX⟩ : ∃ X, y1.alloc (.cells #[.bool false, .slice none 0 0] 25) = X := ⟨_, rfl⟩
          have nX : Below y1.heap.size y1 y2 := by rw [← hX]; exact (Below.refl _ _).alloc (Nat.le_refl _) _
          have HV : Aside0 (BV y2 y1.heap.size none 0 0) := ⟨by rw [← hX]; exact BV.zero y1⟩
          have HH : Aside0 (Below w20.heap.size w20 y2) := ⟨hHeld.trans (nX.mono hHeld.size)⟩
          replace H2 := Aside0.mk (H2.out.below nX)
          have hzy2 : y1.heap.size < y2.heap.size := by rw [← hX]; show _ < (Array.push _ _).size; rw [Array.size_push]; omega
          rw [hX]
          clear hX nX
          refine hK.out _ _ HH.out ?_
          clear hHeld hK K HH
          intro hHeld
          refine norm_ (a' := ?_) ?_ ?_
          rotate_left
          · show Act.put _ (some 38) _ = _
            simp only [Act.put, List.setIfInBounds_toArray, List.set_cons_zero, List.set_cons_succ, i64_w, i32_w]
            rfl
          refine one_ (i := 2) (N := some 167) #[true, true, true, false, false, false, true, false, false] rfl rfl (by kernel_rfl) (by decide) (fun K hK => ?_)
          refine goes_ Try.func35 (by kernel_rfl) rfl #[.agg #[.bool (sg z), .slice Az (lm z).length cz], .agg #[.bool (sg 2), .slice A2' (lm 2).length c2']] (by rfl) rfl rfl (by (try simp only [List.map_toArray, List.map_cons, List.map_nil]); first | done | rfl) ?_
          refine (add_k (Hz.out.rv.below hHeld) H2.out).mono ?_
          rintro e y3 ⟨As, cs, rfl, HS, hB⟩
          refine ⟨_, rfl, ?_⟩
          have HH : Aside0 (Below w20.heap.size w20 y3) := ⟨hHeld.trans (hB.out.mono hHeld.size)⟩
          replace H2 := Aside0.mk (H2.out.below hB.out)
          replace HV := Aside0.mk (HV.out.below hB.out)
          have hzy3 : y2.heap.size ≤ y3.heap.size := hB.out.size
          clear hB
          refine hK.out _ _ HH.out ?_
          clear hHeld hK K HH
          intro hHeld
          refine norm_ (a' := ?_) ?_ ?_
          rotate_left
          · show Act.put _ (some 167) _ = _
            simp only [Act.put, List.setIfInBounds_toArray, List.set_cons_zero, List.set_cons_succ, i64_w, i32_w]
            rfl
          refine pure_ (i := 3) (N := some 164) (v := ?_) (a' := ?_) #[true, true, true, true, false, false, true, false, false] rfl rfl (by kernel_rfl) (fun _ _ _ h => h) (Or.inl ⟨by rfl, ?_⟩) ?_ ?_
          rotate_left
          · intro w'
            go_simp
            with_reducible rfl
          rotate_left
          · simp only [Act.put, List.setIfInBounds_toArray, List.set_cons_zero, List.set_cons_succ, i64_w, i32_w]
            rfl
          refine pure_ (i := 4) (N := some 168) (v := ?_) (a' := ?_) #[true, true, true, true, true, false, true, false, false] rfl rfl (by kernel_rfl) (fun _ _ _ h => h) (Or.inl ⟨by rfl, ?_⟩) ?_ ?_
          rotate_left
          · intro w'
            go_simp
            with_reducible rfl
          rotate_left
          · simp only [Act.put, List.setIfInBounds_toArray, List.set_cons_zero, List.set_cons_succ, i64_w, i32_w]
            rfl
          refine pure_ (i := 5) (N := some 169) (v := ?_) (a' := ?_) #[true, true, true, true, true, true, true, false, false] rfl rfl (by kernel_rfl) (fun _ _ _ h => h) (Or.inl ⟨by rfl, ?_⟩) ?_ ?_
          rotate_left
          · intro w'
            go_simp
            with_reducible rfl
          rotate_left
          · simp only [Act.put, List.setIfInBounds_toArray, List.set_cons_zero, List.set_cons_succ, i64_w, i32_w]
            rfl
          refine last_ (i := 7) (N := none) #[true, true, true, true, true, true, true, true, false] rfl rfl (by kernel_rfl) (by decide) (fun K hK => ?_)
          obtain ⟨t0, t1, _⟩ := HV.out.cells
          have tf0 := HV.out.frz 0
          have tf1 := HV.out.frz 1
          refine skip_ (w1 := ?_) (by rfl) rfl ?_ ?_
          rotate_left
          · go_simp
            rfl
          refine hK.out _ _ ?_
          clear hK K
          refine pure_ (i := 8) (N := some 39) (v := ?_) (a' := ?_) #[true, true, true, true, true, true, true, true, true] rfl rfl (by kernel_rfl) (fun _ _ _ h => h) (Or.inl ⟨by rfl, ?_⟩) ?_ ?_
          rotate_left
          · intro w'
            go_simp
            with_reducible rfl
          rotate_left
          · simp only [Act.put, List.setIfInBounds_toArray, List.set_cons_zero, List.set_cons_succ, i64_w, i32_w]
            rfl
          refine done_ (by kernel_rfl) ?_
          have hg := HV.out.cells.2.2
          clear t0 t1 tf0 tf1 z0 z1 z2
          go_wp2
          go_meet
          refine ⟨_, As, cs, rfl, rfl, ⟨HV.out.set HS.out⟩, ⟨?_⟩⟩
          exact (hHeld.setCell (by show w20.heap.size ≤ _; (try dsimp only); omega) _).setCell (by show w20.heap.size ≤ _; (try dsimp only); omega) _
      · refine value_ (w1 := ?_) (v := ?_) (by rfl) rfl ?_ ?_
        rotate_left 2
        · go_simp
          constructor
          · rfl
          · rfl
        obtain ⟨y1, hX⟩ : ∃ X, WD.alloc (.cells #[.bool false, .slice none 0 0] 25) = X := ⟨_, rfl⟩
        have nX : Below WD.heap.size WD y1 := by rw [← hX]; exact (Below.refl _ _).alloc (Nat.le_refl _) _
        have HV : Aside0 (BV y1 WD.heap.size none 0 0) := ⟨by rw [← hX]; exact BV.zero WD⟩
        have HH : Aside0 (Below w20.heap.size w20 y1) := ⟨hHeld.trans (nX.mono hHeld.size)⟩
        have hzy1 : WD.heap.size < y1.heap.size := by rw [← hX]; show _ < (Array.push _ _).size; rw [Array.size_push]; omega
        rw [hX]
        clear hX nX
        refine hK.out _ _ HH.out ?_
        clear hHeld hK K HH
        intro hHeld
        refine norm_ (a' := ?_) ?_ ?_
        rotate_left
        · show Act.put _ (some 38) _ = _
          simp only [Act.put, List.setIfInBounds_toArray, List.set_cons_zero, List.set_cons_succ, i64_w, i32_w]
          rfl
        refine one_ (i := 1) (N := some 166) #[true, true, false, false, false, false, true, false, false] rfl rfl (by kernel_rfl) (by decide) (fun K hK => ?_)
        refine goes_ Try.func23 (by kernel_rfl) rfl #[.int .i64 2] (by rfl) rfl rfl (by (try simp only [List.map_toArray, List.map_cons, List.map_nil]); first | done | rfl) ?_
        refine (of_z 2 (by decide) (by decide) _).mono ?_
        rintro e y2 ⟨A2', c2', rfl, H2, hB⟩
        refine ⟨_, rfl, ?_⟩
        have HH : Aside0 (Below w20.heap.size w20 y2) := ⟨hHeld.trans (hB.out.mono hHeld.size)⟩
        replace HV := Aside0.mk (HV.out.below hB.out)
        have hzy2 : y1.heap.size ≤ y2.heap.size := hB.out.size
        clear hB
        refine hK.out _ _ HH.out ?_
        clear hHeld hK K HH
        intro hHeld
        refine norm_ (a' := ?_) ?_ ?_
        rotate_left
        · show Act.put _ (some 166) _ = _
          simp only [Act.put, List.setIfInBounds_toArray, List.set_cons_zero, List.set_cons_succ, i64_w, i32_w]
          rfl
        refine one_ (i := 2) (N := some 167) #[true, true, true, false, false, false, true, false, false] rfl rfl (by kernel_rfl) (by decide) (fun K hK => ?_)
        refine goes_ Try.func35 (by kernel_rfl) rfl #[.agg #[.bool (sg z), .slice Az (lm z).length cz], .agg #[.bool (sg 2), .slice A2' (lm 2).length c2']] (by rfl) rfl rfl (by (try simp only [List.map_toArray, List.map_cons, List.map_nil]); first | done | rfl) ?_
        refine (add_k (Hz.out.rv.below hHeld) H2.out).mono ?_
        rintro e y3 ⟨As, cs, rfl, HS, hB⟩
        refine ⟨_, rfl, ?_⟩
        have HH : Aside0 (Below w20.heap.size w20 y3) := ⟨hHeld.trans (hB.out.mono hHeld.size)⟩
        replace HV := Aside0.mk (HV.out.below hB.out)
        replace H2 := Aside0.mk (H2.out.below hB.out)
        have hzy3 : y2.heap.size ≤ y3.heap.size := hB.out.size
        clear hB
        refine hK.out _ _ HH.out ?_
        clear hHeld hK K HH
        intro hHeld
        refine norm_ (a' := ?_) ?_ ?_
        rotate_left
        · show Act.put _ (some 167) _ = _
          simp only [Act.put, List.setIfInBounds_toArray, List.set_cons_zero, List.set_cons_succ, i64_w, i32_w]
          rfl
        refine pure_ (i := 3) (N := some 164) (v := ?_) (a' := ?_) #[true, true, true, true, false, false, true, false, false] rfl rfl (by kernel_rfl) (fun _ _ _ h => h) (Or.inl ⟨by rfl, ?_⟩) ?_ ?_
        rotate_left
        · intro w'
          go_simp
          with_reducible rfl
        rotate_left
        · simp only [Act.put, List.setIfInBounds_toArray, List.set_cons_zero, List.set_cons_succ, i64_w, i32_w]
          rfl
        refine pure_ (i := 4) (N := some 168) (v := ?_) (a' := ?_) #[true, true, true, true, true, false, true, false, false] rfl rfl (by kernel_rfl) (fun _ _ _ h => h) (Or.inl ⟨by rfl, ?_⟩) ?_ ?_
        rotate_left
        · intro w'
          go_simp
          with_reducible rfl
        rotate_left
        · simp only [Act.put, List.setIfInBounds_toArray, List.set_cons_zero, List.set_cons_succ, i64_w, i32_w]
          rfl
        refine pure_ (i := 5) (N := some 169) (v := ?_) (a' := ?_) #[true, true, true, true, true, true, true, false, false] rfl rfl (by kernel_rfl) (fun _ _ _ h => h) (Or.inl ⟨by rfl, ?_⟩) ?_ ?_
        rotate_left
        · intro w'
          go_simp
          with_reducible rfl
        rotate_left
        · simp only [Act.put, List.setIfInBounds_toArray, List.set_cons_zero, List.set_cons_succ, i64_w, i32_w]
          rfl
        refine last_ (i := 7) (N := none) #[true, true, true, true, true, true, true, true, false] rfl rfl (by kernel_rfl) (by decide) (fun K hK => ?_)
        obtain ⟨t0, t1, _⟩ := HV.out.cells
        have tf0 := HV.out.frz 0
        have tf1 := HV.out.frz 1
        refine skip_ (w1 := ?_) (by rfl) rfl ?_ ?_
        rotate_left
        · go_simp
          rfl
        refine hK.out _ _ ?_
        clear hK K
        refine pure_ (i := 8) (N := some 39) (v := ?_) (a' := ?_) #[true, true, true, true, true, true, true, true, true] rfl rfl (by kernel_rfl) (fun _ _ _ h => h) (Or.inl ⟨by rfl, ?_⟩) ?_ ?_
        rotate_left
        · intro w'
          go_simp
          with_reducible rfl
        rotate_left
        · simp only [Act.put, List.setIfInBounds_toArray, List.set_cons_zero, List.set_cons_succ, i64_w, i32_w]
          rfl
        refine done_ (by kernel_rfl) ?_
        have hg := HV.out.cells.2.2
        clear t0 t1 tf0 tf1 z0 z1 z2
        go_wp2
        go_meet
        refine ⟨_, As, cs, rfl, rfl, ⟨HV.out.set HS.out⟩, ⟨?_⟩⟩
        exact (hHeld.setCell (by show w20.heap.size ≤ _; (try dsimp only); omega) _).setCell (by show w20.heap.size ≤ _; (try dsimp only); omega) _
    case rest =>
      obtain ⟨gk, Ak, ck, rfl, rfl, Hk, hB⟩ := hcut
      rename World => wy
      clear z0 z1 z2
      replace Hp := Aside0.mk (Hp.out.below hB.out)
      replace Hz := Aside0.mk (Hz.out.below hB.out)
      replace Hu := Aside0.mk (Hu.out.below hB.out)
      replace Hb := Aside0.mk (Hb.out.below hB.out)
      replace HB : Aside0 (Below w.heap.size w wy) := ⟨HB.out.trans (hB.out.mono HB.out.size)⟩
      clear hB
      go_wp2_with fail
      refine (of_z 2 (by decide) (by decide) _).mono ?_
      rintro e w21 ⟨A2', c2', rfl, H2, hB⟩
      replace Hp := Aside0.mk (Hp.out.below hB.out)
      replace Hz := Aside0.mk (Hz.out.below hB.out)
      replace Hu := Aside0.mk (Hu.out.below hB.out)
      replace Hb := Aside0.mk (Hb.out.below hB.out)
      replace Hk := Aside0.mk (Hk.out.below hB.out)
      replace HB : Aside0 (Below w.heap.size w w21) := ⟨HB.out.trans (hB.out.mono HB.out.size)⟩
      clear hB
      go_wp2_with fail
      have TT := Lib.hid (sh_f (b := 1) Hu.out (lim_small (by decide)) H2.out (by omega) (by omega) (by omega))
      obtain ⟨v, hv⟩ : ∃ x, sf 2 u = x := ⟨_, rfl⟩
      rw [hv] at TT
      have Ev := Aside0.mk hv
      clear hv
      refine (TT.out).mono ?_
      rintro e w22 ⟨Av, cv, rfl, Hv, hB⟩
      replace Hp := Aside0.mk (Hp.out.below hB.out)
      replace Hz := Aside0.mk (Hz.out.below hB.out)
      replace Hu := Aside0.mk (Hu.out.below hB.out)
      replace Hb := Aside0.mk (Hb.out.below hB.out)
      replace Hk := Aside0.mk (Hk.out.below hB.out)
      replace H2 := Aside0.mk (H2.out.below hB.out)
      replace HB : Aside0 (Below w.heap.size w w22) := ⟨HB.out.trans (hB.out.mono HB.out.size)⟩
      clear hB TT
      obtain ⟨z0, z1, z2⟩ := Hk.out.cells
      go_wp2_with fail
      clear z0 z1 z2
      have TT := Lib.hid (sh_f Hp.out lk.out Hk.out.rv (by omega) (by omega) (by omega))
      obtain ⟨y, hy⟩ : ∃ x, sf k p = x := ⟨_, rfl⟩
      rw [hy] at TT
      have Ey := Aside0.mk hy
      clear hy
      refine (TT.out).mono ?_
      rintro e w23 ⟨Ay, cy, rfl, Hy, hB⟩
      replace Hp := Aside0.mk (Hp.out.below hB.out)
      replace Hz := Aside0.mk (Hz.out.below hB.out)
      replace Hu := Aside0.mk (Hu.out.below hB.out)
      replace Hb := Aside0.mk (Hb.out.below hB.out)
      replace Hk := Aside0.mk (Hk.out.below hB.out)
      replace H2 := Aside0.mk (H2.out.below hB.out)
      replace Hv := Aside0.mk (Hv.out.below hB.out)
      replace HB : Aside0 (Below w.heap.size w w23) := ⟨HB.out.trans (hB.out.mono HB.out.size)⟩
      clear hB TT
      go_wp2_with fail
      refine (same_f (p := p) (q := p) rfl Hb.out Hp.out (by omega) (by omega)).mono ?_
      rintro e w24 ⟨rfl, hB⟩
      replace Hp := Aside0.mk (Hp.out.below hB.out)
      replace Hz := Aside0.mk (Hz.out.below hB.out)
      replace Hu := Aside0.mk (Hu.out.below hB.out)
      replace Hb := Aside0.mk (Hb.out.below hB.out)
      replace Hk := Aside0.mk (Hk.out.below hB.out)
      replace H2 := Aside0.mk (H2.out.below hB.out)
      replace Hv := Aside0.mk (Hv.out.below hB.out)
      replace Hy := Aside0.mk (Hy.out.below hB.out)
      replace HB : Aside0 (Below w.heap.size w w24) := ⟨HB.out.trans (hB.out.mono HB.out.size)⟩
      clear hB
      go_wp2_with fail
      refine (same_f (p := v) (q := y) (by rw [← Ev.out, ← Ey.out, ← Eu.out, ← Ek.out]; exact sf_two p z) Hv.out Hy.out (by omega) (by omega)).mono ?_
      rintro e w25 ⟨rfl, hB⟩
      replace Hp := Aside0.mk (Hp.out.below hB.out)
      replace Hz := Aside0.mk (Hz.out.below hB.out)
      replace Hu := Aside0.mk (Hu.out.below hB.out)
      replace Hb := Aside0.mk (Hb.out.below hB.out)
      replace Hk := Aside0.mk (Hk.out.below hB.out)
      replace H2 := Aside0.mk (H2.out.below hB.out)
      replace Hv := Aside0.mk (Hv.out.below hB.out)
      replace Hy := Aside0.mk (Hy.out.below hB.out)
      replace HB : Aside0 (Below w.heap.size w w25) := ⟨HB.out.trans (hB.out.mono HB.out.size)⟩
      clear hB
      go_wp2_with fail
      go_ret
      exact ⟨rfl, HB⟩
end Go.Proofs.Ytplignahjhenjaa.Lb
