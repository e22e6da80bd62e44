/- limb: LimbNumbers: the walk. -/
import Derived.Test.YtlcjnahfahobjaaLbNg
namespace Go.Proofs.Ytlcjnahfahobjaa.Lb
open Go.RowKit Go.Proofs.YtlcjnahfahobjaaW.PrintWords Go.Proofs.YtlcjnahfahobjaaW.PrintLast Go.Proofs.YtlcjnahfahobjaaW.PrintMore
set_option linter.unusedVariables false
set_option linter.unusedSimpArgs false

/-- A row that was laid. -/
theorem litU (w : World) (l : List Int) (cs : Array Value) (hcs : cs = (nums .u64 l).toArray) (hm : l.length ≤ 9223372036854775807) : u64.C (w.alloc (.cells cs 50)) (some ⟨w.heap.size, 0, none⟩) l.length l := by
  subst hcs
  have hown := World.ownsRow_lit (base := w.heap.size) (e := 50) (size := 1) w (nums .u64 l).toArray l.length (Nat.le_refl _) (by unfold maxLen; exact hm) (by simp [nums])
  have hR : u64.R 50 _ w.heap.size (fun k => w.heap.size ≤ k) (.slice (some ⟨w.heap.size, 0, none⟩) l.length l.length) l := row_R (by simpa using hown)
  exact (Kd.R_reads' hR).2.2
theorem ofl_t (s : Bool) (A : Option Addr) (c : Nat) (l : List Int) (w : World) (h : u64.C w A l.length l) : Calls Try.prog 30 #[.bool s, .slice A l.length c] w fun e w' => e = .returned (.agg #[.bool s, .slice A l.length c]) ∧ Aside0 (u64.C w' A l.length l) ∧ Aside0 (Below w.heap.size w w') :=
  (ofl_c s A l.length c w).mono fun e w' h2 => ⟨h2.1, ⟨Kd.C_below h h2.2.out⟩, h2.2⟩
theorem ofLit (s : Bool) (l : List Int) {W : World} {g n : Nat} {cs : Array Value} (hg : g = W.heap.size) (hcs : cs = (nums .u64 l).toArray) (hn : n = l.length) (hm : l.length ≤ 9223372036854775807) : Calls Try.prog 30 #[.bool s, .slice (some ⟨g, 0, none⟩) n n] (W.alloc (.cells cs 50)) fun e w' => ∃ A, e = .returned (.agg #[.bool s, .slice A n n]) ∧ Aside0 (u64.C w' A l.length l) ∧ Aside0 (Below W.heap.size W w') := by
  subst hg hcs hn
  exact (ofl_t s _ _ l _ (litU W l _ rfl hm)).mono fun e w' h => ⟨_, h.1, h.2.1, ⟨((Below.refl W.heap.size W).alloc (Nat.le_refl _) _).trans (h.2.2.out.mono (by simp))⟩⟩
theorem ofLitD (s : Bool) (l : List Int) {W : World} {g n : Nat} {cs : Array Value} (hg : g = W.heap.size) (hcs : cs = (nums .u64 l).toArray) (hn : n = l.length) (hm : l.length ≤ 9223372036854775807) : Calls Try.prog 30 #[.bool s, .slice (some ⟨g, 0, none⟩) n n] (W.alloc (.cells cs 50)).drew fun e w' => ∃ A, e = .returned (.agg #[.bool s, .slice A n n]) ∧ Aside0 (u64.C w' A l.length l) ∧ Aside0 (Below W.heap.size W w') := by
  subst hg hcs hn
  exact (ofl_t s _ _ l _ (Kd.C_below (litU W l _ rfl hm) (Below.refl _ _).drew)).mono fun e w' h => ⟨_, h.1, h.2.1, ⟨((Below.refl W.heap.size W).alloc (Nat.le_refl _) _).drew.trans (h.2.2.out.mono (by simp))⟩⟩
theorem emptyU (w : World) (A : Option Addr) : u64.C w A 0 [] := ⟨rfl, by simp, fun h => absurd h (Nat.lt_irrefl 0)⟩
theorem eight : ((if rightB true [8] then ((bitN (nv [8]) : Nat) : Int) else 0), (if rightB true [8] then (0 : Int) else 2)) = (4, 0) := by
  rw [z8.1, z8.2]; rfl
theorem long_right (N : Nat) (h : N = 4097) : rightB false (List.replicate N (0 : Int)) = false := by
  unfold rightB
  rw [List.length_replicate, if_neg (by omega)]
  simp
  omega
theorem zeros_C (W : World) (N : Nat) (h : N ≤ 9223372036854775807) : u64.C (W.alloc (.cells (madeCells #[.int .u64 0] N) 50)) (some ⟨W.heap.size, 0, none⟩) (List.replicate N (0 : Int)).length (List.replicate N 0) := by
  have h1 := own_made W N N (Nat.le_refl _) h
  have hR := row_R (l := List.replicate N (0 : Int)) (by rw [List.length_replicate]; exact h1)
  exact (Kd.R_reads' hR).2.2
theorem right_zeros (N : Nat) (h : N = 4097) {W : World} {g : Nat} (hg : g = W.heap.size) : Calls Try.prog 23 #[.agg #[.bool false, .slice (some ⟨g, 0, none⟩) N N]] (W.alloc (.cells (madeCells #[.int .u64 0] N) 50)) fun e w' => e = .returned (.bool false) ∧ Aside0 (Below W.heap.size W w') := by
  subst hg
  have hl : (List.replicate N (0 : Int)).length = N := List.length_replicate
  have h1 := right_t false (some ⟨W.heap.size, 0, none⟩) N (List.replicate N 0) false (long_right N h) (by rw [hl]; exact Nat.le_refl _) (fun x hx => by rw [List.eq_of_mem_replicate hx]; omega) (by rw [hl]; omega) _ (zeros_C W N (by omega))
  rw [hl] at h1
  exact h1.mono fun e w' h => ⟨h.1, ⟨((Below.refl _ _).alloc (Nat.le_refl _) _).trans (h.2.out.mono (by simp))⟩⟩
/-- A row's shift: what the table tells of it. -/
structure Sh (l : List Int) (s : Bool) (b : Int) (t : Bool) (m : List Int) (e : Int) : Prop where
  r : shiftS s l b = (t, m, e)
  ok : okL l
  ln : l.length ≤ 17592186043904
  mn : m.length ≤ 17592186043904
  b0 : -9223372036854775808 ≤ b
  b1 : b ≤ 9223372036854775807
/-- Row j of the table that lies in block g. -/
def El (w : World) (g j : Nat) : Prop := ∃ (s : Bool) (A : Option Addr) (n c : Nat) (b : Int) (t : Bool) (B : Option Addr) (o d : Nat) (e : Int) (l m : List Int),
  (w.cell? ⟨g, j * 6, none⟩ = some (.bool s) ∧ w.cell? ⟨g, j * 6 + 1, none⟩ = some (.slice A n c) ∧ w.cell? ⟨g, j * 6 + 2, none⟩ = some (.int .i64 b) ∧ w.cell? ⟨g, j * 6 + 3, none⟩ = some (.bool t) ∧ w.cell? ⟨g, j * 6 + 4, none⟩ = some (.slice B o d) ∧ w.cell? ⟨g, j * 6 + 5, none⟩ = some (.int .i64 e)) ∧
  (l.length = n ∧ n ≤ c ∧ u64.C w A l.length l) ∧ (m.length = o ∧ o ≤ d ∧ u64.C w B m.length m) ∧ Sh l s b t m e
theorem El.below {w w' : World} {g j : Nat} (h : El w g j) (hb : Below w.heap.size w w') : El w' g j := by
  obtain ⟨s, A, n, c, b, t, B, o, d, e, l, m, ⟨h0, h1, h2, h3, h4, h5⟩, ⟨a0, a1, a2⟩, ⟨b0, b1, b2⟩, hs⟩ := h
  have hg : g < w.heap.size := by
    rcases Nat.lt_or_ge g w.heap.size with h | h
    · exact h
    · rw [World.cell?] at h0
      simp [Array.getElem?_eq_none h] at h0
  have hc : ∀ i, w'.cell? ⟨g, i, none⟩ = w.cell? ⟨g, i, none⟩ := fun i => hb.cell hg
  exact ⟨s, A, n, c, b, t, B, o, d, e, l, m, ⟨(hc _).trans h0, (hc _).trans h1, (hc _).trans h2, (hc _).trans h3, (hc _).trans h4, (hc _).trans h5⟩, ⟨a0, a1, Kd.C_below a2 hb⟩, ⟨b0, b1, Kd.C_below b2 hb⟩, hs⟩
/-- What an operation of the table's making comes to. -/
inductive Kn where
  | S (l : List Int)
  | I (s : Bool) (l : List Int)
  | T
  | G
  | N (n : Int)
def KI (s : Bool) (l : List Int) (w : World) (v : Value) : Prop := ∃ A n c, v = .agg #[.bool s, .slice A n c] ∧ l.length = n ∧ n ≤ c ∧ u64.C w A l.length l
def Kn.ok : Kn → World → Value → Prop
  | .S l, w, v => ∃ A n c, v = .slice A n c ∧ l.length = n ∧ n ≤ c ∧ u64.C w A l.length l
  | .I s l, w, v => KI s l w v
  | .T, w, v => ∃ s l b t m e A n c B o d, v = .agg #[.bool s, .slice A n c, .int .i64 b, .bool t, .slice B o d, .int .i64 e] ∧ (l.length = n ∧ n ≤ c ∧ u64.C w A l.length l) ∧ (m.length = o ∧ o ≤ d ∧ u64.C w B m.length m) ∧ Sh l s b t m e
  | .G, w, v => ∃ g, v = .slice (some ⟨g, 0, none⟩) 14 14 ∧ ∀ j, j < 14 → El w g j
  | .N n, w, v => v = .int .i64 n
theorem cell_of {W : World} {g t i : Nat} {cs : Array Value} {v : Value} (h : W.heap[g]? = some (.cells cs t (0, 0))) (hi : cs[i]? = some v) : W.cell? ⟨g, i, none⟩ = some v := by
  simp [World.cell?, h, hi]
theorem KI.below {s : Bool} {l : List Int} {w w' : World} {v : Value} (h : KI s l w v) (hb : Below w.heap.size w w') : KI s l w' v := by
  obtain ⟨A, n, c, e, h1, h2, h3⟩ := h
  exact ⟨A, n, c, e, h1, h2, Kd.C_below h3 hb⟩
theorem Kn.ok_below {k : Kn} {w w' : World} {v : Value} (h : k.ok w v) (hb : Below w.heap.size w w') : k.ok w' v := by
  cases k with
  | S l =>
    obtain ⟨A, n, c, e, h1, h2, h3⟩ := h
    exact ⟨A, n, c, e, h1, h2, Kd.C_below h3 hb⟩
  | I s l => exact KI.below h hb
  | T =>
    obtain ⟨s, l, b, t, m, e, A, n, c, B, o, d, h1, ⟨h2, h3, h4⟩, ⟨h5, h6, h7⟩, h8⟩ := h
    exact ⟨s, l, b, t, m, e, A, n, c, B, o, d, h1, ⟨h2, h3, Kd.C_below h4 hb⟩, ⟨h5, h6, Kd.C_below h7 hb⟩, h8⟩
  | G =>
    obtain ⟨g, h1, h2⟩ := h
    exact ⟨g, h1, fun j hj => (h2 j hj).below hb⟩
  | N n => exact h
theorem mk63 : mkS (-9223372036854775808) = (true, [9223372036854775808], 0) := mkS_of _ _ _ (by decide) (by decide) (.inr (by decide)) (by decide) (by decide) (by decide)
theorem lim63 : lim 4096 (-9223372036854775808) := lim_lit (l := [9223372036854775808]) (lm_one (by decide) (by decide) _ rfl) (by decide)
theorem mk00 : mkS 0 = (false, [], 0) := by
  unfold mkS toldS
  rw [show (0 : Int).natAbs = 0 from rfl, toL_zero]
  rfl
theorem lim00 : lim 4096 0 := lim_lit (l := []) lm0 (by decide)
/-- What is known while 'h, i := limb.Sub(great(true), one)' runs. -/
structure I6 (WW : World) (bg : List Int) (L : Value) (d : Nat → Bool) (f : Nat → Value) (w : World) : Prop where
  b : Below WW.heap.size WW w
  k0 : d 0 = true → d 2 = false → ∃ A c, f 0 = .agg #[.bool true, .slice A bg.length c] ∧ bg.length ≤ c ∧ u64.C w A bg.length bg
  k1 : d 1 = true → f 1 = L
  k2 : d 2 = true → ∃ A c, f 2 = .tuple #[.agg #[.bool false, .slice A 0 c], .int .i64 3]
  k3 : d 3 = true → ∃ A c, f 3 = .tuple #[.agg #[.bool false, .slice A 0 c], .int .i64 3]
  k4 : d 4 = true → ∃ A c, f 4 = .agg #[.bool false, .slice A 0 c]
  k5 : d 5 = true → f 5 = .int .i64 3
  k6 : d 6 = true → ∃ g, f 6 = .pointer (some ⟨g, 0, none⟩) ∧ WW.heap.size ≤ g ∧ g < w.heap.size ∧ (d 7 = false → w.heap[g]? = some (.cells #[.bool false, .slice none 0 0] 24 (0, 0))) ∧ (d 7 = true → ∃ A c, w.heap[g]? = some (.cells #[.bool false, .slice A 0 c] 24 (0, 0)))
  k8 : d 8 = true → f 8 = .int .i64 3
  c7 : d 7 = true → d 6 = true
theorem I6_cong {WW : World} {bg : List Int} {L : Value} (d d' : Nat → Bool) (f : Nat → Value) (w : World) (h : ∀ i, i < 9 → d i = d' i) (hI : I6 WW bg L d f w) : I6 WW bg L d' f w := by
  obtain ⟨b, k0, k1, k2, k3, k4, k5, k6, k8, c7⟩ := hI
  rw [h 0 (by omega), h 2 (by omega)] at k0
  rw [h 1 (by omega)] at k1
  rw [h 2 (by omega)] at k2
  rw [h 3 (by omega)] at k3
  rw [h 4 (by omega)] at k4
  rw [h 5 (by omega)] at k5
  rw [h 6 (by omega), h 7 (by omega)] at k6
  rw [h 8 (by omega)] at k8
  rw [h 7 (by omega), h 6 (by omega)] at c7
  exact ⟨b, k0, k1, k2, k3, k4, k5, k6, k8, c7⟩
theorem I6.great {WW w w' : World} {bg : List Int} {L : Value} {d : Nat → Bool} {f : Nat → Value} (h : I6 WW bg L d f w) (hd : d 0 = false) (hb : Below w.heap.size w w') {A : Option Addr} {c : Nat} (hc : bg.length ≤ c) (hr : u64.C w' A bg.length bg) : I6 WW bg L (Gr.updB d 0) (Gr.upd f 0 (.agg #[.bool true, .slice A bg.length c])) w' := by
  refine ⟨below_then h.b h.b.size hb, fun _ _ => ⟨A, c, rfl, hc, hr⟩, h.k1, h.k2, h.k3, h.k4, h.k5, fun h6 => ?_, h.k8, h.c7⟩
  obtain ⟨g, e, h1, h2, h3, h4⟩ := h.k6 h6
  exact ⟨g, e, h1, Nat.lt_of_lt_of_le h2 hb.size, fun h7 => (hb.block g h2).trans (h3 h7), fun h7 => by obtain ⟨A, c, h5⟩ := h4 h7; exact ⟨A, c, (hb.block g h2).trans h5⟩⟩
theorem I6.load {WW w : World} {bg : List Int} {L : Value} {d : Nat → Bool} {f : Nat → Value} (h : I6 WW bg L d f w) (hd : d 1 = false) : I6 WW bg L (Gr.updB d 1) (Gr.upd f 1 L) w :=
  ⟨h.b, h.k0, fun _ => rfl, h.k2, h.k3, h.k4, h.k5, h.k6, h.k8, h.c7⟩
theorem I6.sub {WW w w' : World} {bg : List Int} {L : Value} {d : Nat → Bool} {f : Nat → Value} (h : I6 WW bg L d f w) (hd : d 2 = false) (hb : Below w.heap.size w w') {A : Option Addr} {c : Nat} : I6 WW bg L (Gr.updB d 2) (Gr.upd f 2 (.tuple #[.agg #[.bool false, .slice A 0 c], .int .i64 3])) w' := by
  refine ⟨below_then h.b h.b.size hb, fun _ h2 => (by cases h2), h.k1, fun _ => ⟨A, c, rfl⟩, h.k3, h.k4, h.k5, fun h6 => ?_, h.k8, h.c7⟩
  obtain ⟨g, e, h1, h2, h3, h4⟩ := h.k6 h6
  exact ⟨g, e, h1, Nat.lt_of_lt_of_le h2 hb.size, fun h7 => (hb.block g h2).trans (h3 h7), fun h7 => by obtain ⟨A, c, h5⟩ := h4 h7; exact ⟨A, c, (hb.block g h2).trans h5⟩⟩
theorem I6.move {WW w : World} {bg : List Int} {L : Value} {d : Nat → Bool} {f : Nat → Value} (h : I6 WW bg L d f w) {A : Option Addr} {c : Nat} : I6 WW bg L (Gr.updB d 3) (Gr.upd f 3 (.tuple #[.agg #[.bool false, .slice A 0 c], .int .i64 3])) w :=
  ⟨h.b, h.k0, h.k1, h.k2, fun _ => ⟨A, c, rfl⟩, h.k4, h.k5, h.k6, h.k8, h.c7⟩
theorem I6.ext0 {WW w : World} {bg : List Int} {L : Value} {d : Nat → Bool} {f : Nat → Value} (h : I6 WW bg L d f w) {A : Option Addr} {c : Nat} : I6 WW bg L (Gr.updB d 4) (Gr.upd f 4 (.agg #[.bool false, .slice A 0 c])) w :=
  ⟨h.b, h.k0, h.k1, h.k2, h.k3, fun _ => ⟨A, c, rfl⟩, h.k5, h.k6, h.k8, h.c7⟩
theorem I6.ext1 {WW w : World} {bg : List Int} {L : Value} {d : Nat → Bool} {f : Nat → Value} (h : I6 WW bg L d f w) : I6 WW bg L (Gr.updB d 5) (Gr.upd f 5 (.int .i64 3)) w :=
  ⟨h.b, h.k0, h.k1, h.k2, h.k3, h.k4, fun _ => rfl, h.k6, h.k8, h.c7⟩
theorem I6.made {WW w : World} {bg : List Int} {L : Value} {d : Nat → Bool} {f : Nat → Value} (h : I6 WW bg L d f w) (h7 : d 7 = false) : I6 WW bg L (Gr.updB d 6) (Gr.upd f 6 (.pointer (some ⟨w.heap.size, 0, none⟩))) (w.alloc (.cells #[.bool false, .slice none 0 0] 24)) := by
  have hb := (Below.refl w.heap.size w).alloc (Nat.le_refl _) (.cells #[.bool false, .slice none 0 0] 24)
  refine ⟨below_then h.b h.b.size hb, fun h0 h2 => ?_, h.k1, h.k2, h.k3, h.k4, h.k5, fun _ => ⟨w.heap.size, rfl, h.b.size, by simp, fun _ => heap_alloc_new w _, fun h8 => ?_⟩, h.k8, fun _ => rfl⟩
  · obtain ⟨A, c, e, hc, hr⟩ := h.k0 h0 h2
    exact ⟨A, c, e, hc, Kd.C_below hr hb⟩
  · have h9 : d 7 = true := h8
    rw [h7] at h9
    cases h9
theorem I6.assign {WW w : World} {bg : List Int} {L : Value} {d : Nat → Bool} {f : Nat → Value} (h : I6 WW bg L d f w) : I6 WW bg L (Gr.updB d 8) (Gr.upd f 8 (.int .i64 3)) w :=
  ⟨h.b, h.k0, h.k1, h.k2, h.k3, h.k4, h.k5, h.k6, fun _ => rfl, h.c7⟩
theorem I6.store {WW w : World} {bg : List Int} {L : Value} {d : Nat → Bool} {f : Nat → Value} (h : I6 WW bg L d f w) (h7 : d 7 = false) (d2 : d 2 = true) (d6 : d 6 = true) {g : Nat} (hf : f 6 = .pointer (some ⟨g, 0, none⟩)) (hg : WW.heap.size ≤ g) (hl : g < w.heap.size) (hk : w.heap[g]? = some (.cells #[.bool false, .slice none 0 0] 24 (0, 0))) (u : Value) {A : Option Addr} {c : Nat} : I6 WW bg L (Gr.updB d 7) (Gr.upd f 7 u) ((w.setCell ⟨g, 0, none⟩ (.bool false)).setCell ⟨g, 1, none⟩ (.slice A 0 c)) := by
  refine ⟨(h.b.setCell hg _).setCell hg _, fun h0 h2 => ?_, h.k1, h.k2, h.k3, h.k4, h.k5, fun _ => ⟨g, hf, hg, by simpa using hl, fun h8 => (by cases h8), fun _ => ⟨A, c, ?_⟩⟩, h.k8, fun _ => d6⟩
  · have h3 : d 2 = false := h2
    rw [d2] at h3
    cases h3
  · exact blk_set (blk_set hk 0 (.bool false)) 1 (.slice A 0 c)
set_option maxRecDepth 100000 in
set_option maxHeartbeats 8000000 in
theorem numbers_c (w : World) (bg l1 : List Int) (hbg : Aside0 (bg = ones 4096)) (hl1 : Aside0 (l1 = less1 4095)) (HBO : Aside0 (okL bg)) (HBL : Aside0 (bg.length ≤ 17592186043904)) (HAD : Aside0 (addS false bg false [1] = (false, [], 3))) (HSB : Aside0 (subS true bg false [1] = (false, [], 3))) (HS1 : Aside0 (subS false bg false [1] = (false, l1, 0))) (HLO : Aside0 (okL l1)) (HLL : Aside0 (l1.length = 4096)) (HL0 : Aside0 (l1.getD 0 0 = 18446744073709551614)) (HS13 : Aside0 (shiftS false bg 1 = (false, [], 3))) (p2 : List Int) (HPS : Aside0 (shiftS false [1] 262143 = (false, p2, 0))) (HPB : Aside0 (((if rightB false p2 then ((bitN (nv p2) : Nat) : Int) else 0), (if rightB false p2 then (0 : Int) else 2)) = (262144, 0))) (HPO : Aside0 (okL p2)) (HPL : Aside0 (p2.length ≤ 17592186043904)) (N : Nat) (HN : Aside0 (N = 4097)) :
    Calls Try.prog 7 #[] w fun e w' => e = .returned (.bool true) ∧ Below w.heap.size w w' := by
  have hu := Try.underlying24
  have hus := Try.underlying22
  go_enter Try.func7, Try.ntmps7
  go_wp2_with fail
  refine (ofLit false [1] (by first | rfl | simp) rfl rfl (by decide)).mono ?_
  rintro e w1 ⟨LR1, rfl, R1, b1⟩
  have HB := b1
  clear b1
  go_wp2_with fail
  refine (great_c false w1 bg hbg).mono ?_
  rintro e w2 ⟨A2, c2, rfl, R2, b2⟩
  replace R1 := Aside0.mk (Kd.C_below R1.out b2.out)
  replace HB := Aside0.mk (below_then HB.out HB.out.size b2.out)
  clear b2
  go_wp2_with fail
  refine (ofLit true [9223372036854775808] (by first | rfl | simp) rfl rfl (by decide)).mono ?_
  rintro e w3 ⟨LR3, rfl, R3, b3⟩
  have V1 := Aside0.mk (((NV.new (g := w2.heap.size) false 1 1 rfl (by decide) (by decide) R1.out).alloc _).below b3.out)
  have V2 := Aside0.mk ((NV.new (g := w2.heap.size + 1) false bg.length c2 (by simp) (Nat.le_refl _) R2.out.1 (Kd.C_alloc R2.out.2 _)).below b3.out)
  replace HB := Aside0.mk (below_then ((HB.out.alloc HB.out.size _).alloc (HB.out.alloc HB.out.size _).size _) ((HB.out.alloc HB.out.size _).alloc (HB.out.alloc HB.out.size _).size _).size b3.out)
  clear b3
  clear R1 R2
  go_wp2_with fail
  refine (small_t true _ _ [9223372036854775808] (-9223372036854775808) true a63 (by decide) (by decide) (by decide) _ R3.out).mono ?_
  rintro e w4 ⟨rfl, b4⟩
  clear R3
  replace V1 := Aside0.mk (V1.out.below b4.out)
  replace V2 := Aside0.mk (V2.out.below b4.out)
  replace HB := Aside0.mk (below_then HB.out HB.out.size b4.out)
  clear b4
  go_wp2_with fail
  refine (ofLit false [9223372036854775808] (by first | rfl | simp) rfl rfl (by decide)).mono ?_
  rintro e w5 ⟨LR5, rfl, R5, b5⟩
  replace V1 := Aside0.mk (V1.out.below b5.out)
  replace V2 := Aside0.mk (V2.out.below b5.out)
  replace HB := Aside0.mk (below_then HB.out HB.out.size b5.out)
  clear b5
  go_wp2_with fail
  refine (small_t false _ _ [9223372036854775808] 0 false b63 (by decide) (by decide) (by decide) _ R5.out).mono ?_
  rintro e w6 ⟨rfl, b6⟩
  clear R5
  replace V1 := Aside0.mk (V1.out.below b6.out)
  replace V2 := Aside0.mk (V2.out.below b6.out)
  replace HB := Aside0.mk (below_then HB.out HB.out.size b6.out)
  clear b6
  go_wp2_with fail
  refine (small_t true none 0 [] 0 false e0 (by decide) (by decide) (by decide) _ (Kd.C_nil _ _)).mono ?_
  rintro e w7 ⟨rfl, b7⟩
  replace V1 := Aside0.mk (V1.out.below b7.out)
  replace V2 := Aside0.mk (V2.out.below b7.out)
  replace HB := Aside0.mk (below_then HB.out HB.out.size b7.out)
  clear b7
  obtain ⟨x0V1, x1V1, xlV1⟩ := V1.out.cells
  obtain ⟨x0V2, x1V2, xlV2⟩ := V2.out.cells
  go_wp2_with fail
  refine (add_t false false _ _ _ _ bg [1] false [] 3 HAD.out V2.out.cap (by decide) HBO.out (by decide) HBL.out (by decide) _ V2.out.all V1.out.all).mono ?_
  rintro e w8 ⟨A8, c8, rfl, R8, b8⟩
  clear x0V1 x1V1 xlV1 x0V2 x1V2 xlV2
  replace V1 := Aside0.mk (V1.out.below b8.out)
  replace V2 := Aside0.mk (V2.out.below b8.out)
  replace HB := Aside0.mk (below_then HB.out HB.out.size b8.out)
  clear b8
  go_upto_region 6 with fail
  have V9 := Aside0.mk (NV.new (g := w8.heap.size) false 0 c8 rfl (Nat.le_refl _) R8.out.1 R8.out.2)
  clear R8
  replace V1 := Aside0.mk (V1.out.alloc (.cells #[.bool false, .slice A8 0 c8] 24))
  replace V2 := Aside0.mk (V2.out.alloc (.cells #[.bool false, .slice A8 0 c8] 24))
  replace HB := Aside0.mk (HB.out.alloc HB.out.size (.cells #[.bool false, .slice A8 0 c8] 24))
  have CG : Aside0 (∀ W', Calls Try.prog 31 #[.bool true] W' (OutU W' true bg)) := ⟨fun W' => great_c true W' bg hbg⟩
  generalize hWW : (World.alloc _ _) = WW at V1 V2 V9 HB ⊢
  clear hWW
  have CS : Aside0 (∀ W' A c, (bg.length ≤ c ∧ u64.C W' A bg.length bg) → Below WW.heap.size WW W' → Calls Try.prog 15 #[.agg #[.bool true, .slice A bg.length c], .agg #[.bool false, .slice LR1 1 1]] W' (OutT W' false [] 3)) := ⟨fun W' A c h1 h2 => sub_t true false _ _ _ _ bg [1] false [] 3 HSB.out h1.1 (by decide) HBO.out (by decide) HBL.out (by decide) _ h1.2 (V1.out.below h2).all⟩
  go_cut [11, 12] (fun y1 y2 wx => ∃ g A c, y1 = .pointer (some ⟨g, 0, none⟩) ∧ y2 = .int .i64 3 ∧ Aside0 (NV wx g false A 0 c []) ∧ Aside0 (Below WW.heap.size WW wx))
  case first =>
    refine Gr.region_done [[], [], [0, 1, 0], [2], [3], [3], [], [6, 4, 2, 0, 1, 2, 3, 4, 6], [5, 7, 0, 1, 2, 3, 4, 5, 6, 7]] 9 rfl (by kernel_rfl) (by decide) (by kernel_rfl) (I6 WW bg (.agg #[.bool false, .slice LR1 1 1])) I6_cong (fun f => { tmps := #[Value.bool false, Value.pointer (some { block := w2.heap.size, off := 0 }), Value.pointer (some { block := w2.heap.size + 1, off := 0 }), Value.int IntKind.i64 (-9223372036854775808), Value.bool true, Value.int IntKind.i64 0, Value.bool false, Value.int IntKind.i64 0, Value.bool false, Value.pointer (some { block := w8.heap.size, off := 0 }), Value.int IntKind.i64 3, (f 6), (f 8), undef, undef, undef, undef, undef, undef, undef, undef, undef, undef, undef, undef, undef, undef, undef, undef, Value.slice (some { block := w.heap.size, off := 0 }) 1 1, Value.agg #[Value.bool false, Value.slice LR1 1 1], Value.agg #[Value.bool false, Value.slice A2 bg.length c2], Value.tuple #[Value.int IntKind.i64 (-9223372036854775808), Value.bool true], Value.slice (some { block := w2.heap.size + 1 + 1, off := 0 }) 1 1, Value.agg #[Value.bool true, Value.slice LR3 1 1], Value.tuple #[Value.int IntKind.i64 (-9223372036854775808), Value.bool true], Value.int IntKind.i64 (-9223372036854775808), Value.bool true, Value.tuple #[Value.int IntKind.i64 0, Value.bool false], Value.slice (some { block := w4.heap.size, off := 0 }) 1 1, Value.agg #[Value.bool false, Value.slice LR5 1 1], Value.tuple #[Value.int IntKind.i64 0, Value.bool false], Value.int IntKind.i64 0, Value.bool false, Value.tuple #[Value.int IntKind.i64 0, Value.bool false], Value.agg #[Value.bool true, Value.slice none 0 0], Value.tuple #[Value.int IntKind.i64 0, Value.bool false], Value.int IntKind.i64 0, Value.bool false, Value.tuple #[Value.agg #[Value.bool false, Value.slice A8 0 c8], Value.int IntKind.i64 3], Value.agg #[Value.bool false, Value.slice A2 bg.length c2], Value.agg #[Value.bool false, Value.slice LR1 1 1], Value.tuple #[Value.agg #[Value.bool false, Value.slice A8 0 c8], Value.int IntKind.i64 3], Value.agg #[Value.bool false, Value.slice A8 0 c8], Value.int IntKind.i64 3, (f 3), (f 0), (f 1), (f 2), (f 4), (f 5), undef, undef, undef, undef, undef, undef, undef, undef, undef, undef, undef, undef, undef, undef, undef, undef, undef, undef, undef, undef, undef, undef, undef, undef, undef, undef, undef, undef, undef, undef, undef, undef, undef, undef, undef, undef, undef, undef, undef, undef, undef, undef, undef, undef, undef, undef, undef, undef, undef, undef, undef, undef, undef, undef, undef, undef, undef, undef, undef, undef, undef, undef, undef, undef, undef, undef, undef, undef, undef, undef, undef, undef, undef, undef, undef, undef, undef, undef, undef, undef, undef, undef, undef, undef, undef, undef, undef, undef, undef, undef, undef, undef, undef, undef, undef, undef, undef, undef, undef, undef, undef, undef, undef, undef, undef, undef, undef, undef, undef, undef, undef, undef, undef, undef, undef, undef, undef, undef, undef, undef, undef, undef, undef, undef, undef, undef, undef, undef, undef, undef, undef, undef, undef, undef, undef, undef, undef, undef, undef, undef, undef, undef, undef, undef, undef, undef, undef, undef, undef, undef, undef, undef, undef, undef, undef, undef, undef, undef, undef, undef, undef, undef, undef, undef, undef, undef, undef, undef, undef, undef, undef, undef, undef, undef, undef, undef, undef, undef, undef, undef, undef, undef, undef, undef, undef, undef, undef, undef, undef, undef, undef, undef, undef, undef, undef, undef, undef, undef, undef, undef, undef, undef, undef, undef, undef, undef, undef, undef, undef, undef], defers := [] }) ?step ?fin (fun _ => undef) WW ⟨(Below.refl _ _).drew, fun h => (by cases h), fun h => (by cases h), fun h => (by cases h), fun h => (by cases h), fun h => (by cases h), fun h => (by cases h), fun h => (by cases h), fun h => (by cases h), fun h => (by cases h)⟩
    case step =>
      intro i hi d f w' K' hI hd hn hK
      match i, hi with
      | 0, _ =>
        refine wpOp_step rfl (fun K2 hK2 => call_ 31 #[.bool true] rfl rfl (by have he := enters_ Try.func31 (by kernel_rfl) rfl #[.bool true] w'; unfold execOp; simp [resolve, Deferred.ofValue, invoke, Act.eval, he]) ((CG.out w').mono fun e w2 ho => ?_))
        obtain ⟨Aa, ca, rfl, Ra, ba⟩ := ho
        exact ⟨_, rfl, hK2 _ _ (hK _ _ (hI.great hd ba.out Ra.out.1 Ra.out.2))⟩
      | 1, _ =>
        have hv := (V1.out.below hI.b).cells
        refine wpOp_step rfl (fun K2 hK2 => value_ (v := .agg #[.bool false, .slice LR1 1 1]) rfl rfl (by obtain ⟨c0, c1, cl⟩ := hv; go_simp) (hK2 _ _ (hK _ _ (hI.load hd))))
      | 2, _ =>
        obtain ⟨Aa, ca, e0, hca, hra⟩ := hI.k0 (hn 0 (by decide)) hd
        have e1 := hI.k1 (hn 1 (by decide))
        refine wpOp_step rfl (fun K2 hK2 => call_ 15 #[.agg #[.bool true, .slice Aa bg.length ca], .agg #[.bool false, .slice LR1 1 1]] rfl rfl (by have he := enters_ Try.func15 (by kernel_rfl) rfl #[.agg #[.bool true, .slice Aa bg.length ca], .agg #[.bool false, .slice LR1 1 1]] w'; unfold execOp; simp [resolve, Deferred.ofValue, invoke, Act.eval, he, e0, e1]) ((CS.out w' Aa ca ⟨hca, hra⟩ hI.b).mono fun e w2 ho => ?_))
        obtain ⟨Ab, cb, rfl, Rb, bb⟩ := ho
        exact ⟨_, rfl, hK2 _ _ (hK _ _ (hI.sub hd bb.out))⟩
      | 3, _ =>
        obtain ⟨A, c, e⟩ := hI.k2 (hn 2 (by decide))
        exact wpOp_step rfl (fun K2 hK2 => value_ (v := .tuple #[.agg #[.bool false, .slice A 0 c], .int .i64 3]) rfl rfl (by unfold execOp; simp [Act.eval, e, go_sem]) (hK2 _ _ (hK _ _ hI.move)))
      | 4, _ =>
        obtain ⟨A, c, e⟩ := hI.k3 (hn 3 (by decide))
        exact wpOp_step rfl (fun K2 hK2 => value_ (v := .agg #[.bool false, .slice A 0 c]) rfl rfl (by unfold execOp; simp [Act.eval, e, go_sem]) (hK2 _ _ (hK _ _ hI.ext0)))
      | 5, _ =>
        obtain ⟨A, c, e⟩ := hI.k3 (hn 3 (by decide))
        exact wpOp_step rfl (fun K2 hK2 => value_ (v := .int .i64 3) rfl rfl (by unfold execOp; simp [Act.eval, e, go_sem]) (hK2 _ _ (hK _ _ hI.ext1)))
      | 6, _ =>
        have h7 : d 7 = false := by
          cases h : d 7 with
          | false => rfl
          | true => exact absurd (hI.c7 h) (by rw [hd]; decide)
        exact wpOp_step rfl (fun K2 hK2 => value_ (v := .pointer (some ⟨w'.heap.size, 0, none⟩)) rfl rfl (by go_simp) (hK2 _ _ (hK _ _ (hI.made h7))))
      | 7, _ =>
        obtain ⟨A, c, e⟩ := hI.k4 (hn 4 (by decide))
        obtain ⟨g, e6, h1, h2, h3, h4⟩ := hI.k6 (hn 6 (by decide))
        have hk := h3 hd
        exact wpOp_step rfl (fun K2 hK2 => skip_ rfl rfl (by obtain ⟨c0, c1, f0, f1, zl⟩ := two_cells (Below.refl w'.heap.size w') hk; go_simp) (hK2 _ _ (hK undef _ (hI.store (A := A) (c := c) hd (hn 2 (by decide)) (hn 6 (by decide)) e6 h1 h2 hk undef))))
      | 8, _ =>
        have e := hI.k5 (hn 5 (by decide))
        exact wpOp_step rfl (fun K2 hK2 => value_ (v := .int .i64 3) rfl rfl (by unfold execOp; simp [Act.eval, e, go_sem]) (hK2 _ _ (hK _ _ hI.assign)))
      | n + 9, h => exact absurd h (by omega)
    case fin =>
      intro f w' hI
      obtain ⟨g, e6, h1, h2, h3, h4⟩ := hI.k6 rfl
      obtain ⟨A, c, hk⟩ := h4 rfl
      have e8 := hI.k8 rfl
      have hb := hI.b
      go_wp2_with fail
      go_meet
      exact ⟨g, A, c, rfl, rfl, ⟨⟨hk, emptyU _ _, Nat.le_refl _, Nat.zero_le _⟩⟩, ⟨hb⟩⟩
  case rest =>
    obtain ⟨g6, A6, c6, rfl, rfl, V11, b6⟩ := hcut
    rename_i wx
    clear CG CS
    replace V1 := Aside0.mk (V1.out.below b6.out)
    replace V2 := Aside0.mk (V2.out.below b6.out)
    replace V9 := Aside0.mk (V9.out.below b6.out)
    replace HB := Aside0.mk (below_then HB.out HB.out.size b6.out)
    clear b6
    obtain ⟨x0V1, x1V1, xlV1⟩ := V1.out.cells
    obtain ⟨x0V2, x1V2, xlV2⟩ := V2.out.cells
    go_wp2_with fail
    refine (sub_t false false _ _ _ _ bg [1] false l1 0 HS1.out V2.out.cap (by decide) HBO.out (by decide) HBL.out (by decide) _ V2.out.all V1.out.all).mono ?_
    rintro e w9 ⟨A9, c9, rfl, R9, b9⟩
    clear x0V1 x1V1 xlV1 x0V2 x1V2 xlV2
    replace V1 := Aside0.mk (V1.out.below b9.out)
    replace V2 := Aside0.mk (V2.out.below b9.out)
    replace V9 := Aside0.mk (V9.out.below b9.out)
    replace V11 := Aside0.mk (V11.out.below b9.out)
    replace HB := Aside0.mk (below_then HB.out HB.out.size b9.out)
    clear b9
    go_wp2_with fail
    refine (of_t (-9223372036854775808) (by decide) (by decide) true [9223372036854775808] mk63 lim63 _).mono ?_
    rintro e w10 ⟨A10, c10, rfl, R10, b10⟩
    replace V1 := Aside0.mk ((V1.out.alloc _).below b10.out)
    replace V2 := Aside0.mk ((V2.out.alloc _).below b10.out)
    replace V9 := Aside0.mk ((V9.out.alloc _).below b10.out)
    replace V11 := Aside0.mk ((V11.out.alloc _).below b10.out)
    have V13 := Aside0.mk ((NV.new (g := w9.heap.size) false l1.length c9 rfl (Nat.le_refl _) R9.out.1 R9.out.2).below b10.out)
    replace HB := Aside0.mk (below_then (HB.out.alloc HB.out.size _) (HB.out.alloc HB.out.size _).size b10.out)
    clear b10
    clear R9
    go_wp2_with fail
    refine (ofLit true [9223372036854775808] (by first | rfl | simp) rfl rfl (by decide)).mono ?_
    rintro e w11 ⟨L11, rfl, R11, b11⟩
    replace R10 := Aside0.mk (And.intro R10.out.1 (Kd.C_below R10.out.2 b11.out))
    replace V1 := Aside0.mk (V1.out.below b11.out)
    replace V2 := Aside0.mk (V2.out.below b11.out)
    replace V9 := Aside0.mk (V9.out.below b11.out)
    replace V11 := Aside0.mk (V11.out.below b11.out)
    replace V13 := Aside0.mk (V13.out.below b11.out)
    replace HB := Aside0.mk (below_then HB.out HB.out.size b11.out)
    clear b11
    go_wp2_with fail
    refine (sameT true _ _ _ _ [9223372036854775808] (by decide) R10.out.1 (by decide) _ R10.out.2 R11.out).mono ?_
    rintro e w12 ⟨rfl, b12⟩
    clear R10 R11
    replace V1 := Aside0.mk (V1.out.below b12.out)
    replace V2 := Aside0.mk (V2.out.below b12.out)
    replace V9 := Aside0.mk (V9.out.below b12.out)
    replace V11 := Aside0.mk (V11.out.below b12.out)
    replace V13 := Aside0.mk (V13.out.below b12.out)
    replace HB := Aside0.mk (below_then HB.out HB.out.size b12.out)
    clear b12
    go_wp2_with fail
    refine (of_t 0 (by decide) (by decide) false [] mk00 lim00 _).mono ?_
    rintro e w13 ⟨A13, c13, rfl, R13, b13⟩
    replace V1 := Aside0.mk (V1.out.below b13.out)
    replace V2 := Aside0.mk (V2.out.below b13.out)
    replace V9 := Aside0.mk (V9.out.below b13.out)
    replace V11 := Aside0.mk (V11.out.below b13.out)
    replace V13 := Aside0.mk (V13.out.below b13.out)
    replace HB := Aside0.mk (below_then HB.out HB.out.size b13.out)
    clear b13
    go_wp2_with fail
    refine (sameT false _ _ _ _ [] (by decide) R13.out.1 (by decide) _ R13.out.2 (emptyU _ _)).mono ?_
    rintro e w14 ⟨rfl, b14⟩
    clear R13
    replace V1 := Aside0.mk (V1.out.below b14.out)
    replace V2 := Aside0.mk (V2.out.below b14.out)
    replace V9 := Aside0.mk (V9.out.below b14.out)
    replace V11 := Aside0.mk (V11.out.below b14.out)
    replace V13 := Aside0.mk (V13.out.below b14.out)
    replace HB := Aside0.mk (below_then HB.out HB.out.size b14.out)
    clear b14
    obtain ⟨x0V9, x1V9, xlV9⟩ := V9.out.cells
    go_wp2_with fail
    refine (isT false _ _ _ _ [] 3 (by decide) V9.out.cap (by decide) _ V9.out.row (emptyU _ _)).mono ?_
    rintro e w15 ⟨rfl, b15⟩
    clear x0V9 x1V9 xlV9
    replace V1 := Aside0.mk (V1.out.below b15.out)
    replace V2 := Aside0.mk (V2.out.below b15.out)
    replace V9 := Aside0.mk (V9.out.below b15.out)
    replace V11 := Aside0.mk (V11.out.below b15.out)
    replace V13 := Aside0.mk (V13.out.below b15.out)
    replace HB := Aside0.mk (below_then HB.out HB.out.size b15.out)
    clear b15
    obtain ⟨x0V11, x1V11, xlV11⟩ := V11.out.cells
    go_wp2_with fail
    refine (isT false _ _ _ _ [] 3 (by decide) V11.out.cap (by decide) _ V11.out.row (emptyU _ _)).mono ?_
    rintro e w16 ⟨rfl, b16⟩
    clear x0V11 x1V11 xlV11
    replace V1 := Aside0.mk (V1.out.below b16.out)
    replace V2 := Aside0.mk (V2.out.below b16.out)
    replace V9 := Aside0.mk (V9.out.below b16.out)
    replace V11 := Aside0.mk (V11.out.below b16.out)
    replace V13 := Aside0.mk (V13.out.below b16.out)
    replace HB := Aside0.mk (below_then HB.out HB.out.size b16.out)
    clear b16
    obtain ⟨x0V13, x1V13, xlV13⟩ := V13.out.cells
    have hl0 := read_at V13.out.all 0 (by rw [HLL.out]; decide)
    obtain ⟨ad, had, hc0⟩ := hl0
    rw [HL0.out] at hc0
    have hz0 : ad.add 0 = ad := by simp [Addr.add]
    have hc1 := hc0
    rw [hz0] at hc1
    clear hz0
    subst had
    have hll : (l1.length : Int) = 4096 := by rw [HLL.out]; rfl
    have hl0 : ¬ l1.length = 0 := by have := HLL.out; omega
    have hl2 : 0 < l1.length := by omega
    go_upto_region 10 with fail
    clear V9 V11 V13 x0V13 x1V13 xlV13 hc0 hc1 hll hl0 hl2
    go_cut [187, 188, 189] (fun y1 y2 y3 wy => ∃ g, y1 = .slice (some ⟨g, 0, none⟩) 14 14 ∧ y2 = .int .i64 14 ∧ y3 = .int .i64 0 ∧ Aside0 (∀ j, j < 14 → El wy g j) ∧ Aside0 (Below w16.heap.size w16 wy))
    case first =>
      refine Gr.region_grow [[], [0], [], [2, 1], [1, 3], [], [5, 3], [], [7, 6], [6, 8], [], [10, 8], [], [12, 11], [11, 13], [], [15, 13], [], [16, 17], [], [], [19, 20], [], [], [22, 23], [], [], [25, 26], [], [28, 16], [], [30, 29], [29, 31], [], [33, 31], [], [35, 34], [34, 36], [], [38, 36], [], [40, 39], [39, 41], [], [43, 41], [], [45, 44], [44, 46], [], [48, 46], [], [50, 49], [49, 51], [], [], [53, 54], [], [56, 51], [], [57, 58], [4, 9, 14, 18, 21, 24, 27, 32, 37, 42, 47, 52, 55, 59], [60], []] 63 rfl (by kernel_rfl) (by decide) (by kernel_rfl) (fun w' => NV w' w2.heap.size false LR1 1 1 [1] ∧ NV w' (w2.heap.size + 1) false A2 bg.length c2 bg ∧ Below w16.heap.size w16 w') (fun _ _ h hb => ⟨h.1.below hb, h.2.1.below hb, below_then h.2.2 h.2.2.size hb⟩) (fun i => Kn.ok (([.S [5], .I false [5], .S [0, 5], .I false [0, 5], .T, .S [5], .I true [5], .S [3], .I true [3], .T, .S [1], .I true [1], .S [1], .I true [1], .T, .S [5], .I false [5], .I false [], .T, .I false [1], .I false [], .T, .I false [1], .I false [], .T, .I false [], .I false [], .T, .S [7], .I true [7], .S [1], .I true [1], .T, .S [8], .I true [8], .S [1], .I true [1], .T, .S [9], .I true [9], .S [2], .I true [2], .T, .S [0, 1], .I true [0, 1], .S [1], .I true [1], .T, .S [1, 1], .I true [1, 1], .S [2], .I true [2], .T, .I false bg, .I false [], .T, .S [1, 0], .I false [1, 0], .I false [], .T, .G, .N 14, .N 0] : List Kn).getD i .T)) (fun i _ _ _ h hb => Kn.ok_below h hb) (fun f => { tmps := #[Value.bool false, Value.pointer (some { block := w2.heap.size, off := 0 }), Value.pointer (some { block := w2.heap.size + 1, off := 0 }), Value.int IntKind.i64 (-9223372036854775808), Value.bool true, Value.int IntKind.i64 0, Value.bool false, Value.int IntKind.i64 0, Value.bool false, Value.pointer (some { block := w8.heap.size, off := 0 }), Value.int IntKind.i64 3, Value.pointer (some { block := g6, off := 0 }), Value.int IntKind.i64 3, Value.pointer (some { block := w9.heap.size, off := 0 }), Value.int IntKind.i64 0, undef, undef, undef, undef, undef, undef, undef, undef, undef, undef, undef, undef, u27, undef, u29, u30, u31, u32, u33, u34, u35, u36, u37, u38, u39, u40, u41, u42, u43, u44, u45, u46, u47, u48, u49, u50, u51, u52, u53, u54, u55, u56, u57, u58, u59, u60, Value.tuple #[Value.agg #[Value.bool false, Value.slice (some ad) l1.length c9], Value.int IntKind.i64 0], Value.agg #[Value.bool false, Value.slice A2 bg.length c2], Value.agg #[Value.bool false, Value.slice LR1 1 1], Value.tuple #[Value.agg #[Value.bool false, Value.slice (some ad) l1.length c9], Value.int IntKind.i64 0], Value.agg #[Value.bool false, Value.slice (some ad) l1.length c9], Value.int IntKind.i64 0, Value.agg #[Value.bool true, Value.slice A10 1 c10], Value.slice (some { block := w10.heap.size, off := 0 }) 1 1, Value.agg #[Value.bool true, Value.slice L11 1 1], Value.bool true, Value.bool false, Value.bool false, Value.agg #[Value.bool false, Value.slice A13 0 c13], Value.agg #[Value.bool false, Value.slice none 0 0], Value.bool true, Value.bool false, Value.bool false, Value.bool false, Value.int IntKind.i64 (-9223372036854775808), Value.bool false, Value.bool false, Value.bool false, Value.bool true, Value.bool false, Value.bool false, Value.bool false, Value.int IntKind.i64 0, Value.bool false, Value.bool false, Value.bool false, Value.bool false, Value.bool false, Value.bool false, Value.bool false, Value.bool false, Value.bool false, Value.agg #[Value.bool false, Value.slice A8 0 c8], Value.int IntKind.i64 3, Value.agg #[Value.bool false, Value.slice none 0 0], Value.bool true, Value.bool false, Value.bool false, Value.bool false, Value.agg #[Value.bool false, Value.slice A6 0 c6], Value.int IntKind.i64 3, Value.agg #[Value.bool false, Value.slice none 0 0], Value.bool true, Value.bool false, Value.bool false, Value.bool false, Value.int IntKind.i64 0, Value.bool false, Value.bool false, Value.bool false, Value.pointer (some { block := w9.heap.size, off := 1 }), Value.slice (some ad) l1.length c9, Value.int IntKind.i64 4096, Value.bool false, Value.bool false, Value.bool false, Value.pointer (some { block := w9.heap.size, off := 1 }), Value.slice (some ad) l1.length c9, Value.pointer (some ad), Value.int IntKind.u64 18446744073709551614, Value.bool false, Value.bool false, (f 0), (f 1), (f 2), (f 3), (f 4), (f 5), (f 6), (f 7), (f 8), (f 9), (f 10), (f 11), (f 12), (f 13), (f 14), (f 15), (f 16), (f 17), (f 18), (f 19), (f 20), (f 21), (f 22), (f 23), (f 24), (f 25), (f 26), (f 27), (f 28), (f 29), (f 30), (f 31), (f 32), (f 33), (f 34), (f 35), (f 36), (f 37), (f 38), (f 39), (f 40), (f 41), (f 42), (f 43), (f 44), (f 45), (f 46), (f 47), (f 48), (f 49), (f 50), (f 51), (f 52), (f 53), (f 54), (f 55), (f 56), (f 57), (f 58), (f 59), (f 60), (f 61), (f 62), u190, u191, u192, u193, u194, u195, u196, u197, u198, u199, u200, u201, u202, u203, u204, u205, u206, u207, u208, u209, u210, u211, u212, u213, u214, u215, u216, u217, u218, u219, u220, u221, u222, u223, u224, u225, u226, u227, u228, u229, u230, u231, u232, u233, u234, u235, u236, u237, u238, u239, u240, u241, u242, u243, u244, u245, u246, u247, u248, u249, u250, u251, u252, u253, u254, u255, u256, u257, u258, u259, u260, u261, u262, u263, u264, u265, u266, u267, u268, u269, u270], defers := [] }) ?step ?fin (fun i => [u127, u128, u129, u130, u131, u132, u133, u134, u135, u136, u137, u138, u139, u140, u141, u142, u143, u144, u145, u146, u147, u148, u149, u150, u151, u152, u153, u154, u155, u156, u157, u158, u159, u160, u161, u162, u163, u164, u165, u166, u167, u168, u169, u170, u171, u172, u173, u174, u175, u176, u177, u178, u179, u180, u181, u182, u183, u184, u185, u186, undef, undef, undef].getD i undef) w16 ⟨V1.out.drew, V2.out.drew, (Below.refl _ _).drew⟩
      case step =>
        intro i hi f w' K' hJ hn hK
        match i, hi with
        | 0, _ => exact wpOp_step rfl (fun K2 hK2 => value_ (v := .slice (some ⟨w'.heap.size, 0, none⟩) 1 1) rfl rfl (by go_simp) (hK2 _ _ (hK _ _ ⟨_, _, _, rfl, rfl, Nat.le_refl _, litU w' [5] #[.int .u64 5] rfl (by decide)⟩ ((Below.refl _ _).alloc (Nat.le_refl _) _))))
        | 1, _ =>
          obtain ⟨A, n, c, e0, hl, hc, hr⟩ := hn 0 (by decide)
          refine wpOp_step rfl (fun K2 hK2 => call_ 30 #[.bool false, .slice A n c] rfl rfl (by have he := enters_ Try.func30 (by kernel_rfl) rfl #[.bool false, .slice A n c] w'; unfold execOp; simp [resolve, Deferred.ofValue, invoke, Act.eval, he, e0]) ((ofl_c false A n c w').mono fun e w2 ho => ?_))
          obtain ⟨rfl, hb⟩ := ho
          exact ⟨_, rfl, hK2 _ _ (hK _ _ ⟨A, n, c, rfl, hl, hc, Kd.C_below hr hb.out⟩ hb.out)⟩
        | 2, _ => exact wpOp_step rfl (fun K2 hK2 => value_ (v := .slice (some ⟨w'.heap.size, 0, none⟩) 2 2) rfl rfl (by go_simp) (hK2 _ _ (hK _ _ ⟨_, _, _, rfl, rfl, Nat.le_refl _, litU w' [0, 5] #[.int .u64 0, .int .u64 5] rfl (by decide)⟩ ((Below.refl _ _).alloc (Nat.le_refl _) _))))
        | 3, _ =>
          obtain ⟨A, n, c, e0, hl, hc, hr⟩ := hn 2 (by decide)
          refine wpOp_step rfl (fun K2 hK2 => call_ 30 #[.bool false, .slice A n c] rfl rfl (by have he := enters_ Try.func30 (by kernel_rfl) rfl #[.bool false, .slice A n c] w'; unfold execOp; simp [resolve, Deferred.ofValue, invoke, Act.eval, he, e0]) ((ofl_c false A n c w').mono fun e w2 ho => ?_))
          obtain ⟨rfl, hb⟩ := ho
          exact ⟨_, rfl, hK2 _ _ (hK _ _ ⟨A, n, c, rfl, hl, hc, Kd.C_below hr hb.out⟩ hb.out)⟩
        | 4, _ =>
          obtain ⟨A, n, c, ex, hx⟩ : Kn.ok (.I false [5]) w' (f 1) := hn 1 (by decide)
          obtain ⟨B, o, d, ey, hy⟩ : Kn.ok (.I false [0, 5]) w' (f 3) := hn 3 (by decide)
          exact wpOp_step rfl (fun K2 hK2 => value_ (v := .agg #[.bool false, .slice A n c, .int .i64 (64), .bool false, .slice B o d, .int .i64 0]) rfl rfl (by unfold execOp; simp [Act.eval, ex, ey, go_sem]) (hK2 _ _ (hK _ _ ⟨false, [5], 64, false, [0, 5], 0, A, n, c, B, o, d, rfl, hx, hy, ⟨s1, (by decide), (by decide), (by decide), (by decide), (by decide)⟩⟩ (Below.refl _ _))))
        | 5, _ => exact wpOp_step rfl (fun K2 hK2 => value_ (v := .slice (some ⟨w'.heap.size, 0, none⟩) 1 1) rfl rfl (by go_simp) (hK2 _ _ (hK _ _ ⟨_, _, _, rfl, rfl, Nat.le_refl _, litU w' [5] #[.int .u64 5] rfl (by decide)⟩ ((Below.refl _ _).alloc (Nat.le_refl _) _))))
        | 6, _ =>
          obtain ⟨A, n, c, e0, hl, hc, hr⟩ := hn 5 (by decide)
          refine wpOp_step rfl (fun K2 hK2 => call_ 30 #[.bool true, .slice A n c] rfl rfl (by have he := enters_ Try.func30 (by kernel_rfl) rfl #[.bool true, .slice A n c] w'; unfold execOp; simp [resolve, Deferred.ofValue, invoke, Act.eval, he, e0]) ((ofl_c true A n c w').mono fun e w2 ho => ?_))
          obtain ⟨rfl, hb⟩ := ho
          exact ⟨_, rfl, hK2 _ _ (hK _ _ ⟨A, n, c, rfl, hl, hc, Kd.C_below hr hb.out⟩ hb.out)⟩
        | 7, _ => exact wpOp_step rfl (fun K2 hK2 => value_ (v := .slice (some ⟨w'.heap.size, 0, none⟩) 1 1) rfl rfl (by go_simp) (hK2 _ _ (hK _ _ ⟨_, _, _, rfl, rfl, Nat.le_refl _, litU w' [3] #[.int .u64 3] rfl (by decide)⟩ ((Below.refl _ _).alloc (Nat.le_refl _) _))))
        | 8, _ =>
          obtain ⟨A, n, c, e0, hl, hc, hr⟩ := hn 7 (by decide)
          refine wpOp_step rfl (fun K2 hK2 => call_ 30 #[.bool true, .slice A n c] rfl rfl (by have he := enters_ Try.func30 (by kernel_rfl) rfl #[.bool true, .slice A n c] w'; unfold execOp; simp [resolve, Deferred.ofValue, invoke, Act.eval, he, e0]) ((ofl_c true A n c w').mono fun e w2 ho => ?_))
          obtain ⟨rfl, hb⟩ := ho
          exact ⟨_, rfl, hK2 _ _ (hK _ _ ⟨A, n, c, rfl, hl, hc, Kd.C_below hr hb.out⟩ hb.out)⟩
        | 9, _ =>
          obtain ⟨A, n, c, ex, hx⟩ : Kn.ok (.I true [5]) w' (f 6) := hn 6 (by decide)
          obtain ⟨B, o, d, ey, hy⟩ : Kn.ok (.I true [3]) w' (f 8) := hn 8 (by decide)
          exact wpOp_step rfl (fun K2 hK2 => value_ (v := .agg #[.bool true, .slice A n c, .int .i64 (-1), .bool true, .slice B o d, .int .i64 0]) rfl rfl (by unfold execOp; simp [Act.eval, ex, ey, go_sem]) (hK2 _ _ (hK _ _ ⟨true, [5], -1, true, [3], 0, A, n, c, B, o, d, rfl, hx, hy, ⟨s2, (by decide), (by decide), (by decide), (by decide), (by decide)⟩⟩ (Below.refl _ _))))
        | 10, _ => exact wpOp_step rfl (fun K2 hK2 => value_ (v := .slice (some ⟨w'.heap.size, 0, none⟩) 1 1) rfl rfl (by go_simp) (hK2 _ _ (hK _ _ ⟨_, _, _, rfl, rfl, Nat.le_refl _, litU w' [1] #[.int .u64 1] rfl (by decide)⟩ ((Below.refl _ _).alloc (Nat.le_refl _) _))))
        | 11, _ =>
          obtain ⟨A, n, c, e0, hl, hc, hr⟩ := hn 10 (by decide)
          refine wpOp_step rfl (fun K2 hK2 => call_ 30 #[.bool true, .slice A n c] rfl rfl (by have he := enters_ Try.func30 (by kernel_rfl) rfl #[.bool true, .slice A n c] w'; unfold execOp; simp [resolve, Deferred.ofValue, invoke, Act.eval, he, e0]) ((ofl_c true A n c w').mono fun e w2 ho => ?_))
          obtain ⟨rfl, hb⟩ := ho
          exact ⟨_, rfl, hK2 _ _ (hK _ _ ⟨A, n, c, rfl, hl, hc, Kd.C_below hr hb.out⟩ hb.out)⟩
        | 12, _ => exact wpOp_step rfl (fun K2 hK2 => value_ (v := .slice (some ⟨w'.heap.size, 0, none⟩) 1 1) rfl rfl (by go_simp) (hK2 _ _ (hK _ _ ⟨_, _, _, rfl, rfl, Nat.le_refl _, litU w' [1] #[.int .u64 1] rfl (by decide)⟩ ((Below.refl _ _).alloc (Nat.le_refl _) _))))
        | 13, _ =>
          obtain ⟨A, n, c, e0, hl, hc, hr⟩ := hn 12 (by decide)
          refine wpOp_step rfl (fun K2 hK2 => call_ 30 #[.bool true, .slice A n c] rfl rfl (by have he := enters_ Try.func30 (by kernel_rfl) rfl #[.bool true, .slice A n c] w'; unfold execOp; simp [resolve, Deferred.ofValue, invoke, Act.eval, he, e0]) ((ofl_c true A n c w').mono fun e w2 ho => ?_))
          obtain ⟨rfl, hb⟩ := ho
          exact ⟨_, rfl, hK2 _ _ (hK _ _ ⟨A, n, c, rfl, hl, hc, Kd.C_below hr hb.out⟩ hb.out)⟩
        | 14, _ =>
          obtain ⟨A, n, c, ex, hx⟩ : Kn.ok (.I true [1]) w' (f 11) := hn 11 (by decide)
          obtain ⟨B, o, d, ey, hy⟩ : Kn.ok (.I true [1]) w' (f 13) := hn 13 (by decide)
          exact wpOp_step rfl (fun K2 hK2 => value_ (v := .agg #[.bool true, .slice A n c, .int .i64 (-1000), .bool true, .slice B o d, .int .i64 0]) rfl rfl (by unfold execOp; simp [Act.eval, ex, ey, go_sem]) (hK2 _ _ (hK _ _ ⟨true, [1], -1000, true, [1], 0, A, n, c, B, o, d, rfl, hx, hy, ⟨s3, (by decide), (by decide), (by decide), (by decide), (by decide)⟩⟩ (Below.refl _ _))))
        | 15, _ => exact wpOp_step rfl (fun K2 hK2 => value_ (v := .slice (some ⟨w'.heap.size, 0, none⟩) 1 1) rfl rfl (by go_simp) (hK2 _ _ (hK _ _ ⟨_, _, _, rfl, rfl, Nat.le_refl _, litU w' [5] #[.int .u64 5] rfl (by decide)⟩ ((Below.refl _ _).alloc (Nat.le_refl _) _))))
        | 16, _ =>
          obtain ⟨A, n, c, e0, hl, hc, hr⟩ := hn 15 (by decide)
          refine wpOp_step rfl (fun K2 hK2 => call_ 30 #[.bool false, .slice A n c] rfl rfl (by have he := enters_ Try.func30 (by kernel_rfl) rfl #[.bool false, .slice A n c] w'; unfold execOp; simp [resolve, Deferred.ofValue, invoke, Act.eval, he, e0]) ((ofl_c false A n c w').mono fun e w2 ho => ?_))
          obtain ⟨rfl, hb⟩ := ho
          exact ⟨_, rfl, hK2 _ _ (hK _ _ ⟨A, n, c, rfl, hl, hc, Kd.C_below hr hb.out⟩ hb.out)⟩
        | 17, _ => exact wpOp_step rfl (fun K2 hK2 => value_ (v := .agg #[.bool false, .slice none 0 0]) rfl rfl (by go_simp) (hK2 _ _ (hK _ _ ⟨_, _, _, rfl, rfl, Nat.le_refl _, emptyU _ _⟩ (Below.refl _ _))))
        | 18, _ =>
          obtain ⟨A, n, c, ex, hx⟩ : Kn.ok (.I false [5]) w' (f 16) := hn 16 (by decide)
          obtain ⟨B, o, d, ey, hy⟩ : Kn.ok (.I false []) w' (f 17) := hn 17 (by decide)
          exact wpOp_step rfl (fun K2 hK2 => value_ (v := .agg #[.bool false, .slice A n c, .int .i64 (-1000), .bool false, .slice B o d, .int .i64 0]) rfl rfl (by unfold execOp; simp [Act.eval, ex, ey, go_sem]) (hK2 _ _ (hK _ _ ⟨false, [5], -1000, false, [], 0, A, n, c, B, o, d, rfl, hx, hy, ⟨s4, (by decide), (by decide), (by decide), (by decide), (by decide)⟩⟩ (Below.refl _ _))))
        | 19, _ =>
          have hv := hJ.1
          exact wpOp_step rfl (fun K2 hK2 => value_ (v := .agg #[.bool false, .slice LR1 1 1]) rfl rfl (by obtain ⟨c0, c1, cl⟩ := hv.cells; go_simp) (hK2 _ _ (hK _ _ ⟨_, _, _, rfl, rfl, Nat.le_refl _, hv.all⟩ (Below.refl _ _))))
        | 20, _ => exact wpOp_step rfl (fun K2 hK2 => value_ (v := .agg #[.bool false, .slice none 0 0]) rfl rfl (by go_simp) (hK2 _ _ (hK _ _ ⟨_, _, _, rfl, rfl, Nat.le_refl _, emptyU _ _⟩ (Below.refl _ _))))
        | 21, _ =>
          obtain ⟨A, n, c, ex, hx⟩ : Kn.ok (.I false [1]) w' (f 19) := hn 19 (by decide)
          obtain ⟨B, o, d, ey, hy⟩ : Kn.ok (.I false []) w' (f 20) := hn 20 (by decide)
          exact wpOp_step rfl (fun K2 hK2 => value_ (v := .agg #[.bool false, .slice A n c, .int .i64 (262144), .bool false, .slice B o d, .int .i64 3]) rfl rfl (by unfold execOp; simp [Act.eval, ex, ey, go_sem]) (hK2 _ _ (hK _ _ ⟨false, [1], 262144, false, [], 3, A, n, c, B, o, d, rfl, hx, hy, ⟨s5, (by decide), (by decide), (by decide), (by decide), (by decide)⟩⟩ (Below.refl _ _))))
        | 22, _ =>
          have hv := hJ.1
          exact wpOp_step rfl (fun K2 hK2 => value_ (v := .agg #[.bool false, .slice LR1 1 1]) rfl rfl (by obtain ⟨c0, c1, cl⟩ := hv.cells; go_simp) (hK2 _ _ (hK _ _ ⟨_, _, _, rfl, rfl, Nat.le_refl _, hv.all⟩ (Below.refl _ _))))
        | 23, _ => exact wpOp_step rfl (fun K2 hK2 => value_ (v := .agg #[.bool false, .slice none 0 0]) rfl rfl (by go_simp) (hK2 _ _ (hK _ _ ⟨_, _, _, rfl, rfl, Nat.le_refl _, emptyU _ _⟩ (Below.refl _ _))))
        | 24, _ =>
          obtain ⟨A, n, c, ex, hx⟩ : Kn.ok (.I false [1]) w' (f 22) := hn 22 (by decide)
          obtain ⟨B, o, d, ey, hy⟩ : Kn.ok (.I false []) w' (f 23) := hn 23 (by decide)
          exact wpOp_step rfl (fun K2 hK2 => value_ (v := .agg #[.bool false, .slice A n c, .int .i64 (9223372036854775807), .bool false, .slice B o d, .int .i64 3]) rfl rfl (by unfold execOp; simp [Act.eval, ex, ey, go_sem]) (hK2 _ _ (hK _ _ ⟨false, [1], 9223372036854775807, false, [], 3, A, n, c, B, o, d, rfl, hx, hy, ⟨s6, (by decide), (by decide), (by decide), (by decide), (by decide)⟩⟩ (Below.refl _ _))))
        | 25, _ => exact wpOp_step rfl (fun K2 hK2 => value_ (v := .agg #[.bool false, .slice none 0 0]) rfl rfl (by go_simp) (hK2 _ _ (hK _ _ ⟨_, _, _, rfl, rfl, Nat.le_refl _, emptyU _ _⟩ (Below.refl _ _))))
        | 26, _ => exact wpOp_step rfl (fun K2 hK2 => value_ (v := .agg #[.bool false, .slice none 0 0]) rfl rfl (by go_simp) (hK2 _ _ (hK _ _ ⟨_, _, _, rfl, rfl, Nat.le_refl _, emptyU _ _⟩ (Below.refl _ _))))
        | 27, _ =>
          obtain ⟨A, n, c, ex, hx⟩ : Kn.ok (.I false []) w' (f 25) := hn 25 (by decide)
          obtain ⟨B, o, d, ey, hy⟩ : Kn.ok (.I false []) w' (f 26) := hn 26 (by decide)
          exact wpOp_step rfl (fun K2 hK2 => value_ (v := .agg #[.bool false, .slice A n c, .int .i64 (9223372036854775807), .bool false, .slice B o d, .int .i64 0]) rfl rfl (by unfold execOp; simp [Act.eval, ex, ey, go_sem]) (hK2 _ _ (hK _ _ ⟨false, [], 9223372036854775807, false, [], 0, A, n, c, B, o, d, rfl, hx, hy, ⟨s7, (by decide), (by decide), (by decide), (by decide), (by decide)⟩⟩ (Below.refl _ _))))
        | 28, _ => exact wpOp_step rfl (fun K2 hK2 => value_ (v := .slice (some ⟨w'.heap.size, 0, none⟩) 1 1) rfl rfl (by go_simp) (hK2 _ _ (hK _ _ ⟨_, _, _, rfl, rfl, Nat.le_refl _, litU w' [7] #[.int .u64 7] rfl (by decide)⟩ ((Below.refl _ _).alloc (Nat.le_refl _) _))))
        | 29, _ =>
          obtain ⟨A, n, c, e0, hl, hc, hr⟩ := hn 28 (by decide)
          refine wpOp_step rfl (fun K2 hK2 => call_ 30 #[.bool true, .slice A n c] rfl rfl (by have he := enters_ Try.func30 (by kernel_rfl) rfl #[.bool true, .slice A n c] w'; unfold execOp; simp [resolve, Deferred.ofValue, invoke, Act.eval, he, e0]) ((ofl_c true A n c w').mono fun e w2 ho => ?_))
          obtain ⟨rfl, hb⟩ := ho
          exact ⟨_, rfl, hK2 _ _ (hK _ _ ⟨A, n, c, rfl, hl, hc, Kd.C_below hr hb.out⟩ hb.out)⟩
        | 30, _ => exact wpOp_step rfl (fun K2 hK2 => value_ (v := .slice (some ⟨w'.heap.size, 0, none⟩) 1 1) rfl rfl (by go_simp) (hK2 _ _ (hK _ _ ⟨_, _, _, rfl, rfl, Nat.le_refl _, litU w' [1] #[.int .u64 1] rfl (by decide)⟩ ((Below.refl _ _).alloc (Nat.le_refl _) _))))
        | 31, _ =>
          obtain ⟨A, n, c, e0, hl, hc, hr⟩ := hn 30 (by decide)
          refine wpOp_step rfl (fun K2 hK2 => call_ 30 #[.bool true, .slice A n c] rfl rfl (by have he := enters_ Try.func30 (by kernel_rfl) rfl #[.bool true, .slice A n c] w'; unfold execOp; simp [resolve, Deferred.ofValue, invoke, Act.eval, he, e0]) ((ofl_c true A n c w').mono fun e w2 ho => ?_))
          obtain ⟨rfl, hb⟩ := ho
          exact ⟨_, rfl, hK2 _ _ (hK _ _ ⟨A, n, c, rfl, hl, hc, Kd.C_below hr hb.out⟩ hb.out)⟩
        | 32, _ =>
          obtain ⟨A, n, c, ex, hx⟩ : Kn.ok (.I true [7]) w' (f 29) := hn 29 (by decide)
          obtain ⟨B, o, d, ey, hy⟩ : Kn.ok (.I true [1]) w' (f 31) := hn 31 (by decide)
          exact wpOp_step rfl (fun K2 hK2 => value_ (v := .agg #[.bool true, .slice A n c, .int .i64 (-9223372036854775808), .bool true, .slice B o d, .int .i64 0]) rfl rfl (by unfold execOp; simp [Act.eval, ex, ey, go_sem]) (hK2 _ _ (hK _ _ ⟨true, [7], -9223372036854775808, true, [1], 0, A, n, c, B, o, d, rfl, hx, hy, ⟨s8, (by decide), (by decide), (by decide), (by decide), (by decide)⟩⟩ (Below.refl _ _))))
        | 33, _ => exact wpOp_step rfl (fun K2 hK2 => value_ (v := .slice (some ⟨w'.heap.size, 0, none⟩) 1 1) rfl rfl (by go_simp) (hK2 _ _ (hK _ _ ⟨_, _, _, rfl, rfl, Nat.le_refl _, litU w' [8] #[.int .u64 8] rfl (by decide)⟩ ((Below.refl _ _).alloc (Nat.le_refl _) _))))
        | 34, _ =>
          obtain ⟨A, n, c, e0, hl, hc, hr⟩ := hn 33 (by decide)
          refine wpOp_step rfl (fun K2 hK2 => call_ 30 #[.bool true, .slice A n c] rfl rfl (by have he := enters_ Try.func30 (by kernel_rfl) rfl #[.bool true, .slice A n c] w'; unfold execOp; simp [resolve, Deferred.ofValue, invoke, Act.eval, he, e0]) ((ofl_c true A n c w').mono fun e w2 ho => ?_))
          obtain ⟨rfl, hb⟩ := ho
          exact ⟨_, rfl, hK2 _ _ (hK _ _ ⟨A, n, c, rfl, hl, hc, Kd.C_below hr hb.out⟩ hb.out)⟩
        | 35, _ => exact wpOp_step rfl (fun K2 hK2 => value_ (v := .slice (some ⟨w'.heap.size, 0, none⟩) 1 1) rfl rfl (by go_simp) (hK2 _ _ (hK _ _ ⟨_, _, _, rfl, rfl, Nat.le_refl _, litU w' [1] #[.int .u64 1] rfl (by decide)⟩ ((Below.refl _ _).alloc (Nat.le_refl _) _))))
        | 36, _ =>
          obtain ⟨A, n, c, e0, hl, hc, hr⟩ := hn 35 (by decide)
          refine wpOp_step rfl (fun K2 hK2 => call_ 30 #[.bool true, .slice A n c] rfl rfl (by have he := enters_ Try.func30 (by kernel_rfl) rfl #[.bool true, .slice A n c] w'; unfold execOp; simp [resolve, Deferred.ofValue, invoke, Act.eval, he, e0]) ((ofl_c true A n c w').mono fun e w2 ho => ?_))
          obtain ⟨rfl, hb⟩ := ho
          exact ⟨_, rfl, hK2 _ _ (hK _ _ ⟨A, n, c, rfl, hl, hc, Kd.C_below hr hb.out⟩ hb.out)⟩
        | 37, _ =>
          obtain ⟨A, n, c, ex, hx⟩ : Kn.ok (.I true [8]) w' (f 34) := hn 34 (by decide)
          obtain ⟨B, o, d, ey, hy⟩ : Kn.ok (.I true [1]) w' (f 36) := hn 36 (by decide)
          exact wpOp_step rfl (fun K2 hK2 => value_ (v := .agg #[.bool true, .slice A n c, .int .i64 (-3), .bool true, .slice B o d, .int .i64 0]) rfl rfl (by unfold execOp; simp [Act.eval, ex, ey, go_sem]) (hK2 _ _ (hK _ _ ⟨true, [8], -3, true, [1], 0, A, n, c, B, o, d, rfl, hx, hy, ⟨s9, (by decide), (by decide), (by decide), (by decide), (by decide)⟩⟩ (Below.refl _ _))))
        | 38, _ => exact wpOp_step rfl (fun K2 hK2 => value_ (v := .slice (some ⟨w'.heap.size, 0, none⟩) 1 1) rfl rfl (by go_simp) (hK2 _ _ (hK _ _ ⟨_, _, _, rfl, rfl, Nat.le_refl _, litU w' [9] #[.int .u64 9] rfl (by decide)⟩ ((Below.refl _ _).alloc (Nat.le_refl _) _))))
        | 39, _ =>
          obtain ⟨A, n, c, e0, hl, hc, hr⟩ := hn 38 (by decide)
          refine wpOp_step rfl (fun K2 hK2 => call_ 30 #[.bool true, .slice A n c] rfl rfl (by have he := enters_ Try.func30 (by kernel_rfl) rfl #[.bool true, .slice A n c] w'; unfold execOp; simp [resolve, Deferred.ofValue, invoke, Act.eval, he, e0]) ((ofl_c true A n c w').mono fun e w2 ho => ?_))
          obtain ⟨rfl, hb⟩ := ho
          exact ⟨_, rfl, hK2 _ _ (hK _ _ ⟨A, n, c, rfl, hl, hc, Kd.C_below hr hb.out⟩ hb.out)⟩
        | 40, _ => exact wpOp_step rfl (fun K2 hK2 => value_ (v := .slice (some ⟨w'.heap.size, 0, none⟩) 1 1) rfl rfl (by go_simp) (hK2 _ _ (hK _ _ ⟨_, _, _, rfl, rfl, Nat.le_refl _, litU w' [2] #[.int .u64 2] rfl (by decide)⟩ ((Below.refl _ _).alloc (Nat.le_refl _) _))))
        | 41, _ =>
          obtain ⟨A, n, c, e0, hl, hc, hr⟩ := hn 40 (by decide)
          refine wpOp_step rfl (fun K2 hK2 => call_ 30 #[.bool true, .slice A n c] rfl rfl (by have he := enters_ Try.func30 (by kernel_rfl) rfl #[.bool true, .slice A n c] w'; unfold execOp; simp [resolve, Deferred.ofValue, invoke, Act.eval, he, e0]) ((ofl_c true A n c w').mono fun e w2 ho => ?_))
          obtain ⟨rfl, hb⟩ := ho
          exact ⟨_, rfl, hK2 _ _ (hK _ _ ⟨A, n, c, rfl, hl, hc, Kd.C_below hr hb.out⟩ hb.out)⟩
        | 42, _ =>
          obtain ⟨A, n, c, ex, hx⟩ : Kn.ok (.I true [9]) w' (f 39) := hn 39 (by decide)
          obtain ⟨B, o, d, ey, hy⟩ : Kn.ok (.I true [2]) w' (f 41) := hn 41 (by decide)
          exact wpOp_step rfl (fun K2 hK2 => value_ (v := .agg #[.bool true, .slice A n c, .int .i64 (-3), .bool true, .slice B o d, .int .i64 0]) rfl rfl (by unfold execOp; simp [Act.eval, ex, ey, go_sem]) (hK2 _ _ (hK _ _ ⟨true, [9], -3, true, [2], 0, A, n, c, B, o, d, rfl, hx, hy, ⟨s10, (by decide), (by decide), (by decide), (by decide), (by decide)⟩⟩ (Below.refl _ _))))
        | 43, _ => exact wpOp_step rfl (fun K2 hK2 => value_ (v := .slice (some ⟨w'.heap.size, 0, none⟩) 2 2) rfl rfl (by go_simp) (hK2 _ _ (hK _ _ ⟨_, _, _, rfl, rfl, Nat.le_refl _, litU w' [0, 1] #[.int .u64 0, .int .u64 1] rfl (by decide)⟩ ((Below.refl _ _).alloc (Nat.le_refl _) _))))
        | 44, _ =>
          obtain ⟨A, n, c, e0, hl, hc, hr⟩ := hn 43 (by decide)
          refine wpOp_step rfl (fun K2 hK2 => call_ 30 #[.bool true, .slice A n c] rfl rfl (by have he := enters_ Try.func30 (by kernel_rfl) rfl #[.bool true, .slice A n c] w'; unfold execOp; simp [resolve, Deferred.ofValue, invoke, Act.eval, he, e0]) ((ofl_c true A n c w').mono fun e w2 ho => ?_))
          obtain ⟨rfl, hb⟩ := ho
          exact ⟨_, rfl, hK2 _ _ (hK _ _ ⟨A, n, c, rfl, hl, hc, Kd.C_below hr hb.out⟩ hb.out)⟩
        | 45, _ => exact wpOp_step rfl (fun K2 hK2 => value_ (v := .slice (some ⟨w'.heap.size, 0, none⟩) 1 1) rfl rfl (by go_simp) (hK2 _ _ (hK _ _ ⟨_, _, _, rfl, rfl, Nat.le_refl _, litU w' [1] #[.int .u64 1] rfl (by decide)⟩ ((Below.refl _ _).alloc (Nat.le_refl _) _))))
        | 46, _ =>
          obtain ⟨A, n, c, e0, hl, hc, hr⟩ := hn 45 (by decide)
          refine wpOp_step rfl (fun K2 hK2 => call_ 30 #[.bool true, .slice A n c] rfl rfl (by have he := enters_ Try.func30 (by kernel_rfl) rfl #[.bool true, .slice A n c] w'; unfold execOp; simp [resolve, Deferred.ofValue, invoke, Act.eval, he, e0]) ((ofl_c true A n c w').mono fun e w2 ho => ?_))
          obtain ⟨rfl, hb⟩ := ho
          exact ⟨_, rfl, hK2 _ _ (hK _ _ ⟨A, n, c, rfl, hl, hc, Kd.C_below hr hb.out⟩ hb.out)⟩
        | 47, _ =>
          obtain ⟨A, n, c, ex, hx⟩ : Kn.ok (.I true [0, 1]) w' (f 44) := hn 44 (by decide)
          obtain ⟨B, o, d, ey, hy⟩ : Kn.ok (.I true [1]) w' (f 46) := hn 46 (by decide)
          exact wpOp_step rfl (fun K2 hK2 => value_ (v := .agg #[.bool true, .slice A n c, .int .i64 (-64), .bool true, .slice B o d, .int .i64 0]) rfl rfl (by unfold execOp; simp [Act.eval, ex, ey, go_sem]) (hK2 _ _ (hK _ _ ⟨true, [0, 1], -64, true, [1], 0, A, n, c, B, o, d, rfl, hx, hy, ⟨s11, (by decide), (by decide), (by decide), (by decide), (by decide)⟩⟩ (Below.refl _ _))))
        | 48, _ => exact wpOp_step rfl (fun K2 hK2 => value_ (v := .slice (some ⟨w'.heap.size, 0, none⟩) 2 2) rfl rfl (by go_simp) (hK2 _ _ (hK _ _ ⟨_, _, _, rfl, rfl, Nat.le_refl _, litU w' [1, 1] #[.int .u64 1, .int .u64 1] rfl (by decide)⟩ ((Below.refl _ _).alloc (Nat.le_refl _) _))))
        | 49, _ =>
          obtain ⟨A, n, c, e0, hl, hc, hr⟩ := hn 48 (by decide)
          refine wpOp_step rfl (fun K2 hK2 => call_ 30 #[.bool true, .slice A n c] rfl rfl (by have he := enters_ Try.func30 (by kernel_rfl) rfl #[.bool true, .slice A n c] w'; unfold execOp; simp [resolve, Deferred.ofValue, invoke, Act.eval, he, e0]) ((ofl_c true A n c w').mono fun e w2 ho => ?_))
          obtain ⟨rfl, hb⟩ := ho
          exact ⟨_, rfl, hK2 _ _ (hK _ _ ⟨A, n, c, rfl, hl, hc, Kd.C_below hr hb.out⟩ hb.out)⟩
        | 50, _ => exact wpOp_step rfl (fun K2 hK2 => value_ (v := .slice (some ⟨w'.heap.size, 0, none⟩) 1 1) rfl rfl (by go_simp) (hK2 _ _ (hK _ _ ⟨_, _, _, rfl, rfl, Nat.le_refl _, litU w' [2] #[.int .u64 2] rfl (by decide)⟩ ((Below.refl _ _).alloc (Nat.le_refl _) _))))
        | 51, _ =>
          obtain ⟨A, n, c, e0, hl, hc, hr⟩ := hn 50 (by decide)
          refine wpOp_step rfl (fun K2 hK2 => call_ 30 #[.bool true, .slice A n c] rfl rfl (by have he := enters_ Try.func30 (by kernel_rfl) rfl #[.bool true, .slice A n c] w'; unfold execOp; simp [resolve, Deferred.ofValue, invoke, Act.eval, he, e0]) ((ofl_c true A n c w').mono fun e w2 ho => ?_))
          obtain ⟨rfl, hb⟩ := ho
          exact ⟨_, rfl, hK2 _ _ (hK _ _ ⟨A, n, c, rfl, hl, hc, Kd.C_below hr hb.out⟩ hb.out)⟩
        | 52, _ =>
          obtain ⟨A, n, c, ex, hx⟩ : Kn.ok (.I true [1, 1]) w' (f 49) := hn 49 (by decide)
          obtain ⟨B, o, d, ey, hy⟩ : Kn.ok (.I true [2]) w' (f 51) := hn 51 (by decide)
          exact wpOp_step rfl (fun K2 hK2 => value_ (v := .agg #[.bool true, .slice A n c, .int .i64 (-64), .bool true, .slice B o d, .int .i64 0]) rfl rfl (by unfold execOp; simp [Act.eval, ex, ey, go_sem]) (hK2 _ _ (hK _ _ ⟨true, [1, 1], -64, true, [2], 0, A, n, c, B, o, d, rfl, hx, hy, ⟨s12, (by decide), (by decide), (by decide), (by decide), (by decide)⟩⟩ (Below.refl _ _))))
        | 53, _ =>
          have hv := hJ.2.1
          exact wpOp_step rfl (fun K2 hK2 => value_ (v := .agg #[.bool false, .slice A2 bg.length c2]) rfl rfl (by obtain ⟨c0, c1, cl⟩ := hv.cells; go_simp) (hK2 _ _ (hK _ _ ⟨_, _, _, rfl, rfl, hv.cap, hv.all⟩ (Below.refl _ _))))
        | 54, _ => exact wpOp_step rfl (fun K2 hK2 => value_ (v := .agg #[.bool false, .slice none 0 0]) rfl rfl (by go_simp) (hK2 _ _ (hK _ _ ⟨_, _, _, rfl, rfl, Nat.le_refl _, emptyU _ _⟩ (Below.refl _ _))))
        | 55, _ =>
          obtain ⟨A, n, c, ex, hx⟩ : Kn.ok (.I false bg) w' (f 53) := hn 53 (by decide)
          obtain ⟨B, o, d, ey, hy⟩ : Kn.ok (.I false []) w' (f 54) := hn 54 (by decide)
          exact wpOp_step rfl (fun K2 hK2 => value_ (v := .agg #[.bool false, .slice A n c, .int .i64 (1), .bool false, .slice B o d, .int .i64 3]) rfl rfl (by unfold execOp; simp [Act.eval, ex, ey, go_sem]) (hK2 _ _ (hK _ _ ⟨false, bg, 1, false, [], 3, A, n, c, B, o, d, rfl, hx, hy, ⟨HS13.out, HBO.out, HBL.out, (by decide), (by decide), (by decide)⟩⟩ (Below.refl _ _))))
        | 56, _ => exact wpOp_step rfl (fun K2 hK2 => value_ (v := .slice (some ⟨w'.heap.size, 0, none⟩) 2 2) rfl rfl (by go_simp) (hK2 _ _ (hK _ _ ⟨_, _, _, rfl, rfl, Nat.le_refl _, litU w' [1, 0] #[.int .u64 1, .int .u64 0] rfl (by decide)⟩ ((Below.refl _ _).alloc (Nat.le_refl _) _))))
        | 57, _ =>
          obtain ⟨A, n, c, e0, hl, hc, hr⟩ := hn 56 (by decide)
          refine wpOp_step rfl (fun K2 hK2 => call_ 30 #[.bool false, .slice A n c] rfl rfl (by have he := enters_ Try.func30 (by kernel_rfl) rfl #[.bool false, .slice A n c] w'; unfold execOp; simp [resolve, Deferred.ofValue, invoke, Act.eval, he, e0]) ((ofl_c false A n c w').mono fun e w2 ho => ?_))
          obtain ⟨rfl, hb⟩ := ho
          exact ⟨_, rfl, hK2 _ _ (hK _ _ ⟨A, n, c, rfl, hl, hc, Kd.C_below hr hb.out⟩ hb.out)⟩
        | 58, _ => exact wpOp_step rfl (fun K2 hK2 => value_ (v := .agg #[.bool false, .slice none 0 0]) rfl rfl (by go_simp) (hK2 _ _ (hK _ _ ⟨_, _, _, rfl, rfl, Nat.le_refl _, emptyU _ _⟩ (Below.refl _ _))))
        | 59, _ =>
          obtain ⟨A, n, c, ex, hx⟩ : Kn.ok (.I false [1, 0]) w' (f 57) := hn 57 (by decide)
          obtain ⟨B, o, d, ey, hy⟩ : Kn.ok (.I false []) w' (f 58) := hn 58 (by decide)
          exact wpOp_step rfl (fun K2 hK2 => value_ (v := .agg #[.bool false, .slice A n c, .int .i64 (1), .bool false, .slice B o d, .int .i64 2]) rfl rfl (by unfold execOp; simp [Act.eval, ex, ey, go_sem]) (hK2 _ _ (hK _ _ ⟨false, [1, 0], 1, false, [], 2, A, n, c, B, o, d, rfl, hx, hy, ⟨s14, (by decide), (by decide), (by decide), (by decide), (by decide)⟩⟩ (Below.refl _ _))))
        | 60, _ =>
          obtain ⟨s0, l0, b0, t0, m0, e0, A0, n0, c0, B0, o0, d0, q0, ⟨hl0, hc0, hr0⟩, ⟨gl0, gc0, gr0⟩, h0⟩ : Kn.ok .T w' (f 4) := hn 4 (by decide)
          obtain ⟨s1, l1, b1, t1, m1, e1, A1, n1, c1, B1, o1, d1, q1, ⟨hl1, hc1, hr1⟩, ⟨gl1, gc1, gr1⟩, h1⟩ : Kn.ok .T w' (f 9) := hn 9 (by decide)
          obtain ⟨s2, l2, b2, t2, m2, e2, A2, n2, c2, B2, o2, d2, q2, ⟨hl2, hc2, hr2⟩, ⟨gl2, gc2, gr2⟩, h2⟩ : Kn.ok .T w' (f 14) := hn 14 (by decide)
          obtain ⟨s3, l3, b3, t3, m3, e3, A3, n3, c3, B3, o3, d3, q3, ⟨hl3, hc3, hr3⟩, ⟨gl3, gc3, gr3⟩, h3⟩ : Kn.ok .T w' (f 18) := hn 18 (by decide)
          obtain ⟨s4, l4, b4, t4, m4, e4, A4, n4, c4, B4, o4, d4, q4, ⟨hl4, hc4, hr4⟩, ⟨gl4, gc4, gr4⟩, h4⟩ : Kn.ok .T w' (f 21) := hn 21 (by decide)
          obtain ⟨s5, l5, b5, t5, m5, e5, A5, n5, c5, B5, o5, d5, q5, ⟨hl5, hc5, hr5⟩, ⟨gl5, gc5, gr5⟩, h5⟩ : Kn.ok .T w' (f 24) := hn 24 (by decide)
          obtain ⟨s6, l6, b6, t6, m6, e6, A6, n6, c6, B6, o6, d6, q6, ⟨hl6, hc6, hr6⟩, ⟨gl6, gc6, gr6⟩, h6⟩ : Kn.ok .T w' (f 27) := hn 27 (by decide)
          obtain ⟨s7, l7, b7, t7, m7, e7, A7, n7, c7, B7, o7, d7, q7, ⟨hl7, hc7, hr7⟩, ⟨gl7, gc7, gr7⟩, h7⟩ : Kn.ok .T w' (f 32) := hn 32 (by decide)
          obtain ⟨s8, l8, b8, t8, m8, e8, A8, n8, c8, B8, o8, d8, q8, ⟨hl8, hc8, hr8⟩, ⟨gl8, gc8, gr8⟩, h8⟩ : Kn.ok .T w' (f 37) := hn 37 (by decide)
          obtain ⟨s9, l9, b9, t9, m9, e9, A9, n9, c9, B9, o9, d9, q9, ⟨hl9, hc9, hr9⟩, ⟨gl9, gc9, gr9⟩, h9⟩ : Kn.ok .T w' (f 42) := hn 42 (by decide)
          obtain ⟨s10, l10, b10, t10, m10, e10, A10, n10, c10, B10, o10, d10, q10, ⟨hl10, hc10, hr10⟩, ⟨gl10, gc10, gr10⟩, h10⟩ : Kn.ok .T w' (f 47) := hn 47 (by decide)
          obtain ⟨s11, l11, b11, t11, m11, e11, A11, n11, c11, B11, o11, d11, q11, ⟨hl11, hc11, hr11⟩, ⟨gl11, gc11, gr11⟩, h11⟩ : Kn.ok .T w' (f 52) := hn 52 (by decide)
          obtain ⟨s12, l12, b12, t12, m12, e12, A12, n12, c12, B12, o12, d12, q12, ⟨hl12, hc12, hr12⟩, ⟨gl12, gc12, gr12⟩, h12⟩ : Kn.ok .T w' (f 55) := hn 55 (by decide)
          obtain ⟨s13, l13, b13, t13, m13, e13, A13, n13, c13, B13, o13, d13, q13, ⟨hl13, hc13, hr13⟩, ⟨gl13, gc13, gr13⟩, h13⟩ : Kn.ok .T w' (f 59) := hn 59 (by decide)
          have hb := (Below.refl w'.heap.size w').alloc (Nat.le_refl _) (.cells #[.bool s0, .slice A0 n0 c0, .int .i64 b0, .bool t0, .slice B0 o0 d0, .int .i64 e0, .bool s1, .slice A1 n1 c1, .int .i64 b1, .bool t1, .slice B1 o1 d1, .int .i64 e1, .bool s2, .slice A2 n2 c2, .int .i64 b2, .bool t2, .slice B2 o2 d2, .int .i64 e2, .bool s3, .slice A3 n3 c3, .int .i64 b3, .bool t3, .slice B3 o3 d3, .int .i64 e3, .bool s4, .slice A4 n4 c4, .int .i64 b4, .bool t4, .slice B4 o4 d4, .int .i64 e4, .bool s5, .slice A5 n5 c5, .int .i64 b5, .bool t5, .slice B5 o5 d5, .int .i64 e5, .bool s6, .slice A6 n6 c6, .int .i64 b6, .bool t6, .slice B6 o6 d6, .int .i64 e6, .bool s7, .slice A7 n7 c7, .int .i64 b7, .bool t7, .slice B7 o7 d7, .int .i64 e7, .bool s8, .slice A8 n8 c8, .int .i64 b8, .bool t8, .slice B8 o8 d8, .int .i64 e8, .bool s9, .slice A9 n9 c9, .int .i64 b9, .bool t9, .slice B9 o9 d9, .int .i64 e9, .bool s10, .slice A10 n10 c10, .int .i64 b10, .bool t10, .slice B10 o10 d10, .int .i64 e10, .bool s11, .slice A11 n11 c11, .int .i64 b11, .bool t11, .slice B11 o11 d11, .int .i64 e11, .bool s12, .slice A12 n12 c12, .int .i64 b12, .bool t12, .slice B12 o12 d12, .int .i64 e12, .bool s13, .slice A13 n13 c13, .int .i64 b13, .bool t13, .slice B13 o13 d13, .int .i64 e13] 54)
          have hkk := heap_alloc_new w' (.cells #[.bool s0, .slice A0 n0 c0, .int .i64 b0, .bool t0, .slice B0 o0 d0, .int .i64 e0, .bool s1, .slice A1 n1 c1, .int .i64 b1, .bool t1, .slice B1 o1 d1, .int .i64 e1, .bool s2, .slice A2 n2 c2, .int .i64 b2, .bool t2, .slice B2 o2 d2, .int .i64 e2, .bool s3, .slice A3 n3 c3, .int .i64 b3, .bool t3, .slice B3 o3 d3, .int .i64 e3, .bool s4, .slice A4 n4 c4, .int .i64 b4, .bool t4, .slice B4 o4 d4, .int .i64 e4, .bool s5, .slice A5 n5 c5, .int .i64 b5, .bool t5, .slice B5 o5 d5, .int .i64 e5, .bool s6, .slice A6 n6 c6, .int .i64 b6, .bool t6, .slice B6 o6 d6, .int .i64 e6, .bool s7, .slice A7 n7 c7, .int .i64 b7, .bool t7, .slice B7 o7 d7, .int .i64 e7, .bool s8, .slice A8 n8 c8, .int .i64 b8, .bool t8, .slice B8 o8 d8, .int .i64 e8, .bool s9, .slice A9 n9 c9, .int .i64 b9, .bool t9, .slice B9 o9 d9, .int .i64 e9, .bool s10, .slice A10 n10 c10, .int .i64 b10, .bool t10, .slice B10 o10 d10, .int .i64 e10, .bool s11, .slice A11 n11 c11, .int .i64 b11, .bool t11, .slice B11 o11 d11, .int .i64 e11, .bool s12, .slice A12 n12 c12, .int .i64 b12, .bool t12, .slice B12 o12 d12, .int .i64 e12, .bool s13, .slice A13 n13 c13, .int .i64 b13, .bool t13, .slice B13 o13 d13, .int .i64 e13] 54)
          exact wpOp_step rfl (fun K2 hK2 => value_ (v := .slice (some ⟨w'.heap.size, 0, none⟩) 14 14) rfl rfl (by unfold execOp; simp [Act.eval, go_sem, q0, q1, q2, q3, q4, q5, q6, q7, q8, q9, q10, q11, q12, q13]) (hK2 _ _ (hK _ _ ⟨w'.heap.size, rfl, fun j hj => by
            match j, hj with
            | 0, _ => exact ⟨s0, A0, n0, c0, b0, t0, B0, o0, d0, e0, l0, m0, ⟨cell_of hkk rfl, cell_of hkk rfl, cell_of hkk rfl, cell_of hkk rfl, cell_of hkk rfl, cell_of hkk rfl⟩, ⟨hl0, hc0, Kd.C_below hr0 hb⟩, ⟨gl0, gc0, Kd.C_below gr0 hb⟩, h0⟩
            | 1, _ => exact ⟨s1, A1, n1, c1, b1, t1, B1, o1, d1, e1, l1, m1, ⟨cell_of hkk rfl, cell_of hkk rfl, cell_of hkk rfl, cell_of hkk rfl, cell_of hkk rfl, cell_of hkk rfl⟩, ⟨hl1, hc1, Kd.C_below hr1 hb⟩, ⟨gl1, gc1, Kd.C_below gr1 hb⟩, h1⟩
            | 2, _ => exact ⟨s2, A2, n2, c2, b2, t2, B2, o2, d2, e2, l2, m2, ⟨cell_of hkk rfl, cell_of hkk rfl, cell_of hkk rfl, cell_of hkk rfl, cell_of hkk rfl, cell_of hkk rfl⟩, ⟨hl2, hc2, Kd.C_below hr2 hb⟩, ⟨gl2, gc2, Kd.C_below gr2 hb⟩, h2⟩
            | 3, _ => exact ⟨s3, A3, n3, c3, b3, t3, B3, o3, d3, e3, l3, m3, ⟨cell_of hkk rfl, cell_of hkk rfl, cell_of hkk rfl, cell_of hkk rfl, cell_of hkk rfl, cell_of hkk rfl⟩, ⟨hl3, hc3, Kd.C_below hr3 hb⟩, ⟨gl3, gc3, Kd.C_below gr3 hb⟩, h3⟩
            | 4, _ => exact ⟨s4, A4, n4, c4, b4, t4, B4, o4, d4, e4, l4, m4, ⟨cell_of hkk rfl, cell_of hkk rfl, cell_of hkk rfl, cell_of hkk rfl, cell_of hkk rfl, cell_of hkk rfl⟩, ⟨hl4, hc4, Kd.C_below hr4 hb⟩, ⟨gl4, gc4, Kd.C_below gr4 hb⟩, h4⟩
            | 5, _ => exact ⟨s5, A5, n5, c5, b5, t5, B5, o5, d5, e5, l5, m5, ⟨cell_of hkk rfl, cell_of hkk rfl, cell_of hkk rfl, cell_of hkk rfl, cell_of hkk rfl, cell_of hkk rfl⟩, ⟨hl5, hc5, Kd.C_below hr5 hb⟩, ⟨gl5, gc5, Kd.C_below gr5 hb⟩, h5⟩
            | 6, _ => exact ⟨s6, A6, n6, c6, b6, t6, B6, o6, d6, e6, l6, m6, ⟨cell_of hkk rfl, cell_of hkk rfl, cell_of hkk rfl, cell_of hkk rfl, cell_of hkk rfl, cell_of hkk rfl⟩, ⟨hl6, hc6, Kd.C_below hr6 hb⟩, ⟨gl6, gc6, Kd.C_below gr6 hb⟩, h6⟩
            | 7, _ => exact ⟨s7, A7, n7, c7, b7, t7, B7, o7, d7, e7, l7, m7, ⟨cell_of hkk rfl, cell_of hkk rfl, cell_of hkk rfl, cell_of hkk rfl, cell_of hkk rfl, cell_of hkk rfl⟩, ⟨hl7, hc7, Kd.C_below hr7 hb⟩, ⟨gl7, gc7, Kd.C_below gr7 hb⟩, h7⟩
            | 8, _ => exact ⟨s8, A8, n8, c8, b8, t8, B8, o8, d8, e8, l8, m8, ⟨cell_of hkk rfl, cell_of hkk rfl, cell_of hkk rfl, cell_of hkk rfl, cell_of hkk rfl, cell_of hkk rfl⟩, ⟨hl8, hc8, Kd.C_below hr8 hb⟩, ⟨gl8, gc8, Kd.C_below gr8 hb⟩, h8⟩
            | 9, _ => exact ⟨s9, A9, n9, c9, b9, t9, B9, o9, d9, e9, l9, m9, ⟨cell_of hkk rfl, cell_of hkk rfl, cell_of hkk rfl, cell_of hkk rfl, cell_of hkk rfl, cell_of hkk rfl⟩, ⟨hl9, hc9, Kd.C_below hr9 hb⟩, ⟨gl9, gc9, Kd.C_below gr9 hb⟩, h9⟩
            | 10, _ => exact ⟨s10, A10, n10, c10, b10, t10, B10, o10, d10, e10, l10, m10, ⟨cell_of hkk rfl, cell_of hkk rfl, cell_of hkk rfl, cell_of hkk rfl, cell_of hkk rfl, cell_of hkk rfl⟩, ⟨hl10, hc10, Kd.C_below hr10 hb⟩, ⟨gl10, gc10, Kd.C_below gr10 hb⟩, h10⟩
            | 11, _ => exact ⟨s11, A11, n11, c11, b11, t11, B11, o11, d11, e11, l11, m11, ⟨cell_of hkk rfl, cell_of hkk rfl, cell_of hkk rfl, cell_of hkk rfl, cell_of hkk rfl, cell_of hkk rfl⟩, ⟨hl11, hc11, Kd.C_below hr11 hb⟩, ⟨gl11, gc11, Kd.C_below gr11 hb⟩, h11⟩
            | 12, _ => exact ⟨s12, A12, n12, c12, b12, t12, B12, o12, d12, e12, l12, m12, ⟨cell_of hkk rfl, cell_of hkk rfl, cell_of hkk rfl, cell_of hkk rfl, cell_of hkk rfl, cell_of hkk rfl⟩, ⟨hl12, hc12, Kd.C_below hr12 hb⟩, ⟨gl12, gc12, Kd.C_below gr12 hb⟩, h12⟩
            | 13, _ => exact ⟨s13, A13, n13, c13, b13, t13, B13, o13, d13, e13, l13, m13, ⟨cell_of hkk rfl, cell_of hkk rfl, cell_of hkk rfl, cell_of hkk rfl, cell_of hkk rfl, cell_of hkk rfl⟩, ⟨hl13, hc13, Kd.C_below hr13 hb⟩, ⟨gl13, gc13, Kd.C_below gr13 hb⟩, h13⟩
            | j + 14, h => exact absurd h (by omega)⟩ hb)))
        | 61, _ =>
          obtain ⟨g, e, hg⟩ : Kn.ok .G w' (f 60) := hn 60 (by decide)
          exact wpOp_step rfl (fun K2 hK2 => value_ (v := .int .i64 14) rfl rfl (by unfold execOp; simp [Act.eval, e, go_sem]) (hK2 _ _ (hK _ _ rfl (Below.refl _ _))))
        | 62, _ => exact wpOp_step rfl (fun K2 hK2 => value_ (v := .int .i64 0) rfl rfl (by go_simp) (hK2 _ _ (hK _ _ rfl (Below.refl _ _))))
        | n + 63, h => exact absurd h (by omega)
      case fin =>
        intro f w' hJ hn
        obtain ⟨g, e0, hg⟩ : Kn.ok .G w' (f 60) := hn 60 (by decide)
        have e1 : f 61 = .int .i64 14 := hn 61 (by decide)
        have e2 : f 62 = .int .i64 0 := hn 62 (by decide)
        have hb := hJ.2.2
        clear hn
        go_wp2_with fail
        go_meet
        exact ⟨g, by first | rfl | exact e0, by first | rfl | exact e1, by first | rfl | exact e2, ⟨hg⟩, ⟨hb⟩⟩
    case rest =>
      obtain ⟨g, rfl, rfl, rfl, HEL, bc⟩ := hcut
      rename World => wy
      replace V1 := Aside0.mk (V1.out.below bc.out)
      replace V2 := Aside0.mk (V2.out.below bc.out)
      replace HB := Aside0.mk (below_then HB.out HB.out.size bc.out)
      clear bc
      go_wp2
      go_loopw [189] (fun v189 wr => ∃ j : Nat, v189 = .int .i64 j ∧ j ≤ 14 ∧ Aside0 (Below wy.heap.size wy wr)) (fun v189 _ => 14 - (intOf v189).toNat)
      case atStart => exact ⟨0, rfl, by decide, ⟨Below.refl _ _⟩⟩
      case round =>
        obtain ⟨j, rfl, hj, HBR⟩ := hrel
        by_cases hlt : j < 14
        · obtain ⟨s, A, _, c, b, t, B, _, d, er, l, m, ⟨h0, h1, h2, h3, h4, h5⟩, ⟨rfl, a1, a2⟩, ⟨rfl, q1, q2⟩, hs⟩ := (HEL.out j hlt).below HBR.out
          have hj1 : (j : Int) < 14 := by omega
          have HA2 := Aside0.mk a2
          have HQ2 := Aside0.mk q2
          have HS := Aside0.mk hs
          clear a2 q2 hs
          go_wp2_with fail
          refine (shift_t s _ _ l b HS.out.b0 HS.out.b1 t m er HS.out.r a1 HS.out.ok HS.out.ln _ (Kd.C_alloc HA2.out _)).mono ?_
          rintro e w1_ ⟨Ay, cy, rfl, Ry, bq⟩
          have hblk : w1_.heap[wr.heap.size]? = some (.cells #[.bool s, .slice A l.length c, .int .i64 b, .bool t, .slice B m.length d, .int .i64 er] 54 (0, 0)) := (bq.out.block wr.heap.size (by simp)).trans (heap_alloc_new wr _)
          have k3 : w1_.cell? ⟨wr.heap.size, 3, none⟩ = some (.bool t) := cell_of hblk rfl
          have k4 : w1_.cell? ⟨wr.heap.size, 4, none⟩ = some (.slice B m.length d) := cell_of hblk rfl
          have k5 : w1_.cell? ⟨wr.heap.size, 5, none⟩ = some (.int .i64 er) := cell_of hblk rfl
          have kl : wr.heap.size < w1_.heap.size := (Array.getElem?_eq_some_iff.1 hblk).1
          have HB1 : Aside0 (Below wy.heap.size wy w1_) := ⟨below_then (HBR.out.alloc HBR.out.size _) (HBR.out.alloc HBR.out.size _).size bq.out⟩
          have HQ3 := Aside0.mk (Kd.C_below (Kd.C_alloc HQ2.out _) bq.out)
          clear hblk h0 h1 h2 h3 h4 h5 HA2 HQ2 bq
          go_wp2_with fail
          refine (isT t _ _ _ _ m er HS.out.mn Ry.out.1 q1 _ (Kd.C_alloc Ry.out.2 _) (Kd.C_alloc HQ3.out _)).mono ?_
          rintro e w2_ ⟨rfl, bq⟩
          have HB2 : Aside0 (Below wy.heap.size wy w2_) := ⟨below_then (HB1.out.alloc HB1.out.size _) (HB1.out.alloc HB1.out.size _).size bq.out⟩
          clear k3 k4 k5 kl
          go_wp2
          go_roundw
          case rel => exact ⟨j + 1, by go_num, by omega, HB2⟩
          case measure => simp [intOf]; omega
        · obtain rfl : j = 14 := by omega
          clear hlt hj HEL
          replace V1 := Aside0.mk (V1.out.below HBR.out)
          replace V2 := Aside0.mk (V2.out.below HBR.out)
          replace HB := Aside0.mk (below_then HB.out HB.out.size HBR.out)
          clear HBR
          obtain ⟨x0V1, x1V1, xlV1⟩ := V1.out.cells
          go_wp2_with fail
          refine (shift_t false _ _ [1] 262143 (by decide) (by decide) false p2 0 HPS.out (by decide) (by decide) (by decide) _ V1.out.all).mono ?_
          rintro e y1 ⟨B1, d1, rfl, Q1, b1⟩
          clear x0V1 x1V1 xlV1
          replace V1 := Aside0.mk (V1.out.below b1.out)
          replace V2 := Aside0.mk (V2.out.below b1.out)
          replace HB := Aside0.mk (below_then HB.out HB.out.size b1.out)
          clear b1
          have V19 := Aside0.mk (NV.new (g := y1.heap.size) false p2.length d1 rfl (Nat.le_refl _) Q1.out.1 Q1.out.2)
          obtain ⟨x0V19, x1V19, xlV19⟩ := V19.out.cells
          clear Q1
          go_wp2_with fail
          refine (bits_t false _ _ p2 262144 0 HPB.out V19.out.cap HPO.out HPL.out _ V19.out.all).mono ?_
          rintro e y2 ⟨rfl, b2⟩
          clear x0V19 x1V19 xlV19
          clear V19
          replace V1 := Aside0.mk ((V1.out.alloc _).below b2.out)
          replace V2 := Aside0.mk ((V2.out.alloc _).below b2.out)
          replace HB := Aside0.mk (below_then (HB.out.alloc HB.out.size _) (HB.out.alloc HB.out.size _).size b2.out)
          clear b2
          go_wp2_with fail
          refine (ofLit true [8] (by first | rfl | simp) rfl rfl (by decide)).mono ?_
          rintro e y3 ⟨L3, rfl, Q3, b3⟩
          replace V1 := Aside0.mk (V1.out.below b3.out)
          replace V2 := Aside0.mk (V2.out.below b3.out)
          replace HB := Aside0.mk (below_then HB.out HB.out.size b3.out)
          clear b3
          go_wp2_with fail
          refine (bits_t true _ _ [8] 4 0 eight (by decide) (by decide) (by decide) _ Q3.out).mono ?_
          rintro e y4 ⟨rfl, b4⟩
          clear Q3
          replace V1 := Aside0.mk (V1.out.below b4.out)
          replace V2 := Aside0.mk (V2.out.below b4.out)
          replace HB := Aside0.mk (below_then HB.out HB.out.size b4.out)
          clear b4
          obtain ⟨x0V1, x1V1, xlV1⟩ := V1.out.cells
          go_upto_region 20 with fail
          go_region_held3 (fun w' => w'.cell? ⟨w2.heap.size, 0, none⟩ = some (.bool false) ∧ w'.cell? ⟨w2.heap.size, 1, none⟩ = some (.slice LR1 1 1)) (go_keep) (first | (go_at_call 30; ((first | refine (ofLitD false [1, 0] (by first | rfl | simp) rfl rfl (by decide)).mono ?_ | refine (ofLit false [1, 0] (by first | rfl | simp) rfl rfl (by decide)).mono ?_); rintro e y5 ⟨L5, rfl, Q5, b5⟩; (first | have V1a := Aside0.mk (V1.out.below b5.out) | have V1a := Aside0.mk (V1.out.drew.below b5.out)); obtain ⟨x0a, x1a, xla⟩ := V1a.out.cells)) | (go_at_call 11; go_must (refine (cmp_t false false _ _ _ _ [1] [1, 0] 0 2 Lb.c10 (by decide) (by decide) (by decide) (by decide) (by decide) (by decide) _ V1a.out.all Q5.out).mono ?_); go_must (rintro e y6 ⟨rfl, b6⟩); go_must (have V1b := Aside0.mk (V1a.out.below b6.out)); go_must (obtain ⟨x0b, x1b, xlb⟩ := V1b.out.cells)))
          replace HB := Aside0.mk (below_then HB.out HB.out.size b5.out)
          replace HB := Aside0.mk (below_then HB.out HB.out.size b6.out)
          clear b5 b6 V1a V1b x0a x1a xla x0b x1b xlb Q5 V1 V2 x0V1 x1V1 xlV1
          go_upto_region 21 with fail
          go_wp2_with fail
          refine (neg_t true none 0 [] false [] 2 Lb.n0 (Nat.le_refl _) (by decide) (by decide) _ (emptyU _ _)).mono ?_
          rintro e y7 ⟨A7, c7, rfl, R7, b7⟩
          replace HB := Aside0.mk (below_then HB.out HB.out.size b7.out)
          clear b7 R7
          have hmk : ∀ w' : World, (Instr.makeSlice 22 (.int .i64 4097) (.int .i64 4097)).run Try.prog w' = .ok (.slice (some ⟨w'.heap.size, 0, none⟩) N N) (w'.alloc (.cells (madeCells #[.int .u64 0] N) 50)) := fun w' => by
            have := run_make_row' (P := Try.prog) 22 50 (.int .u64 0) 8 hus infoU rfl .i64 .i64 N (by have := HN.out; omega) (by have := HN.out; omega) w'
            rwa [show ((N : Nat) : Int) = 4097 by have := HN.out; omega] at this
          go_wp2_with fail
          refine (right_zeros N HN.out (by first | rfl | simp)).mono ?_
          rintro e y8 ⟨rfl, b8⟩
          clear hmk
          go_wp2_with fail
          refine (awake_c _).mono ?_
          rintro e y9 ⟨rfl, b9⟩
          go_wp2_with fail
          go_ret
          have HB2 := HB.out.alloc HB.out.size (.cells #[.bool false, .slice A7 0 c7] 24)
          exact ⟨rfl, below_then HB2 HB2.size (b8.out.trans (b9.mono b8.out.size))⟩
end Go.Proofs.Ytlcjnahfahobjaa.Lb
