/- store: what is known while certificates are read; plain laws of it. | store: Read's closure. | store: face over Read's closure. | store: Read. | store: what is given to the print. -/
import Derived.Test.YtoheamfnddfgkaaStX1
import Derived.Test.YtoheamfnddfgkaaPBx0
namespace Go.Proofs.Ytoheamfnddfgkaa.St
open Go.RowKit Go.Proofs.YtoheamfnddfgkaaW.PrintWords Go.Proofs.YtoheamfnddfgkaaW.PrintLast Go.Proofs.YtoheamfnddfgkaaW.PrintMore
set_option linter.unusedVariables false
set_option linter.unusedSimpArgs false

theorem infoC : (Try.prog.info? 61).map (fun i => (i.zero, i.size, i.bytes)) = some (some (.agg #[(.bool false), (.slice none 0 0), (.bool false), (.slice none 0 0), (.slice none 0 0), (.slice none 0 0)]), 6, 112) := by kernel_rfl
def toS (c : CertT) : PB.S61 := ⟨⟨c.1.1, c.1.2⟩, ⟨c.2.1.1, c.2.1.2⟩, c.2.2.1, c.2.2.2⟩
theorem pairs_len : ∀ (m : Nat) (b : List Int) {r : List Int × List Int} {k : Nat}, pairsS m b = .ok (r, k) → k ≤ b.length
 | 0, b, r, k, h => by
  simp [pairsS] at h
  omega
 | m + 1, b, r, k, h => by
  unfold pairsS at h
  cases h1 : groupsS 2147483647 b with
  | none => simp [h1] at h
  | some p =>
   obtain ⟨f, k1⟩ := p
   cases h2 : groupsS 2147483647 (b.drop k1) with
   | none => simp [h1, h2] at h
   | some p =>
    obtain ⟨q, k2⟩ := p
    cases h3 : pairsS m (b.drop (k1 + k2)) with
    | error e => simp [h1, h2, h3] at h
    | ok p =>
     obtain ⟨⟨fs, ps⟩, k3⟩ := p
     simp [h1, h2, h3] at h
     have l1 := (gr_len h1).2.1
     have l2 := (gr_len h2).2.1
     have l3 := pairs_len m _ h3
     rw [List.length_drop] at l2 l3
     omega
theorem cert_len {b : List Int} {c : CertT} {k : Nat} (h : certS b = .ok (c, k)) : k ≤ b.length := by
 unfold certS at h
 cases h1 : numS b with
 | none => simp [h1] at h
 | some p =>
  obtain ⟨n, k1⟩ := p
  cases h2 : numS (b.drop k1) with
  | none => simp [h1, h2] at h
  | some p =>
   obtain ⟨n2, k2⟩ := p
   cases h3 : groupsS 64 (b.drop (k1 + k2)) with
   | none => simp [h1, h2, h3] at h
   | some p =>
    obtain ⟨q, k3⟩ := p
    cases h4 : pairsS q.toNat (b.drop (k1 + k2 + k3)) with
    | error e => simp [h1, h2, h3, h4] at h
    | ok p =>
     obtain ⟨⟨fs, ps⟩, k4⟩ := p
     simp [h1, h2, h3, h4] at h
     have l1 := (numS_len h1).2
     have l2 := (numS_len h2).2
     have l3 := (gr_len h3).2.1
     have l4 := pairs_len _ _ h4
     rw [List.length_drop] at l2 l3 l4
     omega
def addC (d : Nat) (xs : List CertT) : Except Nat (List CertT × Nat) → Except Nat (List CertT × Nat)
 | .error e => .error (d + e)
 | .ok (cs, k) => .ok (xs ++ cs, d + k)
theorem certs_start (r : Except Nat (List CertT × Nat)) : addC 0 [] r = r := by
 rcases r with e | ⟨cs, k⟩ <;> simp [addC]
theorem certs_zero (b : List Int) (d : Nat) (xs : List CertT) : addC d xs (certsS 0 b) = .ok (xs, d) := by simp [certsS, addC]
theorem certs_err {b : List Int} {e : Nat} (h : certS b = .error e) (m d : Nat) (xs : List CertT) : addC d xs (certsS (m + 1) b) = .error (d + e) := by simp [certsS, h, addC]
theorem certs_ok {b : List Int} {c : CertT} {k : Nat} (h : certS b = .ok (c, k)) (m d : Nat) (xs : List CertT) : addC d xs (certsS (m + 1) b) = addC (d + k) (xs ++ [c]) (certsS m (b.drop k)) := by
 simp only [certsS, h]
 rcases certsS m (b.drop k) with e | ⟨cs, k2⟩ <;> simp [addC] <;> omega
theorem read_e1 {b : List Int} (h : groupsS 64 b = none) : readS b = .error 0 := by simp [readS, h]
theorem read_e2 {b : List Int} {q : Int} {k e : Nat} (h : groupsS 64 b = some (q, k)) (h2 : certsS q.toNat (b.drop k) = .error e) : readS b = .error (k + e) := by simp [readS, h, h2]
theorem read_e3 {b : List Int} {q : Int} {k k2 : Nat} {cs : List CertT} (h : groupsS 64 b = some (q, k)) (h2 : certsS q.toNat (b.drop k) = .ok (cs, k2)) (h3 : k + k2 < b.length) : readS b = .error (k + k2) := by simp [readS, h, h2, h3]
theorem read_ok {b : List Int} {q : Int} {k k2 : Nat} {cs : List CertT} (h : groupsS 64 b = some (q, k)) (h2 : certsS q.toNat (b.drop k) = .ok (cs, k2)) (h3 : ¬ k + k2 < b.length) : readS b = .ok cs := by simp only [readS, h, h2]; rw [if_neg h3]
theorem keepRow2 {w W w1 : World} {g : Nat} {r row : Option Nat} (h : KeepBut w W g r) (hg : W.grownBy w1 row) (hr : ∀ k, row = some k → w.heap.size ≤ k) : KeepBut w w1 g r :=
 ⟨Nat.le_trans h.1 hg.size, fun i hi hgi hri => (hg.block i (Nat.lt_of_lt_of_le hi h.1) (fun e => by have := hr i e.symm; omega)).trans (h.2 i hi hgi hri)⟩
theorem RS.mk0 {w0 W : World} {g : Nat} {A : Option Addr} {c y : Nat} {b : List Int} (hC : u8.C w0 A b.length b) (hB : Below w0.heap.size w0 W) (hg : w0.heap.size ≤ g) (hb : W.heap[g]? = some (.cells #[.slice A b.length c, .int .i64 (y : Int)] 70 (0, 0))) : RS w0 g A c b y W :=
 ⟨hb, Kd.C_foot_came (Kd.heap_int _) hC hB hg, hB, hg⟩
/-- The blocks of a read: reader g, its pointer gr, the bytes' slice gs, the row's variable gl; all are elder than m. -/
structure RB (w0 : World) (g gr gs gl : Nat) (A : Option Addr) (b : List Int) (w : World) : Prop where
 hC : u8.C w0 A b.length b
 h0 : w0.heap.size ≤ g ∧ w0.heap.size ≤ gl ∧ w0.heap.size ≤ gr ∧ w0.heap.size ≤ gs
 h1 : g < w.heap.size ∧ gl < w.heap.size ∧ gr < w.heap.size ∧ gs < w.heap.size
 ne : gl ≠ g ∧ gr ≠ g ∧ gs ≠ g ∧ gr ≠ gl ∧ gs ≠ gl
structure RL (w0 w : World) (g gr gs gl : Nat) (A : Option Addr) (c : Nat) (b : List Int) (y : Nat) (u : Value) (xs : List CertT) (W : World) : Prop where
 rs : RS w0 g A c b y W
 br : W.heap[gr]? = some (.cells #[.pointer (some ⟨g, 0, none⟩)] 68 (0, 0))
 bs : W.heap[gs]? = some (.cells #[.slice A b.length c] 25 (0, 0))
 bl : W.heap[gl]? = some (.cells #[u] 35 (0, 0))
 sl : Kd.S PB.k61 61 W w0.heap.size (fun j => w.heap.size ≤ j) u (xs.map toS)
 kp : KeepBut w W g (some gl)
section
variable {w0 w W w7 w8 : World} {g gr gs gl : Nat} {A : Option Addr} {c : Nat} {b : List Int} {y y' : Nat} {u u' : Value} {xs xs' : List CertT}
theorem RL.drewN (h : RL w0 w g gr gs gl A c b y u xs W) (n : Nat) : RL w0 w g gr gs gl A c b y u xs (W.drewN n) :=
 ⟨h.rs.drewN n, h.br, h.bs, h.bl, Kd.S_drewN h.sl n, keep_drewN h.kp n⟩
theorem RL.call (hB : RB w0 g gr gs gl A b w) (h : RL w0 w g gr gs gl A c b y u xs W) (hk : KeepBut W w7 g none) (hr : RS w0 g A c b y' w7) : RL w0 w g gr gs gl A c b y' u xs w7 ∧ Kd.S PB.k61 61 w7 w0.heap.size (fun j => w.heap.size ≤ j ∧ j < W.heap.size) u (xs.map toS) := by
 obtain ⟨n1, n2, n3, n4, n5⟩ := hB.ne
 have i1 := hB.h1.1
 have hs : Kd.S PB.k61 61 w7 w0.heap.size (fun j => w.heap.size ≤ j ∧ j < W.heap.size) u (xs.map toS) := Kd.S_mono (Kd.S_keep (Kd.S_bound h.sl) hk (fun k hk => by have := hk.1; omega)) (fun k hk => ⟨hk.1, hk.2.2.1⟩)
 exact ⟨⟨hr, hk.blk h.br n2 (by simp), hk.blk h.bs n3 (by simp), hk.blk h.bl n1 (by simp), Kd.S_mono hs (fun k hk => hk.1), h.kp.trans (keepTo hk _) (.inl rfl)⟩, hs⟩
theorem RL.app (hB : RB w0 g gr gs gl A b w) (h : RL w0 w g gr gs gl A c b y u xs W) (hS : Kd.S PB.k61 61 w8 w0.heap.size (fun j => w.heap.size ≤ j) u' (xs'.map toS)) (hb : Below w0.heap.size w0 w8) (hg : W.grownBy w8 u.ownBlock) : RL w0 w g gr gs gl A c b y u' xs' (w8.setCell ⟨gl, 0, none⟩ u') := by
 obtain ⟨n1, n2, n3, n4, n5⟩ := hB.ne
 obtain ⟨i1, i2, i3, i4⟩ := hB.h1
 obtain ⟨j1, j2, j3, j4⟩ := hB.h0
 have hu : ∀ k, u.ownBlock = some k → w.heap.size ≤ k := by
  obtain ⟨f, hR⟩ := h.sl
  exact hR.1
 have hne : ∀ k, k < w.heap.size → some k ≠ u.ownBlock := fun k hk e => by have := hu k e.symm; omega
 have hB8 : Below w0.heap.size w0 (w8.setCell ⟨gl, 0, none⟩ u') := hb.setCell j2 _
 exact ⟨RS.mk0 hB.hC hB8 j1 (blk_far (blk_grown h.rs.blk hg (hne _ i1)) n1.symm _), blk_far (blk_grown h.br hg (hne _ i3)) n4 _, blk_far (blk_grown h.bs hg (hne _ i4)) n5 _, blk_put (blk_grown h.bl hg (hne _ i2)) 0 u' rfl, Kd.S_far hS (fun k hk => by show k ≠ gl; omega) _, keepSet (keepRow2 h.kp hg hu) _ _⟩
end
/-- A certificate's cells, as an element of a row. -/
theorem cert_mkM {w7 : World} {base : Nat} {v1 v2 u1 u2 : Value} {ct : CertT} {k1 k2 k3 k4 : Nat → Prop} (h1 : Kd.R (Kd.int .u64) 58 w7 base k1 v1 ct.1.2) (h2 : Kd.R (Kd.int .u64) 58 w7 base k2 v2 ct.2.1.2) (h3 : Kd.R i64 3 w7 base k3 u1 ct.2.2.1) (h4 : Kd.R i64 3 w7 base k4 u2 ct.2.2.2) :
  PB.k61.M w7 base (fun k => some k = v1.ownBlock ∨ some k = v2.ownBlock ∨ some k = u1.ownBlock ∨ some k = u2.ownBlock) (toS ct) [.bool ct.1.1, v1, .bool ct.2.1.1, v2, u1, u2] :=
 PB.k61_mkM _ _ _ (toS ct) (Kd.R_mono (Kd.R_tight rfl h1) (fun _ h => Or.inl h)) (Kd.R_mono (Kd.R_tight rfl h2) (fun _ h => Or.inr (Or.inl h))) (Kd.R_mono (Kd.R_tight rfl h3) (fun _ h => Or.inr (Or.inr (Or.inl h)))) (Kd.R_mono (Kd.R_tight rfl h4) (fun _ h => Or.inr (Or.inr (Or.inr h))))
end Go.Proofs.Ytoheamfnddfgkaa.St
namespace Go.Proofs.Ytoheamfnddfgkaa.St
open Go.RowKit Go.Proofs.YtoheamfnddfgkaaW.PrintWords Go.Proofs.YtoheamfnddfgkaaW.PrintLast Go.Proofs.YtoheamfnddfgkaaW.PrintMore
set_option linter.unusedVariables false
set_option linter.unusedSimpArgs false

/-- What comes of Read's closure. -/
def ReadsN (w0 : World) (g gl : Nat) (w : World) (r : Except Nat (List CertT)) (e : Ending) (w' : World) : Prop :=
 Aside0 (Below w0.heap.size w0 w') ∧ Aside0 (KeepBut w w' g (some gl)) ∧
 match r with
 | .ok l => e = .returned (.tuple #[]) ∧ ∃ v, Aside0 (Kd.S PB.k61 61 w' w0.heap.size (fun k => w.heap.size ≤ k) v (l.map toS)) ∧ Aside0 (w'.heap[gl]? = some (.cells #[v] 35 (0, 0)))
 | .error p => e = .panicked [{ v := .iface 79 (.int .i64 (p : Int)), recovered := false }]
theorem readsN_error {w0 w w' : World} {g gl p q : Nat} (hb : Below w0.heap.size w0 w') (hk : KeepBut w w' g (some gl)) (h : p = q) : ReadsN w0 g gl w (.error p) (.panicked [{ v := .iface 79 (.int .i64 (q : Int)), recovered := false }]) w' := by
 subst h
 exact ⟨⟨hb⟩, ⟨hk⟩, rfl⟩
set_option maxRecDepth 100000 in
set_option maxHeartbeats 4000000 in
theorem read1_c (w0 : World) (g gr gs gl : Nat) (A : Option Addr) (c : Nat) (b : List Int) (w : World) (hr : RL w0 w g gr gs gl A c b 0 (.slice none 0 0) [] w) (hB : RB w0 g gr gs gl A b w) (ho : okB b) (hn : b.length ≤ 4611686018427387904) (hc : b.length ≤ c) :
  Calls Try.prog 47 #[.pointer (some ⟨gr, 0, none⟩), .pointer (some ⟨gl, 0, none⟩), .pointer (some ⟨gs, 0, none⟩)] w (ReadsN w0 g gl w (readS b)) := by
 have hu := Try.underlying70
 have hu61 := Try.underlying61
 have HR := Aside0.mk hr
 have HBB := Aside0.mk hB
 have HO := Aside0.mk ho
 have cr0 := (blk_cell hr.br 0).trans rfl
 clear hr hB ho
 obtain ⟨Z, hZ⟩ : ∃ Z, readS b = Z := ⟨_, rfl⟩
 have HZ := Aside0.mk hZ
 rw [hZ]
 clear hZ
 go_enter Try.func47, Try.ntmps47
 go_wp2_with fail
 refine (groups_c w0 g A c b 0 w 64 HR.out.rs (Nat.zero_le _) HO.out hn hc (by decide)).mono ?_
 intro e w2 h2
 rw [List.drop_zero] at h2
 cases hg : groupsS 64 b with
 | none =>
  rw [hg] at h2
  obtain ⟨rfl, ⟨yy, hyy⟩, hk⟩ := h2
  obtain rfl := HZ.out.symm.trans (read_e1 hg)
  exact ⟨rfl, ⟨hyy.hb⟩, ⟨keepTo hk.out _⟩, rfl⟩
 | some p =>
  obtain ⟨q, X0⟩ := p
  rw [hg] at h2
  obtain ⟨rfl, hr2, hk2⟩ := h2
  rw [Nat.zero_add] at hr2
  have HR2 := Aside0.mk (RL.call HBB.out HR.out hk2.out hr2.out).1
  clear hr2 hk2
  have hq := gr_val (l := b) (by decide) HO.out hg
  obtain ⟨Q, rfl⟩ : ∃ Q : Nat, q = (Q : Int) := ⟨q.toNat, by omega⟩
  have hQ : Q ≤ 64 := by omega
  have hX0 : X0 ≤ b.length := by have := (gr_len hg).2.1; omega
  have HZe : Aside0 (∀ e, certsS Q (b.drop X0) = .error e → Z = .error (X0 + e)) := ⟨fun e he => HZ.out.symm.trans (read_e2 hg (by simpa using he))⟩
  have HZl : Aside0 (∀ cs k2, certsS Q (b.drop X0) = .ok (cs, k2) → X0 + k2 < b.length → Z = .error (X0 + k2)) := ⟨fun cs k2 he hl => HZ.out.symm.trans (read_e3 hg (by simpa using he) hl)⟩
  have HZo : Aside0 (∀ cs k2, certsS Q (b.drop X0) = .ok (cs, k2) → ¬ X0 + k2 < b.length → Z = .ok cs) := ⟨fun cs k2 he hl => HZ.out.symm.trans (read_ok hg (by simpa using he) hl)⟩
  clear HZ hq hg cr0
  go_wp2_with fail
  go_loopw [5] (fun v5 wr => ∃ (i y d : Nat) (xs : List CertT) (u : Value), v5 = .int .i64 (i : Int) ∧ i ≤ Q ∧ Aside0 (y = X0 + d) ∧ y ≤ b.length ∧ Aside0 (xs.length = i) ∧ Aside0 (certsS Q (b.drop X0) = addC d xs (certsS (Q - i) (b.drop y))) ∧ Aside0 (RL w0 w g gr gs gl A c b y u xs wr)) (fun v5 _ => Q - (intOf v5).toNat)
  case atStart => exact ⟨0, X0, 0, [], .slice none 0 0, rfl, Nat.zero_le _, ⟨rfl⟩, hX0, ⟨rfl⟩, ⟨(certs_start _).symm⟩, HR2⟩
  case round =>
   clear HR2 HR
   obtain ⟨i, y, d, xs, u, rfl, hi, HY, hy, HXL, HPS, HRL⟩ := hrel
   obtain ⟨B1, d1, e1⟩ := Kd.S_slice HRL.out.sl
   obtain ⟨m1, hm1⟩ : ∃ t, (xs.map toS).length = t := ⟨_, rfl⟩
   rw [hm1] at e1
   clear hm1
   subst e1
   have cl0 := (blk_cell HRL.out.bl 0).trans rfl
   have cr0 := (blk_cell HRL.out.br 0).trans rfl
   by_cases hiq : i = Q
   ·subst hiq
    have hps := HPS.out
    rw [Nat.sub_self, certs_zero] at hps
    have cs0 := (blk_cell HRL.out.bs 0).trans rfl
    have cg1 := (blk_cell HRL.out.rs.blk 1).trans rfl
    by_cases hlt : y < b.length
    ·obtain rfl := HZl.out _ _ hps (by have := HY.out; omega)
     have hlt1 : decide ((y : Int) < (b.length : Int)) = true := decide_eq_true (by omega)
     have hpl : ((X0 + d : Nat) : Int) = (y : Int) := by have := HY.out; omega
     clear hps
     go_wp2
     go_quiet (fail)
     go_wp2
     exact ⟨rfl, readsN_error (pw_below_drewN HRL.out.rs.hb _) (keep_drewN HRL.out.kp _) (by have := HY.out; omega)⟩
    ·obtain rfl := HZo.out _ _ hps (by have := HY.out; omega)
     have hlt1 : decide ((y : Int) < (b.length : Int)) = false := decide_eq_false (by omega)
     clear hps
     go_wp2
     go_quiet (fail)
     go_wp2
     exact bodyPost_ret (results_none rfl _ _ _) rfl ⟨⟨pw_below_drewN HRL.out.rs.hb _⟩, ⟨keep_drewN HRL.out.kp _⟩, rfl, _, ⟨Kd.S_drewN HRL.out.sl _⟩, ⟨HRL.out.bl⟩⟩
   ·have g1 : i < Q := by omega
    obtain ⟨M, hM⟩ : ∃ M, Q - i = M + 1 := ⟨Q - i - 1, by omega⟩
    have HMM := Aside0.mk hM
    rw [hM] at HPS
    clear hM
    go_wp2_with fail
    refine start_ (n := 6) (S := fun w' => w'.cell? ⟨gl, 0, none⟩ = some (.slice B1 m1 d1) ∧ w'.cell? ⟨gr, 0, none⟩ = some (.pointer (some ⟨g, 0, none⟩))) (ds := [5]) #[false, false, false, false, false, false] (by kernel_rfl) rfl rfl ⟨cl0, cr0⟩ (fun hHeld => ?_)
    have HD := Aside0.mk (show RL w0 w g gr gs gl A c b y (.slice B1 m1 d1) xs wr.drew from HRL.out.drewN 1)
    clear HRL cl0 cr0
    generalize wr.drew = WD at HD hHeld ⊢
    refine take_ (i := 0) (N := some 7) (v := ?_) (a' := ?_) #[true, false, false, false, false, false] rfl rfl (by kernel_rfl) (fun _ _ _ h => h) (Or.inl ⟨by rfl, ?_⟩) hHeld ?_ ?_
    rotate_left
    ·rintro w' ⟨s0, s1⟩
     go_simp
     with_reducible rfl
    rotate_left
    ·simp only [Act.put, List.setIfInBounds_toArray, List.set_cons_zero, List.set_cons_succ, i64_w, i32_w]
     rfl
    refine take_ (i := 1) (N := some 8) (v := ?_) (a' := ?_) #[true, true, false, false, false, false] rfl rfl (by kernel_rfl) (fun _ _ _ h => h) (Or.inl ⟨by rfl, ?_⟩) hHeld ?_ ?_
    rotate_left
    ·rintro w' ⟨s0, s1⟩
     go_simp
     with_reducible rfl
    rotate_left
    ·simp only [Act.put, List.setIfInBounds_toArray, List.set_cons_zero, List.set_cons_succ, i64_w, i32_w]
     rfl
    refine one_ (i := 2) (N := some 9) #[true, true, true, false, false, false] rfl rfl (by kernel_rfl) (by decide) (fun K hK => ?_)
    cases hq : certS (b.drop y) with
    | error pe =>
     refine callp_ Try.func49 (by kernel_rfl) rfl #[.pointer (some ⟨g, 0, none⟩)] (by rfl) rfl (by (try simp only [List.map_toArray, List.map_cons, List.map_nil]); first | done | rfl) ?_
     refine (cert_c w0 g A c b y WD HD.out.rs hy HO.out hn hc).mono ?_
     intro e w7 h7
     rw [hq] at h7
     obtain ⟨rfl, ⟨yy, hyy⟩, hk7⟩ := h7
     refine ⟨_, rfl, ?_⟩
     obtain rfl := HZe.out _ (HPS.out.trans (certs_err hq M d xs))
     exact ⟨rfl, readsN_error hyy.hb (HD.out.kp.trans (keepTo hk7.out _) (.inl rfl)) (by have := HY.out; omega)⟩
    | ok p =>
     obtain ⟨ct, k⟩ := p
     refine goes_ Try.func49 (by kernel_rfl) rfl #[.pointer (some ⟨g, 0, none⟩)] (by rfl) rfl rfl (by (try simp only [List.map_toArray, List.map_cons, List.map_nil]); first | done | rfl) ?_
     refine (cert_c w0 g A c b y WD HD.out.rs hy HO.out hn hc).mono ?_
     intro e w7 h7
     rw [hq] at h7
     obtain ⟨⟨s1, l1⟩, ⟨s2, l2⟩, fs, ps⟩ := ct
     obtain ⟨v1, v2, u1, u2, rfl, h1, h2, h3, h4, hr7, hk7⟩ := h7
     refine ⟨_, rfl, ?_⟩
     obtain ⟨hL7, hS7⟩ := RL.call HBB.out HD.out hk7.out hr7.out
     have HL7 := Aside0.mk hL7
     have HS7 := Aside0.mk hS7
     have HD7 := Aside0.mk (Kd.S_lt HD.out.sl)
     have HDW := Aside0.mk HD.out.kp.1
     clear hL7 hS7 hk7 hr7 HD
     have HM := Aside0.mk (cert_mkM (ct := ((s1, l1), (s2, l2), fs, ps)) h1.out h2.out h3.out h4.out)
     have HV1 := Aside0.mk (show ∀ k, (some k = v1.ownBlock ∨ some k = v2.ownBlock ∨ some k = u1.ownBlock ∨ some k = u2.ownBlock) → WD.heap.size ≤ k from fun k hk => hk.elim (fun e => (h1.out.1 k e.symm).1) (fun hk => hk.elim (fun e => (h2.out.1 k e.symm).1) (fun hk => hk.elim (fun e => (h3.out.1 k e.symm).1) (fun e => (h4.out.1 k e.symm).1))))
     obtain ⟨A1, c1, e1⟩ := Kd.R_slice h1.out
     obtain ⟨A2, c2, e2⟩ := Kd.R_slice h2.out
     obtain ⟨A3, c3, e3⟩ := Kd.R_slice h3.out
     obtain ⟨A4, c4, e4⟩ := Kd.R_slice h4.out
     have HW7 := Aside0.mk (show w.heap.size ≤ w7.heap.size from HL7.out.kp.1)
     clear h1 h2 h3 h4
     subst e1 e2 e3 e4
     refine hK.out _ _ ⟨(blk_cell HL7.out.bl 0).trans rfl, (blk_cell HL7.out.br 0).trans rfl⟩ (fun hHeld => ?_)
     clear hK K
     refine norm_ (a' := ?_) ?_ ?_
     rotate_left
     ·show Act.put _ (some 9) _ = _
      simp only [Act.put, List.setIfInBounds_toArray, List.set_cons_zero, List.set_cons_succ, i64_w, i32_w]
      rfl
     refine one_ (i := 3) (N := some 10) #[true, true, true, true, false, false] rfl rfl (by kernel_rfl) (by decide) (fun K hK => ?_)
     refine value_ (w1 := ?_) (v := ?_) (by rfl) rfl ?_ ?_
     rotate_left 2
     ·go_simp
      constructor
      ·rfl
      ·rfl
     refine hK.out _ _ ⟨(blk_cell (blk_alloc HL7.out.bl _) 0).trans rfl, (blk_cell (blk_alloc HL7.out.br _) 0).trans rfl⟩ (fun hHeld => ?_)
     clear hK K
     refine norm_ (a' := ?_) ?_ ?_
     rotate_left
     ·show Act.put _ (some 10) _ = _
      simp only [Act.put, List.setIfInBounds_toArray, List.set_cons_zero, List.set_cons_succ, i64_w, i32_w]
      rfl
     refine one_ (i := 4) (N := some 11) #[true, true, true, true, true, false] rfl rfl (by kernel_rfl) (by decide) (fun K hK => ?_)
     refine Kd.S_append_step PB.k61 (w0 := w0) w0.heap.size (by rfl) (.tmp 7) (.tmp 10) 35 61 (.agg #[(.bool false), (.slice none 0 0), (.bool false), (.slice none 0 0), (.slice none 0 0), (.slice none 0 0)]) 112 rfl Try.underlying35 infoC rfl (by decide) (by omega) (.slice B1 m1 d1) (xs.map toS) (toS ((s1, l1), (s2, l2), fs, ps)) [.bool s1, .slice A1 l1.length c1, .bool s2, .slice A2 l2.length c2, .slice A3 fs.length c3, .slice A4 ps.length c4] (fun j => w.heap.size ≤ j) _ rfl rfl HM.out ?aK ?aF ?aO HL7.out.rs.hb HL7.out.rs.hb.size ?aL ?_
     (case aK => exact fun k hk => ⟨Nat.le_trans HDW.out (HV1.out k hk), fun e => by have h1 := HV1.out k hk; have h2 := HD7.out k e.symm; omega⟩)
     (case aF => exact fun k hk => Nat.le_trans HW7.out hk)
     (case aO => exact Kd.S_mono HS7.out (fun k hk => ⟨hk.1, fun e => by have h1 := HV1.out k e; omega⟩))
     (case aL => have := HXL.out; rw [List.length_map]; omega)
     intro u8 w8 hU hb8 hg8 hat8
     have hmap : xs.map toS ++ [toS ((s1, l1), (s2, l2), fs, ps)] = (xs ++ [((s1, l1), (s2, l2), fs, ps)]).map toS := by rw [List.map_append]; rfl
     rw [hmap] at hU
     have HL9 := Aside0.mk (RL.app HBB.out HL7.out hU hb8 hg8)
     have HX9 := Aside0.mk (blk_grown HL7.out.bl hg8 (fun e => by have h1 := HL7.out.sl; obtain ⟨f, hR⟩ := h1; have h2 := hR.1 gl e.symm; have h3 := HBB.out.h1.2.1; omega))
     have HR9 := Aside0.mk (blk_grown HL7.out.br hg8 (fun e => by have h1 := HL7.out.sl; obtain ⟨f, hR⟩ := h1; have h2 := hR.1 gr e.symm; have h3 := HBB.out.h1.2.2.1; omega))
     obtain ⟨Bn, dn, en⟩ := Kd.S_slice hU
     clear hU hb8 hg8 hat8 hmap HM HV1 HS7 HL7 HD7 HDW HW7
     subst en
     obtain ⟨mm, hmm⟩ : ∃ t, ((xs ++ [((s1, l1), (s2, l2), fs, ps)]).map toS).length = t := ⟨_, rfl⟩
     rw [hmm] at HL9 ⊢
     clear hmm
     refine hK.out _ _ ⟨(blk_cell HX9.out 0).trans rfl, (blk_cell HR9.out 0).trans rfl⟩ (fun hHeld => ?_)
     clear hK K
     refine norm_ (a' := ?_) ?_ ?_
     rotate_left
     ·show Act.put _ (some 11) _ = _
      simp only [Act.put, List.setIfInBounds_toArray, List.set_cons_zero, List.set_cons_succ, i64_w, i32_w]
      rfl
     refine last_ (i := 5) (N := none) #[true, true, true, true, true, true] rfl rfl (by kernel_rfl) (by decide) (fun K hK => ?_)
     have fz := blk_frozen HX9.out 0
     have cz := (blk_cell HX9.out 0).trans rfl
     refine skip_ (w1 := ?_) (by rfl) rfl ?_ ?_
     rotate_left
     ·go_simp
      rfl
     refine hK.out _ _ ?_
     clear hK K fz cz HX9 HR9
     refine done_ (by kernel_rfl) ?_
     generalize w8.setCell _ _ = W9 at HL9 ⊢
     have HPS2 := Aside0.mk (HPS.out.trans (certs_ok hq M d xs))
     rw [List.drop_drop] at HPS2
     have HLN := Aside0.mk (cert_len hq)
     rw [List.length_drop] at HLN
     obtain ⟨i1, hi1⟩ : ∃ i1, i + 1 = i1 := ⟨_, rfl⟩
     have HQM : Aside0 (Q - i1 = M) := ⟨by have := HMM.out; omega⟩
     have hw1 : wrap64 ((i : Int) + 1) = (i1 : Int) := by unfold wrap64; omega
     have HI := Aside0.mk hi1
     have HY2 := Aside0.mk hy
     clear hi1 hq hy hHeld
     go_wp2
     exact ⟨⟨i1, y + k, d + k, xs ++ [((s1, l1), (s2, l2), fs, ps)], _, by simp [← HI.out], by have := HI.out; omega, ⟨by have := HY.out; omega⟩, by have := HLN.out; have := HY2.out; omega, ⟨by rw [List.length_append, HXL.out]; exact HI.out⟩, ⟨by rw [HQM.out]; exact HPS2.out⟩, HL9⟩, by have := HI.out; simp [intOf]; omega⟩
end Go.Proofs.Ytoheamfnddfgkaa.St
namespace Go.Proofs.Ytoheamfnddfgkaa.St
open Go.RowKit Go.Proofs.YtoheamfnddfgkaaW.PrintWords Go.Proofs.YtoheamfnddfgkaaW.PrintLast Go.Proofs.YtoheamfnddfgkaaW.PrintMore
set_option linter.unusedVariables false
set_option linter.unusedSimpArgs false

/-- What is known where a read begins. -/
structure RI (w0 : World) (g gr gs gl : Nat) (A : Option Addr) (c : Nat) (b : List Int) (W : World) : Prop where
 bg : W.heap[g]? = some (.cells #[.slice A b.length c, .int .i64 0] 70 (0, 0))
 br : W.heap[gr]? = some (.cells #[.pointer (some ⟨g, 0, none⟩)] 68 (0, 0))
 bs : W.heap[gs]? = some (.cells #[.slice A b.length c] 25 (0, 0))
 bl : W.heap[gl]? = some (.cells #[.slice none 0 0] 35 (0, 0))
 hC : u8.C w0 A b.length b
 h0 : w0.heap.size ≤ g ∧ w0.heap.size ≤ gl ∧ w0.heap.size ≤ gr ∧ w0.heap.size ≤ gs
 hb : Below w0.heap.size w0 W
section
variable {w0 w w' : World} {g gr gs gl : Nat} {A : Option Addr} {c : Nat} {b : List Int}
theorem RI.below (h : RI w0 g gr gs gl A c b w) (hb : Below w.heap.size w w') : RI w0 g gr gs gl A c b w' :=
 ⟨(hb.block g (blk_lt h.bg)).trans h.bg, (hb.block gr (blk_lt h.br)).trans h.br, (hb.block gs (blk_lt h.bs)).trans h.bs, (hb.block gl (blk_lt h.bl)).trans h.bl, h.hC, h.h0, below_step h.hb hb⟩
theorem RI.rb (h : RI w0 g gr gs gl A c b w) : RB w0 g gr gs gl A b w :=
 ⟨h.hC, h.h0, ⟨blk_lt h.bg, blk_lt h.bl, blk_lt h.br, blk_lt h.bs⟩, ⟨blk_ne h.bl h.bg (by decide), blk_ne h.br h.bg (by decide), blk_ne h.bs h.bg (by decide), blk_ne h.br h.bl (by decide), blk_ne h.bs h.bl (by decide)⟩⟩
theorem RI.rl (h : RI w0 g gr gs gl A c b w) : RL w0 w g gr gs gl A c b 0 (.slice none 0 0) [] w :=
 ⟨RS.mk0 h.hC h.hb h.h0.1 h.bg, h.br, h.bs, h.bl, Kd.S_nil _ _ _ _ _, KeepBut.refl _ _ _⟩
end
/-- What comes of face over Read's closure. -/
def FaceR (w0 : World) (g gl : Nat) (w : World) (r : Except Nat (List CertT)) (e : Ending) (w' : World) : Prop :=
 Aside0 (Below w0.heap.size w0 w') ∧ Aside0 (KeepBut w w' g (some gl)) ∧
 match r with
 | .ok l => e = .returned (.tuple #[.int .i64 0, .int .i64 0]) ∧ ∃ v, Aside0 (Kd.S PB.k61 61 w' w0.heap.size (fun k => w.heap.size ≤ k) v (l.map toS)) ∧ Aside0 (w'.heap[gl]? = some (.cells #[v] 35 (0, 0)))
 | .error p => e = .returned (.tuple #[.int .i64 (p : Int), .int .i64 400])
set_option maxRecDepth 100000 in
set_option maxHeartbeats 2000000 in
theorem face2_c (w0 : World) (g gr gs gl : Nat) (A : Option Addr) (c : Nat) (b : List Int) (w : World) (hi : RI w0 g gr gs gl A c b w) (ho : okB b) (hn : b.length ≤ 4611686018427387904) (hc : b.length ≤ c) :
  Calls Try.prog 42 #[.func (.func 47) #[] #[.pointer (some ⟨gr, 0, none⟩), .pointer (some ⟨gl, 0, none⟩), .pointer (some ⟨gs, 0, none⟩)]] w (FaceR w0 g gl w (readS b)) := by
 have hmf : ∀ (fn : Fn) (first cap : Array Value) (w : World), (Instr.makeFunc fn first cap).run Try.prog w = .ok (.func fn first cap) w := fun _ _ _ _ => rfl
 have HI := Aside0.mk hi
 clear hi
 obtain ⟨Z, hZ⟩ : ∃ Z, readS b = Z := ⟨_, rfl⟩
 have HZ := Aside0.mk hZ
 rw [hZ]
 clear hZ
 go_enter_defers Try.func42, Try.ntmps42
 go_wp2_with (first | ((with_reducible refine gate_dst (N := 2) rfl ?_); refine box_event ?hg (N := 2) ?hd (cs := #[.int .i64 0]) (t := 3) ?hr ?_; (case hd => rfl); (case hg => rfl); (case hr => first | (go_simp; done) | (go_simp; rfl)); intro ga hga w1 hbox hb; have HI1 := Aside0.mk (HI.out.below hb); have HA1 := Aside0.mk hbox; have HGA := Aside0.mk hga; have HB1 := Aside0.mk hb; clear hb hbox hga) | ((with_reducible refine gate_dst (N := 3) rfl ?_); refine box_event ?hg (N := 3) ?hd (cs := #[.int .i64 0]) (t := 26) ?hr ?_; (case hd => rfl); (case hg => rfl); (case hr => first | (go_simp; done) | (go_simp; rfl)); intro ge hge w2 hbox hb; have HI2 := Aside0.mk (HI1.out.below hb); have HA2 := Aside0.mk ((hb.block ga (blk_lt HA1.out)).trans HA1.out); have HE2 := Aside0.mk hbox; have HGE := Aside0.mk hge; have HB2 := Aside0.mk (below_step HB1.out hb); have HLT := Aside0.mk (blk_lt HA1.out); clear hb hbox hge))
 refine (read1_c w0 g gr gs gl A c b w2 HI2.out.rl HI2.out.rb ho hn hc).mono ?_
 intro e w3 h3
 rw [HZ.out] at h3
 obtain ⟨HB3, HK3, h3⟩ := h3
 have hga : ga ≠ g := by have := blk_lt HI.out.bg; have := HGA.out; omega
 have hgal : ga ≠ gl := by have := blk_lt HI.out.bl; have := HGA.out; omega
 have hle : w.heap.size ≤ ge := by have h1 := HLT.out; have h2 := HGA.out; have h3 : ge = w1.heap.size := HGE.out; omega
 have hge : ge ≠ g := by have := blk_lt HI.out.bg; omega
 have hgel : ge ≠ gl := by have := blk_lt HI.out.bl; omega
 have hae : ge ≠ ga := by have h1 := HLT.out; have h3 : ge = w1.heap.size := HGE.out; omega
 have HA3 := Aside0.mk (HK3.out.blk HA2.out hga (by simpa using hgal))
 have HE3 := Aside0.mk (HK3.out.blk HE2.out hge (by simpa using hgel))
 have HKW := Aside0.mk ((KeepBut.of_below HB2.out g (some gl)).trans HK3.out (.inl rfl))
 have hwa : w.heap.size ≤ ga := by have := HGA.out; omega
 have hw0 : w0.heap.size ≤ w.heap.size := HI.out.hb.size
 have ca0 := (blk_cell HA3.out 0).trans rfl
 have ce0 := (blk_cell HE3.out 0).trans rfl
 have fa0 := blk_frozen HA3.out 0
 have fe0 := blk_frozen HE3.out 0
 have HFin : Aside0 (∀ (u v : Int), (Below w0.heap.size w0 ((w3.setCell ⟨ga, 0, none⟩ (.int .i64 u)).setCell ⟨ge, 0, none⟩ (.int .i64 v))) ∧ (KeepBut w ((w3.setCell ⟨ga, 0, none⟩ (.int .i64 u)).setCell ⟨ge, 0, none⟩ (.int .i64 v)) g (some gl)) ∧ ((w3.setCell ⟨ga, 0, none⟩ (.int .i64 u)).setCell ⟨ge, 0, none⟩ (.int .i64 v)).heap[ga]? = some (.cells #[.int .i64 u] 3 (0, 0)) ∧ ((w3.setCell ⟨ga, 0, none⟩ (.int .i64 u)).setCell ⟨ge, 0, none⟩ (.int .i64 v)).heap[ge]? = some (.cells #[.int .i64 v] 26 (0, 0))) := ⟨fun u v =>
  ⟨(HB3.out.setCell (Nat.le_trans hw0 hwa) _).setCell (Nat.le_trans hw0 hle) _, keep_far (keep_far HKW.out hwa _) hle _, blk_far (blk_put (cs := #[.int .i64 0]) HA3.out 0 _ rfl) hae.symm _, blk_put (cs := #[.int .i64 0]) (blk_far HE3.out hae _) 0 _ rfl⟩⟩
 cases Z with
 | error p =>
  obtain rfl := h3
  obtain ⟨fb, fk, fa, fe⟩ := HFin.out p 400
  have FA := (blk_cell fa 0).trans rfl
  have FE := (blk_cell fe 0).trans rfl
  refine leaves_cons (f := 68) (args := #[.pointer (some ⟨ga, 0, none⟩), .pointer (some ⟨ge, 0, none⟩)]) (by simp) (by simp [go_sem]) ?_
  refine (catch_panicking ga ge hae p _ _ [] w3 HA3.out HE3.out).mono ?_
  rintro e u' w'' ⟨rfl, rfl, rfl⟩
  simp [Leaves, settle, results, Try.results42, go_sem, FA, FE]
  exact ⟨⟨fb⟩, ⟨fk⟩, rfl⟩
 | ok l =>
  obtain ⟨rfl, v, HV, HX3⟩ := h3
  obtain ⟨fb, fk, fa, fe⟩ := HFin.out 0 0
  have FA := (blk_cell fa 0).trans rfl
  have FE := (blk_cell fe 0).trans rfl
  go_wp2
  refine leaves_cons (f := 68) (args := #[.pointer (some ⟨ga, 0, none⟩), .pointer (some ⟨ge, 0, none⟩)]) (by simp) (by simp [go_sem]) ?_
  refine (catch_idle _ _ _).mono ?_
  rintro e u' w'' ⟨rfl, rfl, rfl⟩
  simp [Leaves, settle, results, Try.results42, go_sem, FA, FE]
  exact ⟨⟨fb⟩, ⟨fk⟩, rfl, v, ⟨Kd.S_mono (Kd.S_far (p := ⟨ge, 0, none⟩) (Kd.S_far (p := ⟨ga, 0, none⟩) HV.out (fun k hk => by have h1 := blk_lt HA2.out; show k ≠ ga; omega) _) (fun k hk => by have h1 := blk_lt HE2.out; show k ≠ ge; omega) _) (fun k hk => Nat.le_trans HB2.out.size hk)⟩, ⟨blk_far (blk_far HX3.out hgal.symm _) hgel.symm _⟩⟩
end Go.Proofs.Ytoheamfnddfgkaa.St
namespace Go.Proofs.Ytoheamfnddfgkaa.St
open Go.RowKit Go.Proofs.YtoheamfnddfgkaaW.PrintWords Go.Proofs.YtoheamfnddfgkaaW.PrintLast Go.Proofs.YtoheamfnddfgkaaW.PrintMore
set_option linter.unusedVariables false
set_option linter.unusedSimpArgs false

def readG (l : List Int) : List CertT × Int × Int :=
 match readS l with
 | .ok cs => (cs, 0, 0)
 | .error p => ([], 400, (p : Int))
set_option maxRecDepth 100000 in
set_option maxHeartbeats 4000000 in
theorem read_c (A : Option Addr) (c : Nat) (b : List Int) (w : World) (hr : Kd.C (Kd.int .u8) w A b.length b) (hc : b.length ≤ c) (ho : okB b) (hn : b.length ≤ 4611686018427387904) :
  Calls Try.prog 17 #[.slice A b.length c] w fun e w' => ∃ v, e = .returned (.tuple #[v, .int .i64 (readG b).2.1, .int .i64 (readG b).2.2]) ∧ Kd.S PB.k61 61 w' w.heap.size (fun _ => True) v ((readG b).1.map toS) ∧ Below w.heap.size w w' := by
 have hu := Try.underlying70
 have hmf : ∀ (fn : Fn) (first cap : Array Value) (w : World), (Instr.makeFunc fn first cap).run Try.prog w = .ok (.func fn first cap) w := fun _ _ _ _ => rfl
 have HC := Aside0.mk hr
 clear hr
 go_enter Try.func17, Try.ntmps17
 go_wp2_with (first | ((with_reducible refine gate_dst (N := 1) rfl ?_); refine box_event ?hg (N := 1) ?hd (cs := #[.slice A b.length c]) (t := 25) ?hr ?_; (case hd => rfl); (case hg => rfl); (case hr => first | (go_simp; done) | (go_simp; rfl)); intro gs hgs w1 hbox hb; have HX1 := Aside0.mk hbox; have HG1 := Aside0.mk hgs; have HB1 := Aside0.mk hb; have HL1 := Aside0.mk (blk_lt hbox); have cs0 := (blk_cell hbox 0).trans rfl; clear hb hbox hgs) | ((with_reducible refine gate_dst (N := 5) rfl ?_); refine box_event ?hg (N := 5) ?hd (cs := #[.slice none 0 0]) (t := 35) ?hr ?_; (case hd => rfl); (case hg => rfl); (case hr => first | (go_simp; done) | (go_simp; rfl)); intro gl hgl w2 hbox hb; have HX2 := Aside0.mk ((hb.block gs (blk_lt HX1.out)).trans HX1.out); have HY2 := Aside0.mk hbox; have HG2 := Aside0.mk hgl; have HB2 := Aside0.mk (below_step HB1.out hb); have HL2 := Aside0.mk (blk_lt hbox); have cs2 := (blk_cell HX2.out 0).trans rfl; clear hb hbox hgl) | ((with_reducible refine gate_dst (N := 11) rfl ?_); refine box_event ?hg (N := 11) ?hd (cs := #[.slice A b.length c, .int .i64 0]) (t := 70) ?hr ?_; (case hd => rfl); (case hg => rfl); (case hr => first | (go_simp; done) | (go_simp; rfl)); intro g hg w3 hbox hb; have HX3 := Aside0.mk ((hb.block gs (blk_lt HX2.out)).trans HX2.out); have HY3 := Aside0.mk ((hb.block gl (blk_lt HY2.out)).trans HY2.out); have HR3 := Aside0.mk hbox; have HG3 := Aside0.mk hg; have HB3 := Aside0.mk (below_step HB2.out hb); have HL3 := Aside0.mk (blk_lt hbox); clear hb hbox hg) | ((with_reducible refine gate_dst (N := 6) rfl ?_); refine box_event ?hg (N := 6) ?hd (cs := #[.pointer none]) (t := 68) ?hr ?_; (case hd => rfl); (case hg => rfl); (case hr => first | (go_simp; done) | (go_simp; rfl)); intro gr hgr w4 hbox hb; have HX4 := Aside0.mk ((hb.block gs (blk_lt HX3.out)).trans HX3.out); have HY4 := Aside0.mk ((hb.block gl (blk_lt HY3.out)).trans HY3.out); have HR4 := Aside0.mk ((hb.block g (blk_lt HR3.out)).trans HR3.out); have HP4 := Aside0.mk hbox; have HG4 := Aside0.mk hgr; have HB4 := Aside0.mk (below_step HB3.out hb); clear hb hbox hgr; have cr0 := (blk_cell HP4.out 0).trans rfl; have fr0 := blk_frozen HP4.out 0))
 have k1 : gs = w.heap.size := HG1.out
 have k2 : gl = w1.heap.size := HG2.out
 have k3 : g = w2.heap.size := HG3.out
 have k4 : gr = w3.heap.size := HG4.out
 have hlt1 := HL1.out
 have hlt2 := HL2.out
 have hlt3 := HL3.out
 have hrg : gr ≠ g := by omega
 have hrl : gr ≠ gl := by omega
 have hrs : gr ≠ gs := by omega
 have hlg : gl ≠ g := by omega
 have h0r : w.heap.size ≤ gr := by omega
 have h0l : w.heap.size ≤ gl := by omega
 have h0g : w.heap.size ≤ g := by omega
 have h0s : w.heap.size ≤ gs := by omega
 clear k1 k2 k3 k4 hlt1 hlt2 hlt3
 obtain ⟨W5, hW5⟩ : ∃ W5, w4.setCell ⟨gr, 0, none⟩ (.pointer (some ⟨g, 0, none⟩)) = W5 := ⟨_, rfl⟩
 have HI : Aside0 (RI w g gr gs gl A c b W5) := ⟨hW5 ▸ ⟨blk_far HR4.out hrg.symm _, blk_put (cs := #[.pointer none]) HP4.out 0 _ rfl, blk_far HX4.out hrs.symm _, blk_far HY4.out hrl.symm _, HC.out, ⟨h0g, h0l, h0r, h0s⟩, HB4.out.setCell h0r _⟩⟩
 rw [hW5]
 clear hW5 HX4 HY4 HR4 HP4 HB4 HX3 HY3 HR3 HB3 HX2 HY2 HB2 HX1 HB1 cs0 cs2
 refine (face2_c w g gr gs gl A c b W5 HI.out ho hn hc).mono ?_
 intro e w6 h6
 obtain ⟨Z, hZ⟩ : ∃ Z, readS b = Z := ⟨_, rfl⟩
 have HZ := Aside0.mk hZ
 rw [hZ] at h6
 clear hZ
 obtain ⟨HB6, HK6, h6⟩ := h6
 cases Z with
 | error p =>
  have hs : readG b = ([], 400, (p : Int)) := by unfold readG; rw [HZ.out]
  obtain rfl := h6
  go_wp2
  go_ret3
  rw [hs]
  exact ⟨_, rfl, Kd.S_nil _ _ _ _ _, HB6.out⟩
 | ok l =>
  have hs : readG b = (l, 0, 0) := by unfold readG; rw [HZ.out]
  obtain ⟨rfl, v, HV, HY6⟩ := h6
  obtain ⟨Av, cv, ev⟩ := Kd.S_slice HV.out
  obtain ⟨ln, hln⟩ : ∃ t, (l.map toS).length = t := ⟨_, rfl⟩
  rw [hln] at ev
  clear hln
  subst ev
  have cl0 := (blk_cell HY6.out 0).trans rfl
  go_wp2
  go_ret3
  rw [hs]
  exact ⟨_, rfl, Kd.S_mono HV.out (fun _ _ => trivial), HB6.out⟩
end Go.Proofs.Ytoheamfnddfgkaa.St
namespace Go.Proofs.Ytoheamfnddfgkaa.St
instance okB_dec (b : List Int) : Decidable (okB b) := by unfold okB; infer_instance
end Go.Proofs.Ytoheamfnddfgkaa.St
