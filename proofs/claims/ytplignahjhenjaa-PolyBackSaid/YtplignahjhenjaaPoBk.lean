/- PolyBack: the walk. -/
import Derived.Test.YtplignahjhenjaaPoAk
import Derived.Test.YtplignahjhenjaaPoBp
namespace Go.Proofs.Ytplignahjhenjaa.Lb
open Go.RowKit Go.Proofs.YtplignahjhenjaaW.PrintWords Go.Proofs.YtplignahjhenjaaW.PrintLast Go.Proofs.YtplignahjhenjaaW.PrintMore
open Go.Proofs.Ytplignahjhenjaa.Po (trm trm_of_tight tight_trm trm_len tight_iff ev)
set_option linter.unusedVariables false
set_option linter.unusedSimpArgs false

/-- A list of the call's own, all of it in blocks ahead of N. -/
def TS (w : World) (base N : Nat) (v : Value) (zs : List Int) : Prop := Kd.R PB.k25 25 w base (fun k => k < N) v (zs.map sv)
theorem TS.below {w w' : World} {base N : Nat} {v : Value} {zs : List Int} (h : TS w base N v zs) (hb : Below w.heap.size w w') : TS w' base N v zs := Kd.R_below h hb
theorem TS.pl {w : World} {base N n : Nat} {A : Option Addr} {c : Nat} {zs : List Int} (h : TS w base N (.slice A n c) zs) (hs : zs.length ≤ 1000) : n = zs.length ∧ n ≤ c ∧ PL w A zs := by
  have h2 := Kd.R_reads' h
  rw [List.length_map] at h2
  exact ⟨h2.1, h2.2.1, PL_of_C h2.2.2 (by omega)⟩
/-- The same, any blocks. -/
def TR (w : World) (base : Nat) (v : Value) (zs : List Int) : Prop := Kd.R PB.k25 25 w base (fun _ => True) v (zs.map sv)
theorem TR.below {w w' : World} {base : Nat} {v : Value} {zs : List Int} (h : TR w base v zs) (hb : Below w.heap.size w w') : TR w' base v zs := Kd.R_below h hb
theorem TR.ts {w : World} {base : Nat} {v : Value} {zs : List Int} (h : TR w base v zs) : TS w base w.heap.size v zs := Kd.R_mono (Kd.R_bound h) (fun k hk => hk.2.2.1)
theorem TR.pl {w : World} {base n : Nat} {A : Option Addr} {c : Nat} {zs : List Int} (h : TR w base (.slice A n c) zs) (hs : zs.length ≤ 1000) : n = zs.length ∧ n ≤ c ∧ PL w A zs := by
  have h2 := Kd.R_reads' h
  rw [List.length_map] at h2
  exact ⟨h2.1, h2.2.1, PL_of_C h2.2.2 (by omega)⟩
/-- tame, told so. -/
theorem tame_t (A : Option Addr) (n c : Nat) (l : List PB.S25) (hn : l.length = n) (hc : n ≤ c) (hl : ∀ c ∈ l, okc c) (hs : n ≤ 9223372036854775806) (w : World) (r : Kd.C PB.k25 w A n l) :
    Calls Try.prog 33 #[.slice A n c] w fun e w' => ∃ zs A' c', e = .returned (.slice A' zs.length c') ∧ Aside0 (Po.tight zs) ∧ zs.length ≤ 12 ∧ Aside0 (∀ z ∈ zs, lim 8 z) ∧ Aside0 (TR w' w.heap.size (.slice A' zs.length c') zs) ∧ Aside0 (Below w.heap.size w w') :=
  (tame_z A n c l hn hc hl hs w r).mono fun e w' ⟨zs, v, he, t, l12, l8, hS, hB⟩ => by
    obtain ⟨A', c', rfl⟩ := Kd.S_slice hS.out
    have hR := Kd.S_R hS.out
    rw [List.length_map] at he hR
    exact ⟨zs, A', c', he, ⟨t⟩, l12, ⟨l8⟩, ⟨hR⟩, hB⟩
/-- A number that is 1 or -1, laid as a row of one. -/
def unit (neg : Bool) : Int := if neg then -1 else 1
theorem unit_abs (neg : Bool) : (unit neg).natAbs = 1 := by cases neg <;> rfl
theorem unit_sv (neg : Bool) : sv (unit neg) = ⟨neg, [1]⟩ := by
  unfold sv
  rw [one_lm (unit_abs neg)]
  cases neg <;> rfl
theorem unit_row {wt : World} (neg : Bool) {W : World} (hW : ((wt.alloc (.cells #[.int .u64 1] 50)).alloc (.cells #[.bool neg, .slice (some ⟨wt.heap.size, 0, none⟩) 1 1] 25)).alloc (.cells #[.bool neg, .slice (some ⟨wt.heap.size, 0, none⟩) 1 1] 25) = W) (N : Nat) (hN : N ≤ wt.heap.size) : ReadsRow (PB.k25.M W N (fun k => wt.heap.size ≤ k)) 2 W (some ⟨wt.heap.size + 1 + 1, 0, none⟩) 1 [sv (unit neg)] := by
  have hown := World.ownsRow_lit (base := N) (e := 50) (size := 1) wt (nums .u64 [1]).toArray 1 hN (by decide) (by simp [nums])
  have hR1 : u64.R 50 (wt.alloc (.cells #[.int .u64 1] 50)) N (fun k => wt.heap.size ≤ k) (.slice (some ⟨wt.heap.size, 0, none⟩) 1 1) [1] := Kd.R_of_own (by simpa [nums, encs] using hown) (fun k hk => by
    have : wt.heap.size = k := by simpa [Value.ownBlock] using hk
    omega)
  have hR : u64.R 50 W N (fun k => wt.heap.size ≤ k) (.slice (some ⟨wt.heap.size, 0, none⟩) 1 1) [1] := by
    rw [← hW]
    exact Kd.R_alloc (Kd.R_alloc hR1 _) _
  refine ⟨rfl, by decide, fun _ => ⟨_, rfl, fun j p hj => ?_⟩⟩
  cases j with
  | succ j => simp at hj
  | zero =>
    obtain rfl : sv (unit neg) = p := by simpa using hj
    rw [unit_sv]
    refine ⟨[.bool neg, .slice (some ⟨wt.heap.size, 0, none⟩) 1 1], rfl, PB.k25_mkM W N _ ⟨neg, [1]⟩ hR, fun i u hu => ?_⟩
    have hb : W.heap[wt.heap.size + 1 + 1]? = some (.cells #[.bool neg, .slice (some ⟨wt.heap.size, 0, none⟩) 1 1] 25 (0, 0)) := by
      rw [← hW]
      have := heap_alloc_new ((wt.alloc (.cells #[.int .u64 1] 50)).alloc (.cells #[.bool neg, .slice (some ⟨wt.heap.size, 0, none⟩) 1 1] 25)) (.cells #[.bool neg, .slice (some ⟨wt.heap.size, 0, none⟩) 1 1] 25)
      simpa using this
    rw [Nat.zero_mul, Nat.zero_add, add_plain]
    match i, hu with
    | 0, hu => obtain rfl := Option.some.inj hu; simp [World.cell?, hb]
    | 1, hu => obtain rfl := Option.some.inj hu; simp [World.cell?, hb]
    | i + 2, hu => cases hu
theorem add_all (p q : List Int) (hp : ∀ z ∈ p, lim 4095 z) (hq : ∀ z ∈ q, lim 4095 z) (hsp : p.length ≤ 4096) (hsq : q.length ≤ 4096) (tp : Po.tight p) (tq : Po.tight q) (A1 A2 : Option Addr) (c1 c2 : Nat) (w : World) (r1 : PL w A1 p) (r2 : PL w A2 q) :
    Calls Try.prog 27 #[.slice A1 p.length c1, .slice A2 q.length c2] w (OutLE w (trm (Po.add p q)) 0) := by
  rcases Nat.lt_or_ge p.length q.length with h | h
  · exact add_pz' p q hp hq hsp hsq tp tq h A1 A2 c1 c2 w r1 r2
  · exact add_pz p q hp hq hsp hsq tp tq h A1 A2 c1 c2 w r1 r2
theorem min_r {p q : List Int} {k : Nat} (hq : ∀ z ∈ q, lim k z) (hk : k < 24) : ∀ x ∈ p, ∀ y ∈ q, min (lm x).length (lm y).length < 24 := fun x hx y hy => by
  have := lm_len (hq y hy)
  omega
theorem lims {k j : Nat} {l : List Int} (h : ∀ z ∈ l, lim k z) (hk : k ≤ j) : ∀ z ∈ l, lim j z := fun z hz => lim_le (h z hz) hk
theorem tight_snoc (q : List Int) (t : Int) (ht : t ≠ 0) : Po.tight (q ++ [t]) := .inr (by simp [ht])
set_option maxRecDepth 100000 in
set_option maxHeartbeats 4000000 in
theorem polyBack_c (A1 : Option Addr) (n1 : Nat) (c1 : Nat) (l1 : List PB.S25) (hn1 : l1.length = n1) (hc1 : n1 ≤ c1) (hs1 : n1 ≤ 9223372036854775806) (ho1 : ∀ c ∈ l1, okc c) (A2 : Option Addr) (n2 : Nat) (c2 : Nat) (l2 : List PB.S25) (hn2 : l2.length = n2) (hc2 : n2 ≤ c2) (hs2 : n2 ≤ 9223372036854775806) (ho2 : ∀ c ∈ l2, okc c) (neg : Bool) (w : World) (r1 : Kd.C PB.k25 w A1 n1 l1) (r2 : Kd.C PB.k25 w A2 n2 l2) :
    Calls Try.prog 8 #[.slice A1 n1 c1, .slice A2 n2 c2, .bool neg] w (OutP w (.bool true)) := by
  have HB : Aside0 (Below w.heap.size w w) := ⟨Below.refl _ _⟩
  have R1 := Aside0.mk r1
  have R2 := Aside0.mk r2
  have HO1 := Aside0.mk ho1
  have HO2 := Aside0.mk ho2
  have HU := Aside0.mk (unit_abs neg)
  have hu := Try.underlying25
  clear r1 r2 ho1 ho2
  go_enter Try.func8, Try.ntmps8
  go_wp2_with fail
  refine (awake_c _).mono ?_
  rintro e w1 ⟨rfl, hB⟩
  replace HB : Aside0 (Below w.heap.size w w1) := ⟨HB.out.trans (hB.out.mono HB.out.size)⟩
  clear hB
  go_wp2_with fail
  refine (tame_t A1 n1 c1 l1 hn1 hc1 HO1.out hs1 w1 (Kd.C_below R1.out HB.out)).mono ?_
  rintro e w2 ⟨p, Ap, cp, rfl, tp, hp12, lp, HTp, hB⟩
  replace HB : Aside0 (Below w.heap.size w w2) := ⟨HB.out.trans (hB.out.mono HB.out.size)⟩
  clear hB
  obtain ⟨N, hN⟩ : ∃ N, w2.heap.size = N := ⟨_, rfl⟩
  replace HTp : Aside0 (TS w2 w1.heap.size N (.slice Ap p.length cp) p) := ⟨by rw [← hN]; exact HTp.out.ts⟩
  have HNN := Aside0.mk hN
  have HB2 := HB
  have HB22 : Aside0 (Below w2.heap.size w2 w2) := ⟨Below.refl _ _⟩
  clear hN
  go_wp2_with fail
  refine (tame_t A2 n2 c2 l2 hn2 hc2 HO2.out hs2 w2 (Kd.C_below R2.out HB.out)).mono ?_
  rintro e w3 ⟨q, Aq, cq, rfl, tq, hq12, lq, HTq, hB⟩
  replace HTp := Aside0.mk (HTp.out.below hB.out)
  replace HB : Aside0 (Below w.heap.size w w3) := ⟨HB.out.trans (hB.out.mono HB.out.size)⟩
  replace HTq : Aside0 (TR w3 N (.slice Aq q.length cq) q) := ⟨by rw [← HNN.out]; exact HTq.out⟩
  have HB23 : Aside0 (Below N w2 w3) := ⟨by rw [← HNN.out]; exact hB.out⟩
  have HS3 : Aside0 (N ≤ w3.heap.size) := ⟨by rw [← HNN.out]; exact hB.out.size⟩
  clear hB HB22
  have HRQ : Aside0 (TR (((w3.alloc (.cells #[.int .u64 1] 50)).alloc (.cells #[.bool neg, .slice (some ⟨w3.heap.size, 0, none⟩) 1 1] 25)).alloc (.cells #[.bool neg, .slice (some ⟨w3.heap.size, 0, none⟩) 1 1] 25)) N (.slice Aq q.length cq) q) := ⟨Kd.R_alloc (Kd.R_alloc (Kd.R_alloc HTq.out _) _) _⟩
  have HRP : Aside0 (TS (((w3.alloc (.cells #[.int .u64 1] 50)).alloc (.cells #[.bool neg, .slice (some ⟨w3.heap.size, 0, none⟩) 1 1] 25)).alloc (.cells #[.bool neg, .slice (some ⟨w3.heap.size, 0, none⟩) 1 1] 25)) w1.heap.size N (.slice Ap p.length cp) p) := ⟨Kd.R_alloc (Kd.R_alloc (Kd.R_alloc HTp.out _) _) _⟩
  have HUR := Aside0.mk (unit_row (wt := w3) neg rfl N HS3.out)
  have HBA : Aside0 (Below N w2 (((w3.alloc (.cells #[.int .u64 1] 50)).alloc (.cells #[.bool neg, .slice (some ⟨w3.heap.size, 0, none⟩) 1 1] 25)).alloc (.cells #[.bool neg, .slice (some ⟨w3.heap.size, 0, none⟩) 1 1] 25))) := ⟨((HB23.out.alloc HS3.out _).alloc (by simp; have := HS3.out; omega) _).alloc (by simp; have := HS3.out; omega) _⟩
  have hqo : ∀ k, (w3.heap.size ≤ k) → True ∧ some k ≠ (Value.slice Aq q.length cq).ownBlock := fun k hk => ⟨trivial, fun e => by obtain ⟨inner, ho⟩ := Kd.R_own HTq.out; have := own_lt ho k e.symm; omega⟩
  have HQO := Lib.hid hqo
  have hqb : ∀ k, k < N → some k ≠ (Value.slice Aq q.length cq).ownBlock := fun k hk e => by obtain ⟨inner, ho⟩ := Kd.R_own HTq.out; have := own_base ho k e.symm; omega
  have HQB := Lib.hid hqb
  clear hqo hqb
  go_wp2_with ((with_reducible refine gate_builtin (b := .append) (xs := #[.tmp 28, .tmp 30]) rfl ?_); at_builtin; refine Kd.R_append_rows PB.k25 (w0 := w2) N rfl (.tmp 28) (.tmp 30) 22 25 (.agg #[.bool false, .slice none 0 0]) 32 rfl Try.underlying22 PB.info25 rfl (by decide) (by omega) (.slice Aq q.length cq) (q.map sv) [sv (unit neg)] (some ⟨w3.heap.size + 1 + 1, 0, none⟩) 1 1 (fun _ => True) (fun k => w3.heap.size ≤ k) rfl rfl HRQ.out HUR.out (fun _ _ h => h) HQO.out (fun _ _ => trivial) HBA.out (by simp; have := HS3.out; omega) (by simp; omega) ?_; intro v1 w4 hR hBn hg hat; have HRn := Aside0.mk hR; have HBn := Aside0.mk hBn; have HPn : Aside0 (TS w4 w1.heap.size N (.slice Ap p.length cp) p) := ⟨Kd.R_grown HRP.out hg HQB.out⟩; clear hR hBn hg hat HRQ HRP HUR HBA HQO HQB; obtain ⟨Av, cv, rfl⟩ := Kd.R_slice HRn.out)
  obtain ⟨Q, hQ⟩ : ∃ Q, q ++ [unit neg] = Q := ⟨_, rfl⟩
  have hQl : q.length + 1 = Q.length := by rw [← hQ]; simp
  have hcQ0 := Kd.R_reads' HRn.out
  have hmap : q.map sv ++ [sv (unit neg)] = Q.map sv := by rw [← hQ, List.map_append]; rfl
  rw [hmap, List.length_map] at hcQ0
  have HPQ : Aside0 (PL w4 Av Q) := ⟨PL_of_C hcQ0.2.2 (by omega)⟩
  have hcQ : Q.length ≤ cv := by have := hcQ0.2.1; have := hcQ0.1; omega
  have HPp : Aside0 (PL w4 Ap p) := ⟨(HPn.out.pl (by omega)).2.2⟩
  have lQ : Aside0 (∀ z ∈ Q, lim 8 z) := ⟨fun z hz => by rw [← hQ] at hz; rcases List.mem_append.1 hz with h | h; exact lq.out z h; rw [List.mem_singleton.1 h]; exact lim_le (lim_small (by rw [HU.out]; decide)) (by omega)⟩
  have tQ : Aside0 (Po.tight Q) := ⟨by rw [← hQ]; exact tight_snoc q _ (fun h => by have := HU.out; rw [h] at this; simp at this)⟩
  have hQt : Q.getD q.length 0 = unit neg := by rw [← hQ]; simp [List.getD_eq_getElem?_getD]
  have hcp : p.length ≤ cp := (HPn.out.pl (by omega)).2.1
  replace HB : Aside0 (Below w.heap.size w w4) := ⟨HB2.out.trans (HBn.out.mono (by rw [← HNN.out]; exact HB2.out.size))⟩
  have DV := Lib.hid (div_z p Q q.length 8 8 (unit neg) lp.out lQ.out (by omega) hQl.symm hQt HU.out (by omega) (by omega) tp.out tQ.out (by omega) Ap Av cp cv hcQ w4 HPp.out HPQ.out)
  have hB1 := back1 (p := p) (q := Q) (n := q.length) (t := unit neg) tp.out hQl.symm hQt HU.out
  have hB2 := back2 (p := p) (q := Q) (n := q.length) (t := unit neg) tp.out hQl.symm hQt HU.out
  have hql := quot_lim (n := q.length) HU.out lp.out lQ.out (by omega)
  have hqn := quot_len (unit neg) Q p q.length
  have tD := Aside0.mk (tight_trm (dst (unit neg) Q q.length (p.length - q.length) p).1)
  have tR := Aside0.mk (tight_trm ((dst (unit neg) Q q.length (p.length - q.length) p).2.take q.length))
  obtain ⟨D, hD⟩ : ∃ D, trm (dst (unit neg) Q q.length (p.length - q.length) p).1 = D := ⟨_, rfl⟩
  obtain ⟨R, hR⟩ : ∃ R, trm ((dst (unit neg) Q q.length (p.length - q.length) p).2.take q.length) = R := ⟨_, rfl⟩
  rw [hD] at DV hB1 hql hqn tD
  rw [hR] at DV hB1 hql hqn tR
  obtain ⟨M, hM⟩ : ∃ M, trm (Po.mul D Q) = M := ⟨_, rfl⟩
  obtain ⟨PQ, hPQ⟩ : ∃ PQ, trm (Po.mul p Q) = PQ := ⟨_, rfl⟩
  rw [hPQ] at hB2
  have lD := Aside0.mk hql.1
  have lR := Aside0.mk hql.2
  have hDl : D.length ≤ 12 := by have := hqn.1; omega
  have hRl : R.length < Q.length := by have := hqn.2; omega
  have hQ13 : Q.length ≤ 13 := by omega
  have lM : Aside0 (∀ z ∈ M, lim 300 z) := ⟨by rw [← hM]; exact lims (mul_lim lD.out lQ.out (by omega)) (by omega)⟩
  have hMl : M.length ≤ 24 := by rw [← hM]; have := mul_len D Q; omega
  have tM : Aside0 (Po.tight M) := ⟨by rw [← hM]; exact tight_trm _⟩
  have lPQ : Aside0 (∀ z ∈ PQ, lim 17 z) := ⟨by rw [← hPQ]; exact lims (mul_lim lp.out lQ.out (by omega)) (by omega)⟩
  have hPQl : PQ.length ≤ 24 := by rw [← hPQ]; have := mul_len p Q; omega
  have tPQ : Aside0 (Po.tight PQ) := ⟨by rw [← hPQ]; exact tight_trm _⟩
  rw [hM] at hB1
  have HB1 := Aside0.mk hB1
  have HB2' := Aside0.mk hB2
  have HM := Aside0.mk hM
  have HPQe := Aside0.mk hPQ
  have HQl := Aside0.mk hQl
  have HQt := Aside0.mk hQt
  rw [hQl]
  clear hQ hcQ0 hmap hD hR hM hPQ hB1 hB2 hql hqn hQl hQt HRn HPn HBn HTq HTp HB2 HB23
  refine (DV.out).mono ?_
  rintro e w5 ⟨Ad, cd, Ar, cr, rfl, hcd, hcr, HD, HR, hB⟩
  replace HPp := Aside0.mk (HPp.out.below hB.out)
  replace HPQ := Aside0.mk (HPQ.out.below hB.out)
  replace HB : Aside0 (Below w.heap.size w w5) := ⟨HB.out.trans (hB.out.mono HB.out.size)⟩
  clear hB DV
  go_wp2_with fail
  refine (right_pz D (lims lD.out (by omega)) (by omega) tD.out Ad cd _ HD.out).mono ?_
  rintro e w6 ⟨rfl, hB⟩
  replace HPp := Aside0.mk (HPp.out.below hB.out)
  replace HPQ := Aside0.mk (HPQ.out.below hB.out)
  replace HD := Aside0.mk (HD.out.below hB.out)
  replace HR := Aside0.mk (HR.out.below hB.out)
  replace HB : Aside0 (Below w.heap.size w w6) := ⟨HB.out.trans (hB.out.mono HB.out.size)⟩
  clear hB
  go_wp2_with fail
  refine (right_pz R (lims lR.out (by omega)) (by omega) tR.out Ar cr _ HR.out).mono ?_
  rintro e w7 ⟨rfl, hB⟩
  replace HPp := Aside0.mk (HPp.out.below hB.out)
  replace HPQ := Aside0.mk (HPQ.out.below hB.out)
  replace HD := Aside0.mk (HD.out.below hB.out)
  replace HR := Aside0.mk (HR.out.below hB.out)
  replace HB : Aside0 (Below w.heap.size w w7) := ⟨HB.out.trans (hB.out.mono HB.out.size)⟩
  clear hB
  go_wp2_with fail
  have TM := Lib.hid (times_pz D Q (lims lD.out (by omega)) (lims lQ.out (by omega)) (min_r lQ.out (by omega)) (by omega) (by omega) (by omega) tD.out tQ.out Ad Av cd cv w7 HD.out HPQ.out)
  rw [HM.out] at TM
  refine (TM.out).mono ?_
  rintro e w8 ⟨Am, cm, rfl, hcm, HMm, hB⟩
  replace HPp := Aside0.mk (HPp.out.below hB.out)
  replace HPQ := Aside0.mk (HPQ.out.below hB.out)
  replace HD := Aside0.mk (HD.out.below hB.out)
  replace HR := Aside0.mk (HR.out.below hB.out)
  replace HB : Aside0 (Below w.heap.size w w8) := ⟨HB.out.trans (hB.out.mono HB.out.size)⟩
  clear hB TM
  go_wp2_with fail
  have TA := Lib.hid (add_all M R (lims lM.out (by omega)) (lims lR.out (by omega)) (by omega) (by omega) tM.out tR.out Am Ar cm cr w8 HMm.out HR.out)
  rw [HB1.out] at TA
  refine (TA.out).mono ?_
  rintro e w9 ⟨As, cs, rfl, hcs, HS, hB⟩
  replace HPp := Aside0.mk (HPp.out.below hB.out)
  replace HPQ := Aside0.mk (HPQ.out.below hB.out)
  replace HD := Aside0.mk (HD.out.below hB.out)
  replace HR := Aside0.mk (HR.out.below hB.out)
  replace HMm := Aside0.mk (HMm.out.below hB.out)
  replace HB : Aside0 (Below w.heap.size w w9) := ⟨HB.out.trans (hB.out.mono HB.out.size)⟩
  clear hB TA
  go_wp2_with fail
  refine (same_z p (lims lp.out (by omega)) (by omega) As Ap p.length p.length cs cp rfl rfl hcs hcp _ HS.out HPp.out).mono ?_
  rintro e w10 ⟨rfl, hB⟩
  replace HPp := Aside0.mk (HPp.out.below hB.out)
  replace HPQ := Aside0.mk (HPQ.out.below hB.out)
  replace HD := Aside0.mk (HD.out.below hB.out)
  replace HR := Aside0.mk (HR.out.below hB.out)
  replace HMm := Aside0.mk (HMm.out.below hB.out)
  replace HS := Aside0.mk (HS.out.below hB.out)
  replace HB : Aside0 (Below w.heap.size w w10) := ⟨HB.out.trans (hB.out.mono HB.out.size)⟩
  clear hB
  go_wp2_with fail
  have TP := Lib.hid (times_pz p Q (lims lp.out (by omega)) (lims lQ.out (by omega)) (min_r lQ.out (by omega)) (by omega) (by omega) (by omega) tp.out tQ.out Ap Av cp cv w10 HPp.out HPQ.out)
  rw [HPQe.out] at TP
  refine (TP.out).mono ?_
  rintro e w11 ⟨An, cn, rfl, hcn, HN2, hB⟩
  replace HPp := Aside0.mk (HPp.out.below hB.out)
  replace HPQ := Aside0.mk (HPQ.out.below hB.out)
  replace HD := Aside0.mk (HD.out.below hB.out)
  replace HR := Aside0.mk (HR.out.below hB.out)
  replace HMm := Aside0.mk (HMm.out.below hB.out)
  replace HS := Aside0.mk (HS.out.below hB.out)
  replace HB : Aside0 (Below w.heap.size w w11) := ⟨HB.out.trans (hB.out.mono HB.out.size)⟩
  clear hB TP
  go_wp2_with fail
  have TD := Lib.hid (div_z PQ Q q.length 17 8 (unit neg) lPQ.out lQ.out (by omega) HQl.out.symm HQt.out HU.out (by omega) (by omega) tPQ.out tQ.out (by omega) An Av cn cv hcQ w11 HN2.out HPQ.out)
  rw [HB2'.out.1, HB2'.out.2] at TD
  refine (TD.out).mono ?_
  rintro e w12 ⟨Ax, cx, Ay, cy, rfl, hcx, hcy, HX, HY, hB⟩
  replace HPp := Aside0.mk (HPp.out.below hB.out)
  replace HPQ := Aside0.mk (HPQ.out.below hB.out)
  replace HD := Aside0.mk (HD.out.below hB.out)
  replace HR := Aside0.mk (HR.out.below hB.out)
  replace HMm := Aside0.mk (HMm.out.below hB.out)
  replace HS := Aside0.mk (HS.out.below hB.out)
  replace HN2 := Aside0.mk (HN2.out.below hB.out)
  replace HB : Aside0 (Below w.heap.size w w12) := ⟨HB.out.trans (hB.out.mono HB.out.size)⟩
  clear hB TD
  go_wp2_with fail
  refine (same_z p (lims lp.out (by omega)) (by omega) Ax Ap p.length p.length cx cp rfl rfl hcx hcp _ HX.out HPp.out).mono ?_
  rintro e w13 ⟨rfl, hB⟩
  replace HPp := Aside0.mk (HPp.out.below hB.out)
  replace HPQ := Aside0.mk (HPQ.out.below hB.out)
  replace HD := Aside0.mk (HD.out.below hB.out)
  replace HR := Aside0.mk (HR.out.below hB.out)
  replace HMm := Aside0.mk (HMm.out.below hB.out)
  replace HS := Aside0.mk (HS.out.below hB.out)
  replace HN2 := Aside0.mk (HN2.out.below hB.out)
  replace HX := Aside0.mk (HX.out.below hB.out)
  replace HY := Aside0.mk (HY.out.below hB.out)
  replace HB : Aside0 (Below w.heap.size w w13) := ⟨HB.out.trans (hB.out.mono HB.out.size)⟩
  clear hB
  go_wp2_with fail
  go_ret
  exact ⟨rfl, HB⟩
end Go.Proofs.Ytplignahjhenjaa.Lb
