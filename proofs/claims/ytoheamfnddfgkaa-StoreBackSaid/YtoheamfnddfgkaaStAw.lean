/- store: append of a row of bytes to a row of one's own, as long as growslice bears it. -/
import Derived.Test.YtoheamfnddfgkaaWMore
import Derived.Deep.DeepAppendWide
namespace Go.Proofs.Ytoheamfnddfgkaa.St
open Go.RowKit Go.Proofs.YtoheamfnddfgkaaW.PrintWords Go.Proofs.YtoheamfnddfgkaaW.PrintLast Go.Proofs.YtoheamfnddfgkaaW.PrintMore
set_option linter.unusedVariables false
set_option linter.unusedSimpArgs false

section
variable {P : Program}
/-- Where an appended row lies: in the old one's block, or in the new one. -/
theorem append_hat (w : World) (base : Nat) (t ty e : TypeId) (i : TypeInfo) (z : Value) (ht : P.underlying t = some (.slice e)) (hi : P.info? e = some i) (hz : i.zero = some z) (hsize : i.size = 1)
    (v : Value) (n : Nat) (xs : List Value) (hown : w.ownsRow base e 1 v n xs) (a : Addr) (m c : Nat) (news : List Value) (hl : news.length = m) (hnews : ∀ j u, news[j]? = some u → w.cell? (a.add j) = some u) (h1 : ∀ u ∈ news, u.oneCell' = true)
    (h63 : n + m ≤ 9223372036854775807) (hbytes : ((n + m) + (n + m) / 4 + 192) * i.bytes ≤ 281474976710656) (hm : 0 < m) {v' : Value} {w' : World} (hr : (Builtin.append_ #[t, t] ty #[v, .slice (some a) m c]).run P w = .ok v' w') :
    v'.ownBlock = v.ownBlock ∨ v'.ownBlock = some w.heap.size := by
  rcases hown.2 with ⟨rfl, rfl⟩ | ⟨g, cap, cur, rfl, hbg, hg, hnc, hcm, hcs, htake⟩
  · have hb : m * i.bytes ≤ 281474976710656 := Nat.le_trans (Nat.mul_le_mul_right _ (by omega)) hbytes
    have h := run_append_nil (P := P) w t ty e i z ht hi hz a m c news (by rw [hsize, Nat.mul_one]; exact hl) hnews hm (by omega) hb
    rw [h] at hr
    injection hr with hv hw
    subst hv
    exact .inr rfl
  · by_cases hroom : n + m ≤ cap
    · have h := run_append_room (P := P) w t ty e i ht hi g n cap cur hg a m c news (by rw [hsize, Nat.mul_one]; exact hl) hnews h1 hroom (by rw [hsize, hcs, hl]; omega)
      rw [h] at hr
      injection hr with hv hw
      subst hv
      exact .inl rfl
    · have holds : ∀ j u, xs[j]? = some u → w.cell? ((⟨g, 0, none⟩ : Addr).add j) = some u := hown.cells (g := g) rfl
      have h := run_append_grow (P := P) w t ty e i z ht hi hz ⟨g, 0, none⟩ n cap xs (by rw [hsize]; exact hown.1) holds a m c news (by rw [hsize, Nat.mul_one]; exact hl) hnews (by omega) (by omega) (growslice_fits_wide (by omega) hbytes)
      rw [h] at hr
      injection hr with hv hw
      subst hv
      exact .inr rfl
variable {ops : Array Oper} {rest : List Oper} {o : Oper} {a : Act} {Q : Exit → Act → World → Prop}
theorem R_append_wide {w0 W : World} (base : Nat) (hgd : o.guard = none) (s x : Operand) (t e : TypeId) (z : Value) (bytes : Nat)
    (ho : o.op = .call { callee := .builtin .append, args := #[s, x], argTypes := #[t, t] })
    (ht : P.underlying t = some (.slice e)) (hinfo : (P.info? e).map (fun i => (i.zero, i.size, i.bytes)) = some (some z, 1, bytes)) (hz : z.cells.size = 1) (hs0 : 0 < 1) (hb0 : 0 < bytes)
    (v : Value) (xs ys : List Int) (A : Option Addr) (m c : Nat) (ok okp : Nat → Prop) (hs : a.eval s = v) (hx : a.eval x = .slice A m c)
    (HO : (Kd.int .u8).R e W base ok v xs) (HR : (Kd.int .u8).C W A m ys) (hfresh : ∀ k, W.heap.size ≤ k → ok k)
    (HB : Below base w0 W) (hbase : base ≤ W.heap.size) (hl : ((xs.length + ys.length) + (xs.length + ys.length) / 4 + 192) * bytes ≤ 281474976710656)
    (h : ∀ v1 w1, (Kd.int .u8).R e w1 base ok v1 (xs ++ ys) → Below base w0 w1 → W.grownBy w1 v.ownBlock → (v1.ownBlock = v.ownBlock ∨ ∃ b, v1.ownBlock = some b ∧ W.heap.size ≤ b) → wpList P ops Q rest (a.put o.dst v1) w1) :
    wpList P ops Q (o :: rest) a W := by
  obtain ⟨i0, hi, hzz⟩ := Option.map_eq_some_iff.1 hinfo
  simp only [Prod.mk.injEq] at hzz
  obtain ⟨hz0, hz1, hz2⟩ := hzz
  have hm : ys.length = m := HR.1
  have hown := Kd.own_of_R HO
  rcases Nat.eq_zero_or_pos m with h0 | hm1
  · subst h0
    obtain rfl : ys = [] := List.eq_nil_of_length_eq_zero hm
    have hrun : (Builtin.append_ #[t, t] o.type #[v, .slice A 0 c]).run P W = .ok v W := by
      rcases A with _ | ad
      · rcases hown.2 with ⟨rfl, hn⟩ | ⟨g, cap, cur, rfl, _, _, hnc, _⟩
        · simp [Builtin.append_, run_underlying ht, sizeOf, typeInfo, hi, Builtin.lenOf, Builtin.firstCells]
        · simp [Builtin.append_, run_underlying ht, sizeOf, typeInfo, hi, Builtin.lenOf, Builtin.firstCells, hnc, storeCells]
      · rcases hown.2 with ⟨rfl, hn⟩ | ⟨g, cap, cur, rfl, _, _, hnc, _⟩
        · simp [Builtin.append_, run_underlying ht, sizeOf, typeInfo, hi, Builtin.lenOf, Builtin.firstCells, loadCells, loadCellsFrom]
        · simp [Builtin.append_, run_underlying ht, sizeOf, typeInfo, hi, Builtin.lenOf, Builtin.firstCells, loadCells, loadCellsFrom, hnc, storeCells]
    refine wpList_plain hgd fun K hK => ?_
    unfold Oper.wp execOp
    simp only [ho, resolve, invoke, builtin, Sem.run_bind, Sem.run_pure, Result.andThen_ok, List.map_toArray, List.map_cons, List.map_nil, hs, hx, hrun]
    exact hK _ _ (h v W (by rw [List.append_nil]; exact HO) HB (World.grownBy.refl W _) (.inl rfl))
  obtain ⟨_, hn63, hcell0⟩ := Kd.reads_of_C (d := (0 : Int)) HR
  obtain ⟨ad, rfl, hcell⟩ := hcell0 hm1
  have hle : xs.length + ys.length ≤ 281474976710656 := by
    have : (xs.length + ys.length) ≤ ((xs.length + ys.length) + (xs.length + ys.length) / 4 + 192) * bytes := Nat.le_trans (by omega) (Nat.le_mul_of_pos_right _ hb0)
    omega
  have hnews : ∀ j u, (encs (Value.int .u8) ys)[j]? = some u → W.cell? (ad.add j) = some u := by
    intro j u hu
    have hj : j < ys.length := by
      have := (List.getElem?_eq_some_iff.1 hu).1
      rwa [encs_length] at this
    rw [encs_get (d := (0 : Int)) ys j hj] at hu
    rw [hcell j (by omega)]
    exact hu
  have hone : ∀ u ∈ encs (Value.int .u8) ys, u.oneCell' = true := by
    intro u hu
    obtain ⟨y, _, rfl⟩ := List.mem_map.1 hu
    rfl
  rw [hm] at hl hle
  obtain ⟨v1, w1, hrun, h2, hg, _⟩ := run_append_own_wide (P := P) W base t o.type e i0 z 1 bytes ht hi hz0 hz1 hz2 hz (by decide) v xs.length (encs (Value.int .u8) xs) hown ad m c (encs (Value.int .u8) ys) (by rw [encs_length, hm, Nat.mul_one]) hnews hone (by simp only [maxLen]; omega) hl hbase
  have hat := append_hat (P := P) W base t o.type e i0 z ht hi hz0 hz1 v xs.length (encs (Value.int .u8) xs) hown ad m c (encs (Value.int .u8) ys) (by rw [encs_length, hm]) hnews hone (by omega) (by rw [hz2]; exact hl) hm1 hrun
  have hat' : v1.ownBlock = v.ownBlock ∨ ∃ b, v1.ownBlock = some b ∧ W.heap.size ≤ b := hat.elim .inl (fun h => .inr ⟨_, h, Nat.le_refl _⟩)
  have hR : (Kd.int .u8).R e w1 base ok v1 (xs ++ ys) := by
    refine Kd.R_of_own (by rw [encs_append, List.length_append, hm]; exact h2) (fun k hk => ?_)
    rcases hat with h3 | h3
    · exact HO.1 k (h3 ▸ hk)
    · rw [h3] at hk
      injection hk with hk
      exact hfresh k (by omega)
  refine wpList_plain hgd fun K hK => ?_
  unfold Oper.wp execOp
  simp only [ho, resolve, invoke, builtin, Sem.run_bind, Sem.run_pure, Result.andThen_ok, List.map_toArray, List.map_cons, List.map_nil, hs, hx, hrun]
  exact hK _ _ (h v1 w1 hR (HB.grown hg hbase (own_base hown)) hg hat')
end
end Go.Proofs.Ytoheamfnddfgkaa.St
