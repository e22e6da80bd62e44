/- store: plain: the bytes that are told are bytes. -/
import Derived.Test.YtoheamfnddfgkaaStBa
import Derived.Test.YtoheamfnddfgkaaStSr
namespace Go.Proofs.Ytoheamfnddfgkaa.St
open Go.RowKit Go.Proofs.YtoheamfnddfgkaaW.PrintWords Go.Proofs.Ytoheamfnddfgkaa.PB
set_option linter.unusedVariables false
set_option linter.unusedSimpArgs false

theorem okB_app {a b : List Int} (ha : okB a) (hb : okB b) : okB (a ++ b) := fun x hx => (List.mem_append.1 hx).elim (ha x) (hb x)
theorem okB_grp : ∀ (f n : Nat), okB (grp f n)
  | 0, _ => fun x hx => by simp [grp] at hx
  | f + 1, n => fun x hx => by
    simp only [grp] at hx
    split at hx
    · rcases List.mem_cons.1 hx with rfl | hx
      · omega
      · exact okB_grp f _ x hx
    · simp at hx
      omega
theorem okB_bF : ∀ (m u : Nat), okB (bF m u)
  | 0, _ => fun x hx => by simp [bF] at hx
  | m + 1, u => fun x hx => by
    simp only [bF, List.mem_cons] at hx
    rcases hx with rfl | hx
    · omega
    · exact okB_bF m _ x hx
theorem okB_limbs (l : List Int) : okB (limbsS l) := fun x hx => by
  unfold limbsS at hx
  obtain ⟨y, hy, hx⟩ := List.mem_flatten.1 hx
  obtain ⟨u, _, rfl⟩ := List.mem_map.1 hy
  exact okB_bF 8 _ x hx
theorem okB_number (s : Bool) (l : List Int) : okB (numberS s l) := okB_app (okB_grp 10 _) (okB_limbs l)
theorem okB_pairs : ∀ (fs ps : List Int), okB (pairsB fs ps)
  | [], _ => fun x hx => by simp [pairsB] at hx
  | _ :: _, [] => fun x hx => by simp [pairsB] at hx
  | f :: fs, p :: ps => okB_app (okB_app (okB_grp 10 _) (okB_grp 10 _)) (okB_pairs fs ps)
theorem okB_cert (c : S61) : okB (certB c) := okB_app (okB_app (okB_app (okB_number _ _) (okB_number _ _)) (okB_grp 10 _)) (okB_pairs _ _)
theorem okB_flat : ∀ (l : List S61), okB (flatB l)
  | [] => fun x hx => by simp [flatB] at hx
  | c :: l => okB_app (okB_cert c) (okB_flat l)
theorem okB_certs (l : List S61) (h : (certsT l).2 = 0) : okB (certsT l).1 := by
  rw [(certsT_ok h).2.2]
  exact okB_app (okB_grp 10 _) (okB_flat l)
theorem grp_pos (f n : Nat) : 0 < (grp (f + 1) n).length := by
  simp only [grp]
  split <;> simp
theorem grpS_pos (n : Nat) : 0 < (grpS n).length := grp_pos 9 n
theorem certsT_err {l : List S61} (h : ¬ (certsT l).2 = 0) : (certsT l).1 = [] := by
  unfold certsT at h ⊢
  split
  · rfl
  · rename_i h1
    rw [if_neg h1] at h
    have : ∀ (l : List S61) (out : List Int), ¬ (certsK out l).2 = 0 → (certsK out l).1 = [] := by
      intro l
      induction l with
      | nil => intro out h; simp [certsK] at h
      | cons c l ih =>
        intro out h
        simp only [certsK] at h ⊢
        split
        · rename_i hc
          rw [if_pos hc] at h
          exact ih _ h
        · rfl
    exact this l _ h
theorem readG_err {b : List Int} {e : Nat} (h : readS b = .error e) : readG b = ([], 400, (e : Int)) := by unfold readG; rw [h]
end Go.Proofs.Ytoheamfnddfgkaa.St
