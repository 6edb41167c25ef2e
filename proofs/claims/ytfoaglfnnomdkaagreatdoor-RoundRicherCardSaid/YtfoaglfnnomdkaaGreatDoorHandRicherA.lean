/- The plain law of RoundRicher: with greater budgets the best programme is worth no less, and no bound is less. -/
import Derived.Test.YtfoaglfnnomdkaaGreatDoorHandSpentA
set_option linter.all false
namespace Go.Proofs.YtfoaglfnnomdkaaGreatDoor.C
open Go.RowKit Go.Proofs.YtfoaglfnnomdkaaGreatDoorW.PrintWords Go.Proofs.YtfoaglfnnomdkaaGreatDoorW.PrintMore

section
variable {l0 : List S73} {l1 m1 : List Int} {first days : Int}
theorem benV_len (hl : m1.length = l1.length) (x : S73) (p : Int) : benV l0 m1 first days x p = benV l0 l1 first days x p := by
  unfold benV round_benefit.f
  rw [hl]
theorem any_set {l : List Int} (h : l.any (fun n => outB n 0 10000000) = false) (k : Nat) {v : Int} (hv : outB v 0 10000000 = false) : (l.set k v).any (fun n => outB n 0 10000000) = false := by
  rw [List.any_eq_false] at h ⊢
  intro x hx
  rcases List.mem_or_eq_of_mem_set hx with h' | h'
  · exact h x h'
  · rw [h', hv]; decide
theorem prog_set (h : (progF l0 l1 first days).2 = 0) (k : Nat) {v : Int} (h0 : 0 ≤ v) (h1 : v ≤ 10000000) : progF l0 (l1.set k v) first days = progF l0 l1 first days := by
  unfold progF at h ⊢
  rw [List.length_set]
  by_cases c1 : 6 < l0.length
  · rw [if_pos c1, if_pos c1]
  rw [if_neg c1] at h
  rw [if_neg c1, if_neg c1]
  by_cases c2 : 3 < l1.length
  · rw [if_pos c2, if_pos c2]
  rw [if_neg c2] at h
  rw [if_neg c2, if_neg c2]
  by_cases c3 : outB first 0 40000 = true
  · rw [if_pos c3, if_pos c3]
  rw [if_neg c3] at h
  rw [if_neg c3, if_neg c3]
  by_cases c4 : outB days 1 4000 = true
  · rw [if_pos c4, if_pos c4]
  rw [if_neg c4] at h
  rw [if_neg c4, if_neg c4]
  by_cases c5 : l1.any (fun n => outB n 0 10000000) = true
  · rw [if_pos c5] at h; cases h
  have c6 : (l1.set k v).any (fun n => outB n 0 10000000) = false := any_set (by simpa using c5) k (by unfold outB; simp; omega)
  rw [if_neg c5, if_neg (by rw [c6]; decide)]
theorem spV_more (hl : m1.length = l1.length) : ∀ (ps : List Int) (k : Nat) (left left' : List Int) (so v : Int), left'.length = left.length → (∀ i : Nat, i < left.length → left[i]! ≤ left'[i]!) →
    spV l0 l1 first days k ps left so = some v → spV l0 m1 first days k ps left' so = some v := by
  intro ps
  induction ps with
  | nil => intro k left left' so v _ _ h; exact h
  | cons p ps ih =>
    intro k left left' so v hll hle h
    rw [spV] at h ⊢
    rw [hll, benV_len hl]
    by_cases c1 : p = -1
    · rw [if_pos c1] at h ⊢
      exact ih _ _ _ _ _ hll hle h
    · rw [if_neg c1] at h ⊢
      by_cases c2 : p < 0 ∨ (left.length : Int) ≤ p
      · rw [if_pos c2] at h; cases h
      · rw [if_neg c2] at h ⊢
        have hp : p.toNat < left.length := by omega
        have hq := hle _ hp
        by_cases c3 : left[p.toNat]! < l0[k]!.f1
        · rw [if_pos c3] at h; cases h
        · rw [if_neg c3] at h
          rw [if_neg (by omega)]
          refine ih _ _ _ _ _ (by rw [List.length_set, List.length_set]; exact hll) (fun i hi => ?_) h
          rw [List.length_set] at hi
          rw [set_get _ _ _ _ hi, set_get _ _ _ _ (by omega)]
          have := hle i hi
          split <;> omega
theorem ch_more (hl : m1.length = l1.length) (hle : ∀ i : Nat, i < l1.length → l1[i]! ≤ m1[i]!) : (chSearch l0 l1 first days l0.length 0 l1 [] 0 ([], -1)).2 ≤ (chSearch l0 m1 first days l0.length 0 m1 [] 0 ([], -1)).2 := by
  obtain ⟨t1, t2⟩ := ch_top (l0 := l0) (l1 := l1) (first := first) (days := days)
  exact ch_covers l0.length 0 m1 [] 0 ([], -1) _ _ t1 rfl (spV_more hl _ _ _ _ _ _ hl hle t2)
theorem dot_mono : ∀ (xs ys zs : List Int), ys.length = zs.length → (∀ x ∈ xs, 0 ≤ x) → (∀ i : Nat, i < ys.length → ys[i]! ≤ zs[i]!) → dot xs ys ≤ dot xs zs
  | [], _, _, _, _, _ => by simp [dot]
  | _ :: _, [], [], _, _, _ => by simp [dot]
  | _ :: _, [], _ :: _, h, _, _ => by simp at h
  | _ :: _, _ :: _, [], h, _, _ => by simp at h
  | x :: xs, y :: ys, z :: zs, h, hx, hle => by
    have ih := dot_mono xs ys zs (by simpa using h) (fun x hx' => hx x (by simp [hx'])) (fun i hi => by have := hle (i + 1) (by simp; omega); simpa using this)
    have h0 : y ≤ z := by have := hle 0 (by simp); simpa using this
    have := Int.mul_le_mul_of_nonneg_left h0 (hx x (by simp))
    simp only [dot]
    omega
theorem bndMost_len (hl : m1.length = l1.length) (x : S73) (pr : List Int) : ∀ (f i : Nat) (acc : Int), bndMost l0 m1 first days x pr f i acc = bndMost l0 l1 first days x pr f i acc := by
  intro f
  induction f with
  | zero => intro i acc; rfl
  | succ f ih => intro i acc; rw [bndMost, bndMost, benV_len hl, ih]
theorem bndAll_len (hl : m1.length = l1.length) (pr : List Int) : ∀ (f i : Nat) (acc : Int), bndAll l0 m1 first days pr f i acc = bndAll l0 l1 first days pr f i acc := by
  intro f
  induction f with
  | zero => intro i acc; rfl
  | succ f ih => intro i acc; rw [bndAll, bndAll, bndMost_len hl, ih]
theorem bound_more (h : (progF l0 l1 first days).2 = 0) (h' : (progF l0 m1 first days).2 = 0) (hl : m1.length = l1.length) (hle : ∀ i : Nat, i < l1.length → l1[i]! ≤ m1[i]!) (pr : List Int) :
    (boundF l0 l1 first days pr).2 = (boundF l0 m1 first days pr).2 ∧ (boundF l0 l1 first days pr).1 ≤ (boundF l0 m1 first days pr).1 := by
  have ok := progOk h
  have ok' := progOk h'
  unfold boundF
  rw [if_pos h, if_pos h', hl]
  by_cases c1 : pr.length = l1.length
  · rw [if_pos c1, if_pos c1]
    by_cases c2 : pr.any (fun n => outB n 0 1000000) = true
    · rw [if_pos c2, if_pos c2]; exact ⟨rfl, Int.le_refl _⟩
    · rw [if_neg c2, if_neg c2]
      refine ⟨rfl, ?_⟩
      have hp : ∀ y ∈ pr, 0 ≤ y ∧ y ≤ 1000000 := fun y hy => by
        have ha' : ¬ ∃ n ∈ pr, outB n 0 1000000 = true := by simpa using c2
        refine outB_false ?_
        cases hc : outB y 0 1000000 with
        | false => rfl
        | true => exact absurd ⟨y, hy, hc⟩ ha'
      have h3 := ok.len1
      obtain ⟨s1, s2, s3⟩ := bndSum_eq hp ok.bud c1 (by omega) pr.length 0 0 (by omega) (by omega) (by omega)
      obtain ⟨r1, r2, r3⟩ := bndSum_eq hp ok'.bud (c1.trans hl.symm) (by omega) pr.length 0 0 (by omega) (by omega) (by omega)
      have hd := dot_mono pr l1 m1 hl.symm (fun x hx => (hp x hx).1) hle
      simp only [List.drop_zero] at s1 r1
      rw [bndAll_len hl]
      obtain ⟨a1, a2, a3⟩ := bndAll_eq ok c1 hp l0.length 0 (bndSum pr l1 pr.length 0 0) (by omega) s2 (by omega)
      obtain ⟨b1, b2, b3⟩ := bndAll_eq ok c1 hp l0.length 0 (bndSum pr m1 pr.length 0 0) (by omega) r2 (by omega)
      generalize bndAll l0 l1 first days pr l0.length 0 (bndSum pr l1 pr.length 0 0) = z at *
      generalize bndAll l0 l1 first days pr l0.length 0 (bndSum pr m1 pr.length 0 0) = z' at *
      rw [Int.tdiv_eq_ediv_of_nonneg a2, Int.tdiv_eq_ediv_of_nonneg b2, wrap_id (by omega) (by omega), wrap_id (by omega) (by omega)]
      omega
  · rw [if_neg c1, if_neg c1]; exact ⟨rfl, Int.le_refl _⟩
/-- The budgets with so much more in one of them. -/
theorem set_more (ok : ProgOk l0 l1 first days) {k : Nat} (hk : k < l1.length) {x : Int} (hx : 0 ≤ x) : 0 ≤ min 10000000 (l1[k]! + x) ∧ min 10000000 (l1[k]! + x) ≤ 10000000 ∧ ∀ i : Nat, i < l1.length → l1[i]! ≤ (l1.set k (min 10000000 (l1[k]! + x)))[i]! := by
  have hb := ok.bud _ (at_mem l1 k hk)
  refine ⟨by omega, by omega, fun i hi => ?_⟩
  rw [set_get _ _ _ _ hi]
  split
  · rename_i e; subst e; omega
  · exact Int.le_refl _
end
end Go.Proofs.YtfoaglfnnomdkaaGreatDoor.C
