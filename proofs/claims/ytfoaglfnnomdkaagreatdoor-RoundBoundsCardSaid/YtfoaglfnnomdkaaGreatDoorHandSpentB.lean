/- RoundBounds: what the printed law answers. -/
import Derived.Test.YtfoaglfnnomdkaaGreatDoorHandSpentA
import Derived.Test.YtfoaglfnnomdkaaGreatDoorCx107
set_option linter.all false
namespace Go.Proofs.YtfoaglfnnomdkaaGreatDoor.C
open Go.RowKit Go.Proofs.YtfoaglfnnomdkaaGreatDoorW.PrintWords Go.Proofs.YtfoaglfnnomdkaaGreatDoorW.PrintMore

section
variable {l0 : List S73} {l1 : List Int} {first days : Int}
def spP (r : Option Int) : Int × Bool := match r with | some v => (v, true) | none => (0, false)
theorem spent_loop (h : (progF l0 l1 first days).2 = 0) (hs : ∀ x ∈ l0, x.f0.size ≤ 9223372036854775807) {x1 : List Int} (hx : x1.length = l0.length) :
    ∀ (m k j : Nat) (x6 : List Int) (x7 : Int), j + m = l0.length → m < k → x6.length = l1.length → (∀ y ∈ x6, 0 ≤ y ∧ y ≤ 10000000) →
      linkboylaw11_spent.l0 k x1 x6 x7 (j : Int) l0 l1 first days = some (spP (spV l0 l1 first days j (x1.drop j) x6 x7)) := by
  have ok := progOk h
  have h6 := ok.len0
  have HP := Lib.hid h
  clear h
  intro m
  induction m with
  | zero =>
    intro k j x6 x7 hj hk _ _
    obtain ⟨k, rfl⟩ : ∃ n, k = n + 1 := ⟨k - 1, by omega⟩
    rw [linkboylaw11_spent.l0, if_neg (by omega), List.drop_of_length_le (by omega), spV]
    rfl
  | succ m ih =>
    intro k j x6 x7 hj hk hl hb
    obtain ⟨k, rfl⟩ : ∃ n, k = n + 1 := ⟨k - 1, by omega⟩
    have hj1 : j < x1.length := by omega
    have hj0 : j < l0.length := by omega
    have j1 : (j : Int) < (x1.length : Int) := by omega
    have j2 : (0 : Int) ≤ (j : Int) := by omega
    have j3 : (j : Int) < (l0.length : Int) := by omega
    have hw : wrap64 ((j : Int) + 1) = ((j + 1 : Nat) : Int) := by rw [wrap_id (by omega) (by omega)]; omega
    have e1 : x1.drop j = x1[j]! :: x1.drop (j + 1) := by rw [List.getElem!_eq_getElem?_getD, List.getElem?_eq_getElem hj1]; exact List.drop_eq_getElem_cons hj1
    have hrd : rd x1 (j : Int) = x1[j]! := by
      unfold rd
      rw [Int.toNat_natCast, List.getElem!_eq_getElem?_getD, List.getD_eq_getElem?_getD]
      rfl
    have hrd6 : ∀ p : Int, rd x6 p = x6[p.toNat]! := fun p => by
      unfold rd
      rw [List.getElem!_eq_getElem?_getD, List.getD_eq_getElem?_getD]
      rfl
    have hrT : rd_T73 l0 (j : Int) = l0[j]! := by
      unfold rd_T73
      rw [Int.toNat_natCast, List.getElem!_eq_getElem?_getD]
      rfl
    rw [e1, spV]
    unfold linkboylaw11_spent.l0
    rw [if_pos j1, if_pos j2, hw]
    simp only [hrd, hrd6, hrT, if_pos j3]
    clear hrd hrd6 hrT hw e1
    generalize x1[j]! = p
    have hc := (ok.asset hj0).c0
    have hc1 := (ok.asset hj0).c1
    by_cases h1 : p = -1
    · rw [if_pos h1, if_pos h1]
      exact ih k (j + 1) x6 x7 (by omega) (by omega) hl hb
    · rw [if_neg h1, if_neg h1]
      have hB : round_Benefit.f l0 l1 first days (j : Int) p = some (benefitF l0 l1 first days (j : Int) p) := by
        unfold round_Benefit.f
        rw [if_pos (List.all_eq_true.2 fun x hx => by simpa using hs x hx)]
      rw [hB, Option.bind_some]
      have ho : outB (j : Int) 0 ((l0.length : Int) - 1) = false := by unfold outB; simp; omega
      by_cases h2 : p < 0 ∨ (x6.length : Int) ≤ p
      · have ho2 : outB p 0 ((l1.length : Int) - 1) = true := by unfold outB; simp; omega
        have hv : benefitF l0 l1 first days (j : Int) p = (0, 4) := by
          unfold benefitF
          rw [if_pos HP.out, ho, ho2]
          rfl
        rw [if_pos h2, hv, if_neg (show ¬ ((0, 4) : Int × Int).2 = 0 by decide)]
        rfl
      · have ho2 : outB p 0 ((l1.length : Int) - 1) = false := by unfold outB; simp; omega
        have hv : benefitF l0 l1 first days (j : Int) p = (benV l0 l1 first days l0[j]! p, 0) := by
          unfold benefitF
          rw [if_pos HP.out, ho, ho2]
          rfl
        rw [if_neg h2, hv, if_pos (show ((benV l0 l1 first days l0[j]! p, 0) : Int × Int).2 = 0 from rfl), if_neg (show ¬ p < 0 by omega), if_neg (show ¬ p ≥ (x6.length : Int) by omega), if_pos (show 0 ≤ p by omega), if_pos (show p < (x6.length : Int) by omega)]
        by_cases h3 : x6[p.toNat]! < l0[j]!.f1
        · rw [if_pos h3, if_pos h3]; rfl
        · rw [if_neg h3, if_neg h3]
          have hm := hb _ (at_mem x6 p.toNat (by omega))
          rw [wrap_id (x := x6[p.toNat]! - l0[j]!.f1) (by omega) (by omega)]
          exact ih k (j + 1) _ _ (by omega) (by omega) (by rw [List.length_set]; exact hl) (set_mem hb (by omega))
theorem spent_eq (h : (progF l0 l1 first days).2 = 0) (hs : ∀ x ∈ l0, x.f0.size ≤ 9223372036854775807) (ps : List Int) (k : Nat) (hk : 6 < k) :
    linkboylaw11_spent.f k l0 l1 first days ps = some (if ps.length = l0.length then spP (spV l0 l1 first days 0 ps l1 0) else (0, false)) := by
  have ok := progOk h
  have h3 := ok.len1
  have h6 := ok.len0
  unfold linkboylaw11_spent.f
  by_cases e : ps.length = l0.length
  · rw [if_pos (by omega), if_pos e, Option.bind_some, if_pos (by simp; omega)]
    exact spent_loop h hs e l0.length k 0 l1 0 (by omega) (by omega) rfl ok.bud
  · rw [if_neg (by omega), if_neg e]
theorem bounds_pure (l0 : List S73) (l1 : List Int) (first days : Int) (pr l2 : List Int) (hs : ∀ x ∈ l0, x.f0.size ≤ 9223372036854775807) : ∃ k, linkboylaw11_RoundBounds.f k l0 l1 first days pr l2 = some true := by
  have hall : (l0.all fun x => decide (x.f0.size ≤ 9223372036854775807)) = true := List.all_eq_true.2 fun x hx => by simpa using hs x hx
  refine ⟨20, ?_⟩
  unfold linkboylaw11_RoundBounds.f round_Choose.f
  rw [if_pos hall, Option.bind_some]
  unfold chooseF
  by_cases h : (progF l0 l1 first days).2 = 0
  · rw [if_pos h]
    obtain ⟨t1, t2⟩ := ch_top (l0 := l0) (l1 := l1) (first := first) (days := days)
    have hbg := fun (pr : List Int) (h0 : (boundF l0 l1 first days pr).2 = 0) => bound_ge (l0 := l0) (l1 := l1) (first := first) (days := days) h h0
    have hcv := fun (ps : List Int) (v : Int) (hp : ps.length = l0.length) (hv : spV l0 l1 first days 0 ps l1 0 = some v) => ch_covers (l0 := l0) (l1 := l1) (first := first) (days := days) l0.length 0 l1 [] 0 ([], -1) ps v hp rfl hv
    generalize chSearch l0 l1 first days l0.length 0 l1 [] 0 ([], -1) = S at *
    rw [if_pos rfl]
    show (linkboylaw11_spent.f 20 l0 l1 first days S.1).bind _ = _
    rw [spent_eq h hs S.1 20 (by omega), if_pos t1, t2, Option.bind_some]
    show linkboylaw11_RoundBounds.j0 20 pr l2 S.2 (S.2 != S.2) l0 l1 first days = _
    have h2 : ∀ x47, x47 = false → linkboylaw11_RoundBounds.j1 19 l2 S.2 x47 l0 l1 first days = some true := by
      rintro _ rfl
      rw [linkboylaw11_RoundBounds.j1, if_neg (by decide), spent_eq h hs l2 18 (by omega), Option.bind_some]
      by_cases e : l2.length = l0.length
      · rw [if_pos e]
        cases hv : spV l0 l1 first days 0 l2 l1 0 with
        | none => rfl
        | some v =>
          have := hcv l2 v e hv
          show (if true = true then (if v ≤ S.2 then _ else _) else _) = _
          rw [if_pos rfl, if_pos this]
          rfl
      · rw [if_neg e]
        rfl
    rw [linkboylaw11_RoundBounds.j0, if_neg (by simp)]
    unfold round_Bound.f
    rw [if_pos hall, Option.bind_some]
    split
    · rename_i h0
      exact h2 _ (decide_eq_false (by have := hbg pr h0; omega))
    · exact h2 _ rfl
  · rw [if_neg h, if_neg h]
    rfl
end
end Go.Proofs.YtfoaglfnnomdkaaGreatDoor.C
