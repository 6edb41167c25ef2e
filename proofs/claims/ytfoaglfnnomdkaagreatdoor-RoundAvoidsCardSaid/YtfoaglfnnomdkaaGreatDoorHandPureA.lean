/- RoundAvoids: the plain law. -/
import Derived.Test.YtfoaglfnnomdkaaGreatDoorCx92
namespace Go.Proofs.YtfoaglfnnomdkaaGreatDoor.C
open Go.RowKit Go.Proofs.YtfoaglfnnomdkaaGreatDoorW.PrintWords Go.Proofs.YtfoaglfnnomdkaaGreatDoorW.PrintMore

theorem wrap_id {x : Int} (h0 : -9223372036854775808 ≤ x) (h1 : x ≤ 9223372036854775807) : wrap64 x = x := by
  unfold wrap64
  omega
theorem mul_bd {a b A B : Int} (a0 : 0 ≤ a) (a1 : a ≤ A) (b0 : 0 ≤ b) (b1 : b ≤ B) : 0 ≤ a * b ∧ a * b ≤ A * B :=
  ⟨Int.mul_nonneg a0 b0, Int.mul_le_mul a1 b1 b0 (Int.le_trans a0 a1)⟩
theorem namedF_ok {α : Type} [Inhabited α] {nm : α → ByteArray} {rest : α → Int} {l : List α} : ∀ k i, i + k = l.length → (namedF nm rest l k i).2 = 0 → ∀ j, i ≤ j → j < l.length → errAt nm rest l j l[j]! = 0 := by
  intro k
  induction k with
  | zero => intro i hi _ j h1 h2; omega
  | succ k ih =>
    intro i hi h j h1 h2
    rw [namedF] at h
    split at h
    · rename_i h0
      by_cases e : j = i
      · subst e; exact h0
      · exact ih (i + 1) (by omega) h j (by omega) h2
    · rename_i h0
      exact absurd h h0
theorem errAt_rest {α : Type} {nm : α → ByteArray} {rest : α → Int} {l : List α} {i : Nat} {x : α} (h : errAt nm rest l i x = 0) : rest x = 0 := by
  unfold errAt at h
  split at h
  · omega
  · split at h
    · omega
    · exact h
/-- A programme that is valid. -/
structure ProgOk (l0 : List S73) (l1 : List Int) (first days : Int) : Prop where
  len0 : l0.length ≤ 6
  len1 : l1.length ≤ 3
  f0 : 0 ≤ first
  f1 : first ≤ 40000
  d0 : 1 ≤ days
  d1 : days ≤ 4000
  bud : ∀ n ∈ l1, 0 ≤ n ∧ n ≤ 10000000
  err : ∀ j, j < l0.length → errAt S73.f0 (restProg first) l0 j l0[j]! = 0
theorem progOk {l0 : List S73} {l1 : List Int} {first days : Int} (h : (progF l0 l1 first days).2 = 0) : ProgOk l0 l1 first days := by
  unfold progF at h
  split at h
  · cases h
  split at h
  · cases h
  split at h
  · cases h
  split at h
  · cases h
  split at h
  · cases h
  rename_i h1 h2 h3 h4 h5
  obtain ⟨a0, a1⟩ := outB_false (by simpa using h3)
  obtain ⟨b0, b1⟩ := outB_false (by simpa using h4)
  refine ⟨by omega, by omega, a0, a1, b0, b1, fun n hn => ?_, fun j hj => namedF_ok _ _ (by omega) h j (by omega) hj⟩
  simp only [List.any_eq_true, not_exists, not_and] at h5
  have := h5 n hn
  exact outB_false (by simpa using this)
structure AssetOk (first : Int) (x : S73) : Prop where
  c0 : 0 ≤ x.f1
  c1 : x.f1 ≤ 1000000
  r0 : 0 ≤ x.f2
  r1 : x.f2 ≤ 1000
  h0 : 0 ≤ x.f3
  h1 : x.f3 ≤ 10000000
  l0 : 0 ≤ x.f4
  l1 : x.f4 ≤ first
theorem ProgOk.asset {l0 : List S73} {l1 : List Int} {first days : Int} (h : ProgOk l0 l1 first days) {j : Nat} (hj : j < l0.length) : AssetOk first l0[j]! := by
  have hr := errAt_rest (h.err j hj)
  generalize l0[j]! = x at hr
  unfold restProg at hr
  split at hr
  · cases hr
  rename_i hn
  simp only [Bool.or_eq_true, not_or, Bool.not_eq_true] at hn
  obtain ⟨⟨⟨h1, h2⟩, h3⟩, h4⟩ := hn
  have h1 := outB_false h1
  have h2 := outB_false h2
  have h3 := outB_false h3
  have h4 := outB_false h4
  exact ⟨h1.1, h1.2, h2.1, h2.2, h3.1, h3.2, h4.1, h4.2⟩
/-- The benefit, without the wraps. -/
theorem benV_eq {l0 : List S73} {l1 : List Int} {first days : Int} (h : ProgOk l0 l1 first days) {x : S73} (hx : AssetOk first x) {p : Int} (p0 : 0 ≤ p) (p1 : p ≤ (l1.length : Int) - 1) :
    benV l0 l1 first days x p = Int.tdiv (((l1.length : Int) - p) * days * (first + p * days - x.f4) * (x.f2 * x.f3)) 1000000000 ∧
    0 ≤ ((l1.length : Int) - p) * days ∧ ((l1.length : Int) - p) * days ≤ 12000 ∧ 0 ≤ p * days ∧ p * days ≤ 8000 ∧ 0 ≤ x.f2 * x.f3 ∧ x.f2 * x.f3 ≤ 10000000000 ∧
    0 ≤ ((l1.length : Int) - p) * days * (first + p * days - x.f4) ∧ ((l1.length : Int) - p) * days * (first + p * days - x.f4) ≤ 576000000 ∧
    0 ≤ ((l1.length : Int) - p) * days * (first + p * days - x.f4) * (x.f2 * x.f3) ∧ ((l1.length : Int) - p) * days * (first + p * days - x.f4) * (x.f2 * x.f3) ≤ 5760000000000000000 := by
  have hl := h.len1
  have hd0 := h.d0; have hd1 := h.d1; have hf0 := h.f0; have hf1 := h.f1
  have hr0 := hx.r0; have hr1 := hx.r1; have hh0 := hx.h0; have hh1 := hx.h1; have hl0 := hx.l0; have hl1 := hx.l1
  have m1 := mul_bd (a := (l1.length : Int) - p) (b := days) (A := 3) (B := 4000) (by omega) (by omega) (by omega) hd1
  have m2 := mul_bd (a := p) (b := days) (A := 2) (B := 4000) p0 (by omega) (by omega) hd1
  have m3 := mul_bd (a := x.f2) (b := x.f3) (A := 1000) (B := 10000000) hr0 hr1 hh0 hh1
  have m4 := mul_bd (a := ((l1.length : Int) - p) * days) (b := first + p * days - x.f4) (A := 12000) (B := 48000) m1.1 (by omega) (by omega) (by omega)
  have m5 := mul_bd (a := ((l1.length : Int) - p) * days * (first + p * days - x.f4)) (b := x.f2 * x.f3) (A := 576000000) (B := 10000000000) m4.1 (by omega) m3.1 (by omega)
  refine ⟨?_, m1.1, by omega, m2.1, by omega, m3.1, by omega, m4.1, by omega, m5.1, by omega⟩
  show wrap64 _ = _
  rw [wrap_id (x := (l1.length : Int) - p) (by omega) (by omega), wrap_id (x := ((l1.length : Int) - p) * days) (by omega) (by omega), wrap_id (x := p * days) (by omega) (by omega), wrap_id (x := first + p * days) (by omega) (by omega),
    wrap_id (x := first + p * days - x.f4) (by omega) (by omega), wrap_id (x := ((l1.length : Int) - p) * days * (first + p * days - x.f4)) (by omega) (by omega), wrap_id (x := x.f2 * x.f3) (by omega) (by omega),
    wrap_id (x := ((l1.length : Int) - p) * days * (first + p * days - x.f4) * (x.f2 * x.f3)) (by omega) (by omega)]
  have m5' := m5
  generalize ((l1.length : Int) - p) * days * (first + p * days - x.f4) * (x.f2 * x.f3) = z at m5'
  rw [Int.tdiv_eq_ediv_of_nonneg m5'.1]
  exact wrap_id (by omega) (by omega)
theorem avoids_loop {n on en last cost rate harm : Int} {nm : ByteArray} (h0 : 0 ≤ on) (h1 : en ≤ 100000) (h2 : 0 ≤ last) (h3 : last ≤ on) (h4 : on - last ≤ 48000) (h5 : en - on ≤ 12000) :
    ∀ (d k : Nat) (j : Int), on ≤ j → j ≤ en → en - j = d → d < k →
      linkboylaw11_RoundAvoids.l0 k n on en ((j - on) * (on - last)) j nm cost rate harm last =
        if n = wrap64 (Int.tdiv (wrap64 ((wrap64 ((en - on) * (on - last) * rate)) * harm)) 1000000000) then some true else some false := by
  intro d
  induction d with
  | zero =>
    intro k j a b c hk
    obtain ⟨k, rfl⟩ : ∃ m, k = m + 1 := ⟨k - 1, by omega⟩
    obtain rfl : j = en := by omega
    simp only [linkboylaw11_RoundAvoids.l0]
    rw [if_neg (by omega)]
    rfl
  | succ d ih =>
    intro k j a b c hk
    obtain ⟨k, rfl⟩ : ∃ m, k = m + 1 := ⟨k - 1, by omega⟩
    have hlt : j < en := by omega
    have m := mul_bd (a := j - on) (b := on - last) (A := 12000) (B := 48000) (by omega) (by omega) (by omega) h4
    simp only [linkboylaw11_RoundAvoids.l0]
    rw [if_pos hlt]
    have e : wrap64 ((wrap64 ((j - on) * (on - last) + wrap64 (j - last))) - wrap64 (j - on)) = (j + 1 - on) * (on - last) := by
      rw [wrap_id (x := j - last) (by omega) (by omega), wrap_id (x := j - on) (by omega) (by omega)]
      have e2 : (j + 1 - on) * (on - last) = (j - on) * (on - last) + (on - last) := by
        rw [show j + 1 - on = (j - on) + 1 by omega, Int.add_mul, Int.one_mul]
      rw [e2]
      generalize (j - on) * (on - last) = z at m
      rw [wrap_id (x := z + (j - last)) (by omega) (by omega), wrap_id (by omega) (by omega)]
      omega
    rw [e, wrap_id (x := j + 1) (by omega) (by omega)]
    exact ih k (j + 1) (by omega) (by omega) (by omega) (by omega)
theorem avoids_pure (l0 : List S73) (l1 : List Int) (first days a1 a2 : Int) (hs : ∀ x ∈ l0, x.f0.size ≤ 9223372036854775807) : ∃ k, linkboylaw11_RoundAvoids.f k l0 l1 first days a1 a2 = some true := by
  have hb : round_Benefit.f l0 l1 first days a1 a2 = some (benefitF l0 l1 first days a1 a2) := by
    unfold round_Benefit.f
    rw [if_pos (List.all_eq_true.2 fun x hx => by simpa using hs x hx)]
  refine ⟨12100, ?_⟩
  unfold linkboylaw11_RoundAvoids.f
  rw [hb, Option.bind_some]
  by_cases he : (benefitF l0 l1 first days a1 a2).2 = 0
  · rw [if_pos he]
    have hP : (progF l0 l1 first days).2 = 0 ∧ outB a1 0 ((l0.length : Int) - 1) = false ∧ outB a2 0 ((l1.length : Int) - 1) = false ∧ (benefitF l0 l1 first days a1 a2).1 = benV l0 l1 first days l0[a1.toNat]! a2 := by
      unfold benefitF at he ⊢
      split at he
      · rename_i hp
        split at he
        · cases he
        · rename_i h1
          split at he
          · cases he
          · rename_i h2
            exact ⟨hp, by simpa using h1, by simpa using h2, by rw [if_pos hp, if_neg h1, if_neg h2]⟩
      · rename_i hp
        exact absurd he hp
    obtain ⟨hp, ho1, ho2, hv⟩ := hP
    have ok := progOk hp
    obtain ⟨i0, i1⟩ := outB_false ho1
    obtain ⟨p0, p1⟩ := outB_false ho2
    obtain ⟨i, rfl⟩ : ∃ i : Nat, a1 = (i : Int) := ⟨a1.toNat, by omega⟩
    rw [Int.toNat_natCast] at hv
    have hi : i < l0.length := by omega
    have hx := ok.asset hi
    have hl := ok.len1; have d0 := ok.d0; have d1 := ok.d1; have f0 := ok.f0; have f1 := ok.f1
    obtain ⟨hben, b1, b2, b3, b4, b5, b6, b7, b8, b9, b10⟩ := benV_eq ok hx p0 p1
    have hrd : rd_T73 l0 (i : Int) = l0[i]! := by
      unfold rd_T73
      rw [Int.toNat_natCast, List.getElem!_eq_getElem?_getD]
      rfl
    rw [if_neg (by omega), if_neg (by omega), if_neg (by omega), if_neg (by omega), if_neg (by omega), decide_eq_false (by omega)]
    simp only [linkboylaw11_RoundAvoids.j0]
    rw [if_neg (by decide), if_pos i0, if_pos (by omega), hrd, hv, hben]
    generalize l0[i]! = x at *
    have hx0 := hx.l0; have hx1 := hx.l1; have hr0 := hx.r0; have hr1 := hx.r1; have hh0 := hx.h0; have hh1 := hx.h1
    have hen : (l1.length : Int) * days = ((l1.length : Int) - a2) * days + a2 * days := by rw [← Int.add_mul]; congr 1; omega
    rw [wrap_id (x := a2 * days) (by omega) (by omega), wrap_id (x := first + a2 * days) (by omega) (by omega), wrap_id (x := (l1.length : Int) * days) (by omega) (by omega), wrap_id (x := first + (l1.length : Int) * days) (by omega) (by omega)]
    have hloop := avoids_loop (n := Int.tdiv (((l1.length : Int) - a2) * days * (first + a2 * days - x.f4) * (x.f2 * x.f3)) 1000000000) (on := first + a2 * days) (en := first + (l1.length : Int) * days) (last := x.f4) (cost := x.f1) (rate := x.f2) (harm := x.f3) (nm := x.f0)
      (by omega) (by omega) hx0 (by omega) (by omega) (by omega) (((l1.length : Int) - a2) * days).toNat 12099 (first + a2 * days) (by omega) (by omega) (by omega) (by omega)
    rw [Int.sub_self, Int.zero_mul] at hloop
    rw [hloop, if_pos]
    have hd : first + (l1.length : Int) * days - (first + a2 * days) = ((l1.length : Int) - a2) * days := by omega
    rw [hd]
    have m6 := mul_bd (a := ((l1.length : Int) - a2) * days * (first + a2 * days - x.f4)) (b := x.f2) (A := 576000000) (B := 1000) b7 b8 hr0 hr1
    rw [wrap_id (x := ((l1.length : Int) - a2) * days * (first + a2 * days - x.f4) * x.f2) (by omega) (by omega), Int.mul_assoc (((l1.length : Int) - a2) * days * (first + a2 * days - x.f4)) x.f2 x.f3]
    generalize ((l1.length : Int) - a2) * days * (first + a2 * days - x.f4) * (x.f2 * x.f3) = z at *
    rw [wrap_id (x := z) (by omega) (by omega), Int.tdiv_eq_ediv_of_nonneg b9, wrap_id (by omega) (by omega)]
  · rw [if_neg he]
    simp only [linkboylaw11_RoundAvoids.j0]
    rw [if_pos trivial, if_neg he]
    rfl
end Go.Proofs.YtfoaglfnnomdkaaGreatDoor.C
