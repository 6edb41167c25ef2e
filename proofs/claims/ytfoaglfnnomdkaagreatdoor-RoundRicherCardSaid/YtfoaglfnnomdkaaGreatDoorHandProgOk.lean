/- A programme that is valid: its bounds; its benefits without the wraps. -/
import Derived.Test.YtfoaglfnnomdkaaGreatDoorHandProg
set_option linter.all false
namespace Go.Proofs.YtfoaglfnnomdkaaGreatDoor.C
open Go.RowKit Go.Proofs.YtfoaglfnnomdkaaGreatDoorW.PrintWords Go.Proofs.YtfoaglfnnomdkaaGreatDoorW.PrintMore

theorem wrap_id {x : Int} (h0 : -9223372036854775808 ≤ x) (h1 : x ≤ 9223372036854775807) : wrap64 x = x := by
  unfold wrap64
  omega
theorem mul_bd {a b A B : Int} (a0 : 0 ≤ a) (a1 : a ≤ A) (b0 : 0 ≤ b) (b1 : b ≤ B) : 0 ≤ a * b ∧ a * b ≤ A * B :=
  ⟨Int.mul_nonneg a0 b0, Int.mul_le_mul a1 b1 b0 (Int.le_trans a0 a1)⟩
theorem namedF_ok {α : Type} [Inhabited α] {nm : α → ByteArray} {rest : α → Int} {l : List α} : ∀ k i, i + k = l.length → (namedF nm rest l k i).2 = 0 → ∀ j, i ≤ j → j < l.length → errAt nm rest l j l[j]! = 0 := by
  intro k
  induction k with
  | zero => intro i hi _ j h1 h2; omega
  | succ k ih =>
    intro i hi h j h1 h2
    rw [namedF] at h
    split at h
    · rename_i h0
      by_cases e : j = i
      · subst e; exact h0
      · exact ih (i + 1) (by omega) h j (by omega) h2
    · rename_i h0
      exact absurd h h0
theorem errAt_rest {α : Type} {nm : α → ByteArray} {rest : α → Int} {l : List α} {i : Nat} {x : α} (h : errAt nm rest l i x = 0) : rest x = 0 := by
  unfold errAt at h
  split at h
  · omega
  · split at h
    · omega
    · exact h
/-- A programme that is valid. -/
structure ProgOk (l0 : List S73) (l1 : List Int) (first days : Int) : Prop where
  len0 : l0.length ≤ 6
  len1 : l1.length ≤ 3
  f0 : 0 ≤ first
  f1 : first ≤ 40000
  d0 : 1 ≤ days
  d1 : days ≤ 4000
  bud : ∀ n ∈ l1, 0 ≤ n ∧ n ≤ 10000000
  err : ∀ j, j < l0.length → errAt S73.f0 (restProg first) l0 j l0[j]! = 0
theorem progOk {l0 : List S73} {l1 : List Int} {first days : Int} (h : (progF l0 l1 first days).2 = 0) : ProgOk l0 l1 first days := by
  unfold progF at h
  split at h
  · cases h
  split at h
  · cases h
  split at h
  · cases h
  split at h
  · cases h
  split at h
  · cases h
  rename_i h1 h2 h3 h4 h5
  obtain ⟨a0, a1⟩ := outB_false (by simpa using h3)
  obtain ⟨b0, b1⟩ := outB_false (by simpa using h4)
  refine ⟨by omega, by omega, a0, a1, b0, b1, fun n hn => ?_, fun j hj => namedF_ok _ _ (by omega) h j (by omega) hj⟩
  simp only [List.any_eq_true, not_exists, not_and] at h5
  have := h5 n hn
  exact outB_false (by simpa using this)
structure AssetOk (first : Int) (x : S73) : Prop where
  c0 : 0 ≤ x.f1
  c1 : x.f1 ≤ 1000000
  r0 : 0 ≤ x.f2
  r1 : x.f2 ≤ 1000
  h0 : 0 ≤ x.f3
  h1 : x.f3 ≤ 10000000
  l0 : 0 ≤ x.f4
  l1 : x.f4 ≤ first
theorem ProgOk.asset {l0 : List S73} {l1 : List Int} {first days : Int} (h : ProgOk l0 l1 first days) {j : Nat} (hj : j < l0.length) : AssetOk first l0[j]! := by
  have hr := errAt_rest (h.err j hj)
  generalize l0[j]! = x at hr
  unfold restProg at hr
  split at hr
  · cases hr
  rename_i hn
  simp only [Bool.or_eq_true, not_or, Bool.not_eq_true] at hn
  obtain ⟨⟨⟨h1, h2⟩, h3⟩, h4⟩ := hn
  have h1 := outB_false h1
  have h2 := outB_false h2
  have h3 := outB_false h3
  have h4 := outB_false h4
  exact ⟨h1.1, h1.2, h2.1, h2.2, h3.1, h3.2, h4.1, h4.2⟩
/-- The benefit, without the wraps. -/
theorem benV_eq {l0 : List S73} {l1 : List Int} {first days : Int} (h : ProgOk l0 l1 first days) {x : S73} (hx : AssetOk first x) {p : Int} (p0 : 0 ≤ p) (p1 : p ≤ (l1.length : Int) - 1) :
    benV l0 l1 first days x p = Int.tdiv (((l1.length : Int) - p) * days * (first + p * days - x.f4) * (x.f2 * x.f3)) 1000000000 ∧
    0 ≤ ((l1.length : Int) - p) * days ∧ ((l1.length : Int) - p) * days ≤ 12000 ∧ 0 ≤ p * days ∧ p * days ≤ 8000 ∧ 0 ≤ x.f2 * x.f3 ∧ x.f2 * x.f3 ≤ 10000000000 ∧
    0 ≤ ((l1.length : Int) - p) * days * (first + p * days - x.f4) ∧ ((l1.length : Int) - p) * days * (first + p * days - x.f4) ≤ 576000000 ∧
    0 ≤ ((l1.length : Int) - p) * days * (first + p * days - x.f4) * (x.f2 * x.f3) ∧ ((l1.length : Int) - p) * days * (first + p * days - x.f4) * (x.f2 * x.f3) ≤ 5760000000000000000 := by
  have hl := h.len1
  have hd0 := h.d0; have hd1 := h.d1; have hf0 := h.f0; have hf1 := h.f1
  have hr0 := hx.r0; have hr1 := hx.r1; have hh0 := hx.h0; have hh1 := hx.h1; have hl0 := hx.l0; have hl1 := hx.l1
  have m1 := mul_bd (a := (l1.length : Int) - p) (b := days) (A := 3) (B := 4000) (by omega) (by omega) (by omega) hd1
  have m2 := mul_bd (a := p) (b := days) (A := 2) (B := 4000) p0 (by omega) (by omega) hd1
  have m3 := mul_bd (a := x.f2) (b := x.f3) (A := 1000) (B := 10000000) hr0 hr1 hh0 hh1
  have m4 := mul_bd (a := ((l1.length : Int) - p) * days) (b := first + p * days - x.f4) (A := 12000) (B := 48000) m1.1 (by omega) (by omega) (by omega)
  have m5 := mul_bd (a := ((l1.length : Int) - p) * days * (first + p * days - x.f4)) (b := x.f2 * x.f3) (A := 576000000) (B := 10000000000) m4.1 (by omega) m3.1 (by omega)
  refine ⟨?_, m1.1, by omega, m2.1, by omega, m3.1, by omega, m4.1, by omega, m5.1, by omega⟩
  show wrap64 _ = _
  rw [wrap_id (x := (l1.length : Int) - p) (by omega) (by omega), wrap_id (x := ((l1.length : Int) - p) * days) (by omega) (by omega), wrap_id (x := p * days) (by omega) (by omega), wrap_id (x := first + p * days) (by omega) (by omega),
    wrap_id (x := first + p * days - x.f4) (by omega) (by omega), wrap_id (x := ((l1.length : Int) - p) * days * (first + p * days - x.f4)) (by omega) (by omega), wrap_id (x := x.f2 * x.f3) (by omega) (by omega),
    wrap_id (x := ((l1.length : Int) - p) * days * (first + p * days - x.f4) * (x.f2 * x.f3)) (by omega) (by omega)]
  have m5' := m5
  generalize ((l1.length : Int) - p) * days * (first + p * days - x.f4) * (x.f2 * x.f3) = z at m5'
  rw [Int.tdiv_eq_ediv_of_nonneg m5'.1]
  exact wrap_id (by omega) (by omega)
end Go.Proofs.YtfoaglfnnomdkaaGreatDoor.C
