/- math/bits.Div64 is the division of a number of two words by one word: plain law over the printed function (Knuth's two digits). -/
import Derived.Test.YtfoaglfnnomdkaaGreatDoorCx121
set_option linter.all false
namespace Go.Proofs.YtfoaglfnnomdkaaGreatDoor.C
open Go.RowKit Go.Proofs.YtfoaglfnnomdkaaGreatDoorW.PrintWords Go.Proofs.YtfoaglfnnomdkaaGreatDoorW.PrintMore

theorem le_of_mul (q Q Y N : Int) (hY : 0 < Y) (h1 : q * Y ≤ N) (h2 : N < (Q + 1) * Y) : q ≤ Q := by
  refine Int.not_lt.1 fun h => ?_
  have h3 : (Q + 1) * Y ≤ q * Y := Int.mul_le_mul_of_nonneg_right (by omega) (by omega)
  omega
theorem lt_of_mul (q Q Y N : Int) (hY : 0 < Y) (h1 : N < q * Y) (h2 : Q * Y ≤ N) : Q < q := by
  refine Int.not_le.1 fun h => ?_
  have h3 : q * Y ≤ Q * Y := Int.mul_le_mul_of_nonneg_right (by omega) (by omega)
  omega

/-- One digit of the quotient: what is known of a divisor of two half words, and of what is divided. -/
structure Digit (Y y1 y0 U d Q : Int) : Prop where
  hY : Y = y1 * 4294967296 + y0
  h0 : 0 ≤ y0
  h0' : y0 < 4294967296
  h1 : 2147483648 ≤ y1
  h1' : y1 < 4294967296
  hU : 0 ≤ U
  hU' : U < Y
  hd : 0 ≤ d
  hd' : d < 4294967296
  hQ : Q * Y ≤ U * 4294967296 + d
  hQ' : U * 4294967296 + d < (Q + 1) * Y
  hQ0 : 0 ≤ Q
  hQB : Q < 4294967296

theorem Digit.mk' {Y y1 y0 U d : Int} (hY : Y = y1 * 4294967296 + y0) (h0 : 0 ≤ y0) (h0' : y0 < 4294967296) (h1 : 2147483648 ≤ y1) (h1' : y1 < 4294967296)
    (hU : 0 ≤ U) (hU' : U < Y) (hd : 0 ≤ d) (hd' : d < 4294967296) : Digit Y y1 y0 U d ((U * 4294967296 + d) / Y) := by
  have hYp : 0 < Y := by omega
  refine ⟨hY, h0, h0', h1, h1', hU, hU', hd, hd', Int.ediv_mul_le _ (by omega), Int.lt_ediv_add_one_mul_self _ hYp, Int.ediv_nonneg (by omega) (by omega), ?_⟩
  refine Int.ediv_lt_of_lt_mul hYp ?_
  omega

/-- What the estimate's test asks. -/
theorem Digit.test {Y y1 y0 U d Q q r : Int} (D : Digit Y y1 y0 U d Q) (hi : q * y1 + r = U) : q * Y = (U - r) * 4294967296 + q * y0 := by
  have e : q * Y = q * y1 * 4294967296 + q * y0 := by rw [D.hY, Int.mul_add, Int.mul_assoc]
  rw [e]
  have : q * y1 = U - r := by omega
  rw [this]

theorem Digit.stop {Y y1 y0 U d Q q r : Int} (D : Digit Y y1 y0 U d Q) (hi : q * y1 + r = U) (hq : Q ≤ q) (ht : q * y0 ≤ 4294967296 * r + d) : q = Q := by
  have e := D.test hi
  have : q ≤ Q := le_of_mul q Q Y _ (by have := D.hU; have := D.hU'; omega) (by rw [e]; omega) D.hQ'
  omega
theorem Digit.go {Y y1 y0 U d Q q r : Int} (D : Digit Y y1 y0 U d Q) (hi : q * y1 + r = U) (ht : 4294967296 ≤ q ∨ 4294967296 * r + d < q * y0) : Q < q := by
  rcases ht with ht | ht
  · have := D.hQB; omega
  · have e := D.test hi
    exact lt_of_mul q Q Y _ (by have := D.hU; have := D.hU'; omega) (by rw [e]; omega) D.hQ
theorem Digit.brk {Y y1 y0 U d Q q r : Int} (D : Digit Y y1 y0 U d Q) (hi : q * y1 + r = U) (hq : Q ≤ q) (hqB : q ≤ 4294967296) (hr : 4294967296 ≤ r) : q = Q := by
  refine D.stop hi hq ?_
  have h1 : q * y0 ≤ 4294967296 * y0 := Int.mul_le_mul_of_nonneg_right hqB D.h0
  have := D.h0'; have := D.hd
  omega
/-- The first estimate is at most two too great. -/
theorem Digit.first {Y y1 y0 U d Q : Int} (D : Digit Y y1 y0 U d Q) : Q ≤ U / y1 ∧ U / y1 ≤ 4294967297 ∧ U / y1 * y1 + U % y1 = U ∧ 0 ≤ U % y1 ∧ U % y1 < y1 := by
  have p1 : 0 < y1 := by have := D.h1; omega
  have e : U / y1 * y1 + U % y1 = U := by have := Int.mul_ediv_add_emod U y1; rw [Int.mul_comm] at this; exact this
  refine ⟨?_, ?_, e, Int.emod_nonneg _ (by omega), Int.emod_lt_of_pos _ p1⟩
  · refine Int.not_lt.1 fun h => ?_
    have t := D.test e
    have e3 : (U / y1 + 1) * Y ≤ Q * Y := Int.mul_le_mul_of_nonneg_right (by omega) (by have := D.hU; have := D.hU'; omega)
    have e4 : (U / y1 + 1) * Y = U / y1 * Y + Y := by rw [Int.add_mul, Int.one_mul]
    have e5 : 0 ≤ U / y1 * y0 := Int.mul_nonneg (Int.ediv_nonneg D.hU (by omega)) D.h0
    have := D.hQ; have := D.hd'; have := D.hY; have := D.h0; have := Int.emod_lt_of_pos U p1
    omega
  · have : U < 4294967298 * y1 := by have := D.hU'; have := D.hY; have := D.h0'; have := D.h1; omega
    have := Int.ediv_lt_of_lt_mul p1 this
    omega

/-- The first loop finds the first digit. -/
theorem l0_finds {Y s y1 y0 U d u0 Q : Int} (D : Digit Y y1 y0 U d Q) (K : Nat) (R : Option (Int × Int)) (hR : ∀ k, K ≤ k → bits_Div64.j2 k Y s y1 y0 U d u0 Q = R) :
    ∀ (t k : Nat) (q r : Int), K + 2 * t ≤ k → 4294967296 - r ≤ t * 2147483648 → 0 ≤ r → r < 4294967296 → q * y1 + r = U → Q ≤ q → q ≤ 4294967297 → bits_Div64.l0 k Y s y1 y0 U d u0 q r = R := by
  intro t
  induction t with
  | zero => intro k q r _ h2 _ h4; omega
  | succ t ih =>
    intro k q r hk h2 h3 h4 hi hq hq2
    obtain ⟨k, rfl⟩ : ∃ m, k = m + 2 := ⟨k - 2, by omega⟩
    have hY1 := D.h1; have hY2 := D.h1'; have hz0 := D.h0; have hz1 := D.h0'; have hd0 := D.hd; have hd1 := D.hd'; have hq0 := D.hQ0
    -- the way on
    have next : Q < q → bits_Div64.j1 (k + 1) Y s y1 y0 U d u0 q r true = R := by
      intro hlt
      have hi' : (q - 1) * y1 + (r + y1) = U := by rw [Int.sub_mul, Int.one_mul]; omega
      have w1 : IntKind.u64.wrap (r + y1) = r + y1 := by rw [IntKind.wrap_u64]; omega
      have w2 : IntKind.u64.wrap (q - 1) = q - 1 := by rw [IntKind.wrap_u64]; omega
      simp only [bits_Div64.j1, w1, w2, if_true]
      by_cases hb : r + y1 ≥ 4294967296
      · rw [if_pos hb, D.brk hi' (by omega) (by omega) hb]
        exact hR _ (by omega)
      · rw [if_neg hb]
        exact ih k (q - 1) (r + y1) (by omega) (by omega) (by omega) (by omega) hi' (by omega) (by omega)
    simp only [bits_Div64.l0]
    by_cases hb : q ≥ 4294967296
    · rw [if_pos hb]
      exact next (D.go hi (.inl hb))
    · rw [if_neg hb]
      have hm : 0 ≤ q * y0 ∧ q * y0 ≤ 4294967295 * 4294967295 := ⟨Int.mul_nonneg (by omega) hz0, Int.mul_le_mul (by omega) (by omega) hz0 (by omega)⟩
      have w1 : IntKind.u64.wrap (q * y0) = q * y0 := by rw [IntKind.wrap_u64]; omega
      have w2 : IntKind.u64.wrap (4294967296 * r) = 4294967296 * r := by rw [IntKind.wrap_u64]; omega
      have w3 : IntKind.u64.wrap (4294967296 * r + d) = 4294967296 * r + d := by rw [IntKind.wrap_u64]; omega
      rw [w1, w2, w3]
      by_cases ht : q * y0 > 4294967296 * r + d
      · rw [decide_eq_true ht]
        exact next (D.go hi (.inr ht))
      · rw [decide_eq_false ht, D.stop hi hq (by omega)]
        simp only [bits_Div64.j1, Bool.false_eq_true, if_false]
        exact hR _ (by omega)

/-- The second loop finds the second digit. -/
theorem l1_finds {Y s y1 y0 U d Q q1 : Int} (D : Digit Y y1 y0 U d Q) (hs : 0 ≤ s) (R : Option (Int × Int))
    (hR : some (IntKind.u64.wrap ((IntKind.u64.wrap (q1 * 4294967296)) + Q), shr .u64 (IntKind.u64.wrap ((IntKind.u64.wrap ((IntKind.u64.wrap (U * 4294967296)) + d)) - (IntKind.u64.wrap (Q * Y)))) s) = R) :
    ∀ (t k : Nat) (q r : Int), 2 * t ≤ k → 4294967296 - r ≤ t * 2147483648 → 0 ≤ r → r < 4294967296 → q * y1 + r = U → Q ≤ q → q ≤ 4294967297 → bits_Div64.l1 k Y s y1 y0 d q1 r U q = R := by
  intro t
  induction t with
  | zero => intro k q r _ h2 _ h4; omega
  | succ t ih =>
    intro k q r hk h2 h3 h4 hi hq hq2
    obtain ⟨k, rfl⟩ : ∃ m, k = m + 2 := ⟨k - 2, by omega⟩
    have hY1 := D.h1; have hY2 := D.h1'; have hz0 := D.h0; have hz1 := D.h0'; have hd0 := D.hd; have hd1 := D.hd'; have hq0 := D.hQ0
    have next : Q < q → bits_Div64.j4 (k + 1) Y s y1 y0 d q1 r U q true = R := by
      intro hlt
      have hi' : (q - 1) * y1 + (r + y1) = U := by rw [Int.sub_mul, Int.one_mul]; omega
      have w1 : IntKind.u64.wrap (r + y1) = r + y1 := by rw [IntKind.wrap_u64]; omega
      have w2 : IntKind.u64.wrap (q - 1) = q - 1 := by rw [IntKind.wrap_u64]; omega
      simp only [bits_Div64.j4, w1, w2, if_true]
      by_cases hb : r + y1 ≥ 4294967296
      · rw [if_pos hb, if_pos hs, D.brk hi' (by omega) (by omega) hb]
        exact hR
      · rw [if_neg hb]
        exact ih k (q - 1) (r + y1) (by omega) (by omega) (by omega) (by omega) hi' (by omega) (by omega)
    simp only [bits_Div64.l1]
    by_cases hb : q ≥ 4294967296
    · rw [if_pos hb]
      exact next (D.go hi (.inl hb))
    · rw [if_neg hb]
      have hm : 0 ≤ q * y0 ∧ q * y0 ≤ 4294967295 * 4294967295 := ⟨Int.mul_nonneg (by omega) hz0, Int.mul_le_mul (by omega) (by omega) hz0 (by omega)⟩
      have w1 : IntKind.u64.wrap (q * y0) = q * y0 := by rw [IntKind.wrap_u64]; omega
      have w2 : IntKind.u64.wrap (4294967296 * r) = 4294967296 * r := by rw [IntKind.wrap_u64]; omega
      have w3 : IntKind.u64.wrap (4294967296 * r + d) = 4294967296 * r + d := by rw [IntKind.wrap_u64]; omega
      rw [w1, w2, w3]
      by_cases ht : q * y0 > 4294967296 * r + d
      · rw [decide_eq_true ht]
        exact next (D.go hi (.inr ht))
      · rw [decide_eq_false ht, D.stop hi hq (by omega)]
        simp only [bits_Div64.j4, Bool.false_eq_true, if_false]
        rw [if_pos hs]
        exact hR
end Go.Proofs.YtfoaglfnnomdkaaGreatDoor.C
