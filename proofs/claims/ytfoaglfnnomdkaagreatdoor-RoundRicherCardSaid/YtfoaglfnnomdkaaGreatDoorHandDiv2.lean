/- math/bits.Div64: the quotient and the rest of a number of two words, by one word. -/
import Derived.Test.YtfoaglfnnomdkaaGreatDoorCx121
import Derived.Test.YtfoaglfnnomdkaaGreatDoorHandDiv
import Derived.Laws.Bits64b
import Derived.Lib.BitFns
set_option linter.all false
namespace Go.Proofs.YtfoaglfnnomdkaaGreatDoor.C
open Go.RowKit Go.Proofs.YtfoaglfnnomdkaaGreatDoorW.PrintWords Go.Proofs.YtfoaglfnnomdkaaGreatDoorW.PrintMore

theorem bitLen_spec : ∀ x : Nat, x ≠ 0 → x < 2 ^ 64 → 2 ^ (Lib.bitLen x) ≤ 2 * x ∧ x < 2 ^ (Lib.bitLen x) := by
  intro x
  induction x using Nat.strongRecOn with
  | ind x ih =>
    intro h0 h
    rw [Lib.bitLen_half x h0 h]
    by_cases h1 : x / 2 = 0
    · have : x = 1 := by omega
      subst this
      decide
    · obtain ⟨a, b⟩ := ih (x / 2) (by omega) h1 (by omega)
      rw [Nat.pow_add]
      omega

theorem div64_small (k : Nat) (lo y : Int) (hy0 : 0 < y) (hy : y < 18446744073709551616) (l0 : 0 ≤ lo) (l1 : lo < 18446744073709551616) :
    bits_Div64.f k 0 lo y = some (lo / y, lo % y) := by
  unfold bits_Div64.f
  rw [if_neg (by omega), if_neg (by omega), if_pos rfl]
  have h1 : lo / y ≤ lo := Int.ediv_le_self _ l0
  have h2 : 0 ≤ lo / y := Int.ediv_nonneg l0 (by omega)
  rw [Int.tdiv_eq_ediv_of_nonneg l0, Int.tmod_eq_emod_of_nonneg l0, IntKind.wrap_u64, Int.emod_eq_of_lt h2 (by omega)]

theorem and_mask (x : Int) (h0 : 0 ≤ x) (h1 : x < 18446744073709551616) : Go.bits .and .u64 x 4294967295 = x % 4294967296 := by
  obtain ⟨n, rfl⟩ := Int.eq_ofNat_of_zero_le h0
  have h := bits_and_u64_nat n 4294967295 (by omega) (by omega)
  have h2 := Nat.and_two_pow_sub_one_eq_mod n 32
  have h3 : n &&& 4294967295 = n % 4294967296 := h2
  rw [h3] at h
  exact h
theorem or_parts (a b : Int) (s : Nat) (ha : 0 ≤ a) (hb : 0 ≤ b) (hb' : b < 2 ^ s) (hab : a * 2 ^ s < 18446744073709551616) (hbm : b < 18446744073709551616) : Go.bits .or .u64 (a * 2 ^ s) b = a * 2 ^ s + b := by
  obtain ⟨n, rfl⟩ := Int.eq_ofNat_of_zero_le ha
  obtain ⟨m, rfl⟩ := Int.eq_ofNat_of_zero_le hb
  have e : (n : Int) * 2 ^ s = ((n * 2 ^ s : Nat) : Int) := by rw [Int.natCast_mul, Int.natCast_pow]; rfl
  have hm : m < 2 ^ s := by
    have : ((2 ^ s : Nat) : Int) = (2 : Int) ^ s := by rw [Int.natCast_pow]; rfl
    omega
  rw [e] at hab ⊢
  rw [bits_or_u64_nat _ _ (by omega) (by omega)]
  have h := Nat.shiftLeft_add_eq_or_of_lt hm n
  rw [Nat.shiftLeft_eq] at h
  rw [← h]
  omega

theorem shl_is (x : Int) (s : Nat) (hs : s ≤ 64) : shl .u64 x (s : Int) = x * 2 ^ s % 18446744073709551616 := by
  unfold shl
  rw [IntKind.wrap_u64, Int.toNat_natCast, Nat.min_eq_left (by exact hs)]
theorem shr_is (x : Int) (s : Nat) (hs : s ≤ 64) : shr .u64 x (s : Int) = x / 2 ^ s := by
  unfold shr
  rw [Int.toNat_natCast, Nat.min_eq_left (by exact hs)]

theorem Digit.rest {Y y1 y0 U d Q : Int} (D : Digit Y y1 y0 U d Q) : IntKind.u64.wrap ((IntKind.u64.wrap ((IntKind.u64.wrap (U * 4294967296)) + d)) - (IntKind.u64.wrap (Q * Y))) = U * 4294967296 + d - Q * Y ∧ 0 ≤ U * 4294967296 + d - Q * Y ∧ U * 4294967296 + d - Q * Y < Y := by
  have h1 := D.hQ; have h2 := D.hQ'; have h3 := D.hY; have h4 := D.h1; have h5 := D.h1'; have h6 := D.h0; have h7 := D.h0'
  have e : (Q + 1) * Y = Q * Y + Y := by rw [Int.add_mul, Int.one_mul]
  rw [IntKind.wrap_u64, IntKind.wrap_u64, IntKind.wrap_u64, IntKind.wrap_u64]
  refine ⟨?_, by omega, by omega⟩
  omega

set_option maxRecDepth 4000 in
theorem div64_great (k : Nat) (hk : 20 ≤ k) (hi lo y : Int) (h0 : 0 < hi) (h1 : hi < y) (hy : y < 18446744073709551616) (l0 : 0 ≤ lo) (l1 : lo < 18446744073709551616) :
    bits_Div64.f k hi lo y = some ((hi * 18446744073709551616 + lo) / y, (hi * 18446744073709551616 + lo) % y) := by
  obtain ⟨yn, rfl⟩ := Int.eq_ofNat_of_zero_le (show 0 ≤ y by omega)
  obtain ⟨b1, b2⟩ := bitLen_spec yn (by omega) (by omega)
  have b3 : Lib.bitLen yn ≤ 64 := Lib.bitLen_le yn 64 (by omega) (by omega)
  generalize hL : Lib.bitLen yn = L at b1 b2 b3
  have hLpos : 0 < L := by
    rcases Nat.eq_zero_or_pos L with h | h
    · subst h; omega
    · exact h
  obtain ⟨s, hs⟩ : ∃ s, s + L = 64 := ⟨64 - L, by omega⟩
  have hp : (2 : Int) ^ s * 2 ^ L = 18446744073709551616 := by rw [← Int.pow_add, hs]; rfl
  have hpp : (0 : Int) < 2 ^ s := Int.pow_pos (by omega)
  have hqp : (0 : Int) < 2 ^ L := Int.pow_pos (by omega)
  have c1 : (2 : Int) ^ L ≤ 2 * yn := by
    have : ((2 ^ L : Nat) : Int) = (2 : Int) ^ L := by rw [Int.natCast_pow]; rfl
    omega
  have c2 : (yn : Int) < 2 ^ L := by
    have : ((2 ^ L : Nat) : Int) = (2 : Int) ^ L := by rw [Int.natCast_pow]; rfl
    omega
  have hlz : bits_LeadingZeros64.f (yn : Int) = some (s : Int) := by
    unfold bits_LeadingZeros64.f
    rw [if_pos (by omega), Int.toNat_natCast, hL]
    congr 1
    omega
  have hsw : IntKind.u64.wrap (s : Int) = (s : Int) := by rw [IntKind.wrap_u64]; omega
  have hLw : IntKind.u64.wrap (64 - (s : Int)) = (L : Int) := by rw [IntKind.wrap_u64]; omega
  -- the divisor, moved to the left
  have m1 : (yn : Int) * 2 ^ s < 18446744073709551616 := by rw [← hp, Int.mul_comm]; exact Int.mul_lt_mul_of_pos_left c2 hpp
  have m2 : 9223372036854775808 ≤ (yn : Int) * 2 ^ s := by
    have : (2 : Int) ^ s * 2 ^ L ≤ 2 ^ s * (2 * yn) := Int.mul_le_mul_of_nonneg_left c1 (by omega)
    have e : (2 : Int) ^ s * (2 * yn) = 2 * (yn * 2 ^ s) := by grind
    omega
  -- what is divided, moved to the left
  have m3 : hi * 2 ^ s ≤ (yn - 1) * 2 ^ s := Int.mul_le_mul_of_nonneg_right (by omega) (by omega)
  have m3' : ((yn : Int) - 1) * 2 ^ s = yn * 2 ^ s - 2 ^ s := by rw [Int.sub_mul, Int.one_mul]
  have m4 : 0 ≤ hi * 2 ^ s := Int.mul_nonneg (by omega) (by omega)
  have d1 : lo / 2 ^ L < 2 ^ s := Int.ediv_lt_of_lt_mul hqp (by rw [hp]; exact l1)
  have d2 : 0 ≤ lo / 2 ^ L := Int.ediv_nonneg l0 (by omega)
  have d3 : lo = 2 ^ L * (lo / 2 ^ L) + lo % 2 ^ L := (Int.mul_ediv_add_emod lo (2 ^ L)).symm
  have d4 : 0 ≤ lo % 2 ^ L := Int.emod_nonneg _ (by omega)
  have d5 : lo % 2 ^ L < 2 ^ L := Int.emod_lt_of_pos _ hqp
  have d6 : lo % 2 ^ L * 2 ^ s < 18446744073709551616 := by rw [← hp, Int.mul_comm]; exact Int.mul_lt_mul_of_pos_left d5 hpp
  have d7 : 0 ≤ lo % 2 ^ L * 2 ^ s := Int.mul_nonneg d4 (by omega)
  have d8 : lo * 2 ^ s = lo / 2 ^ L * 18446744073709551616 + lo % 2 ^ L * 2 ^ s := by
    have : lo * 2 ^ s = (2 ^ L * (lo / 2 ^ L) + lo % 2 ^ L) * 2 ^ s := by rw [← d3]
    rw [this, ← hp]
    grind
  have d9 : lo * 2 ^ s % 18446744073709551616 = lo % 2 ^ L * 2 ^ s := by
    rw [d8]
    generalize lo % 2 ^ L * 2 ^ s = z at *
    generalize lo / 2 ^ L = z2 at *
    omega
  have hbig : (hi * 18446744073709551616 + lo) * 2 ^ s = (hi * 2 ^ s + lo / 2 ^ L) * 18446744073709551616 + lo % 2 ^ L * 2 ^ s := by
    have : (hi * 18446744073709551616 + lo) * 2 ^ s = hi * 2 ^ s * 18446744073709551616 + lo * 2 ^ s := by grind
    rw [this, d8]
    grind
  have hor : Go.bits .or .u64 (shl .u64 hi (s : Int)) (shr .u64 lo (L : Int)) = hi * 2 ^ s + lo / 2 ^ L := by
    rw [shl_is hi s (by omega), shr_is lo L (by omega), Int.emod_eq_of_lt m4 (by omega)]
    exact or_parts hi _ s (by omega) d2 d1 (by omega) (by omega)
  have hshy : shl .u64 (yn : Int) (s : Int) = yn * 2 ^ s := by rw [shl_is _ s (by omega), Int.emod_eq_of_lt (by omega) m1]
  have hshl : shl .u64 lo (s : Int) = lo % 2 ^ L * 2 ^ s := by rw [shl_is _ s (by omega), d9]
  unfold bits_Div64.f
  rw [if_neg (by omega), if_neg (by omega), if_neg (by omega), hlz]
  simp only [Option.bind_some]
  rw [hsw, if_pos (by omega), hLw, if_pos (by omega), hor, hshy, hshl]
  rw [and_mask _ (by omega) m1, and_mask _ d7 d6]
  -- names
  have hcast : (0 : Int) < yn := by omega
  generalize hU : hi * 2 ^ s + lo / 2 ^ L = U at *
  generalize hz : lo % 2 ^ L * 2 ^ s = z at *
  generalize hYe : (yn : Int) * 2 ^ s = Y at *
  generalize hNe : hi * 18446744073709551616 + lo = Nn at *
  have hUY : U < Y := by omega
  have hU0 : 0 ≤ U := by omega
  rw [if_neg (by omega)]
  have D := Digit.mk' (Y := Y) (y1 := Y / 4294967296) (y0 := Y % 4294967296) (U := U) (d := z / 4294967296) (by omega) (by omega) (by omega) (by omega) (by omega) hU0 hUY (by omega) (by omega)
  generalize hQ1 : (U * 4294967296 + z / 4294967296) / Y = Q1 at D
  obtain ⟨f1, f2, f3, f4, f5⟩ := D.first
  have r1 := D.rest
  generalize hX : U * 4294967296 + z / 4294967296 - Q1 * Y = X at r1
  have D2 := Digit.mk' (Y := Y) (y1 := Y / 4294967296) (y0 := Y % 4294967296) (U := X) (d := z % 4294967296) (by omega) (by omega) (by omega) (by omega) (by omega) r1.2.1 r1.2.2 (by omega) (by omega)
  generalize hQ2 : (X * 4294967296 + z % 4294967296) / Y = Q2 at D2
  obtain ⟨g1, g2, g3, g4, g5⟩ := D2.first
  have r2 := D2.rest
  generalize hX2 : X * 4294967296 + z % 4294967296 - Q2 * Y = X2 at r2
  -- the estimates as the code has them
  have est : ∀ V : Int, 0 ≤ V → V < 18446744073709551616 → IntKind.u64.wrap (Int.tdiv V (Y / 4294967296)) = V / (Y / 4294967296) ∧ IntKind.u64.wrap (V - IntKind.u64.wrap (V / (Y / 4294967296) * (Y / 4294967296))) = V % (Y / 4294967296) := by
    intro V v0 v1
    have e1 : V / (Y / 4294967296) ≤ V := Int.ediv_le_self _ v0
    have e2 : 0 ≤ V / (Y / 4294967296) := Int.ediv_nonneg v0 (by omega)
    have e3 := Int.mul_ediv_add_emod V (Y / 4294967296)
    have e4 : 0 ≤ V % (Y / 4294967296) := Int.emod_nonneg _ (by omega)
    have e5 : 0 ≤ V / (Y / 4294967296) * (Y / 4294967296) := Int.mul_nonneg e2 (by omega)
    rw [Int.tdiv_eq_ediv_of_nonneg v0, IntKind.wrap_u64, IntKind.wrap_u64, IntKind.wrap_u64, Int.emod_eq_of_lt e2 (by omega)]
    rw [Int.mul_comm] at e3
    refine ⟨rfl, ?_⟩
    generalize V / (Y / 4294967296) * (Y / 4294967296) = P at *
    generalize V % (Y / 4294967296) = W at *
    omega
  obtain ⟨s1, s2⟩ := est U hU0 (by omega)
  obtain ⟨s3, s4⟩ := est X r1.2.1 (by omega)
  rw [s1, s2]
  -- the number, by its digits
  have total : Nn * 2 ^ s = (Q1 * 4294967296 + Q2) * Y + X2 := by
    have t1 : U * 18446744073709551616 + z = (U * 4294967296 + z / 4294967296) * 4294967296 + z % 4294967296 := by omega
    rw [hbig, t1]
    have t2 : U * 4294967296 + z / 4294967296 = Q1 * Y + X := by omega
    rw [t2]
    have t3 : X * 4294967296 + z % 4294967296 = Q2 * Y + X2 := by omega
    have t4 : (Q1 * Y + X) * 4294967296 + z % 4294967296 = Q1 * 4294967296 * Y + (X * 4294967296 + z % 4294967296) := by grind
    rw [t4, t3, Int.add_mul]
    omega
  have total2 : X2 = (Nn - (Q1 * 4294967296 + Q2) * yn) * 2 ^ s := by
    have : (Q1 * 4294967296 + Q2) * Y = (Q1 * 4294967296 + Q2) * yn * 2 ^ s := by rw [← hYe, Int.mul_assoc]
    rw [Int.sub_mul]
    omega
  generalize hR : Nn - (Q1 * 4294967296 + Q2) * yn = Rr at total2
  have hR0 : 0 ≤ Rr := by
    refine Int.not_lt.1 fun h => ?_
    have : Rr * 2 ^ s ≤ (-1) * 2 ^ s := Int.mul_le_mul_of_nonneg_right (by omega) (by omega)
    have := r2.2.1
    omega
  have hR1 : Rr < yn := by
    refine Int.not_le.1 fun h => ?_
    have : (yn : Int) * 2 ^ s ≤ Rr * 2 ^ s := Int.mul_le_mul_of_nonneg_right h (by omega)
    have := r2.2.2
    omega
  have hq : Nn / yn = Q1 * 4294967296 + Q2 := by
    have : Nn = Rr + yn * (Q1 * 4294967296 + Q2) := by rw [Int.mul_comm]; omega
    rw [this, Int.add_mul_ediv_left _ _ (by omega), Int.ediv_eq_zero_of_lt hR0 hR1]
    omega
  have hm : Nn % yn = Rr := by
    have : Nn = Rr + yn * (Q1 * 4294967296 + Q2) := by rw [Int.mul_comm]; omega
    rw [this, Int.add_mul_emod_self_left, Int.emod_eq_of_lt hR0 hR1]
  have hQ1b := D.hQB; have hQ10 := D.hQ0; have hQ2b := D2.hQB; have hQ20 := D2.hQ0
  refine l0_finds D 14 _ (fun k hk => ?_) 2 k (U / (Y / 4294967296)) (U % (Y / 4294967296)) (by omega) (by omega) f4 (by omega) f3 f1 f2
  obtain ⟨k, rfl⟩ : ∃ m, k = m + 1 := ⟨k - 1, by omega⟩
  simp only [bits_Div64.j2]
  rw [if_neg (by omega), r1.1, s3, s4]
  refine l1_finds D2 (by omega) _ ?_ 2 k (X / (Y / 4294967296)) (X % (Y / 4294967296)) (by omega) (by omega) g4 (by omega) g3 g1 g2
  rw [r2.1, shr_is _ s (by omega), hq, hm, total2, Int.mul_ediv_cancel _ (by omega)]
  congr 2
  rw [IntKind.wrap_u64, IntKind.wrap_u64]
  omega

theorem div64 (k : Nat) (hk : 20 ≤ k) (hi lo y : Int) (h0 : 0 ≤ hi) (h1 : hi < y) (hy : y < 18446744073709551616) (l0 : 0 ≤ lo) (l1 : lo < 18446744073709551616) :
    bits_Div64.f k hi lo y = some ((hi * 18446744073709551616 + lo) / y, (hi * 18446744073709551616 + lo) % y) := by
  rcases Int.lt_or_eq_of_le h0 with h | h
  · exact div64_great k hk hi lo y h h1 hy l0 l1
  · subst h
    rw [div64_small k lo y h1 hy l0 l1, Int.zero_mul, Int.zero_add]
end Go.Proofs.YtfoaglfnnomdkaaGreatDoor.C
