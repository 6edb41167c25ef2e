/- angle.fixed: minus, times, over, units: contracts in plain numbers. -/
import Derived.Test.YtfoaglfnnomdkaaGreatDoorHandDiv2
import Derived.Test.YtfoaglfnnomdkaaGreatDoorHandBits
import Derived.Test.YtfoaglfnnomdkaaGreatDoorCx121
import Derived.Laws.Externs
import Derived.Shelf.Spec.BitsCarry
import Derived.Lib.Hide
set_option linter.all false
namespace Go.Proofs.YtfoaglfnnomdkaaGreatDoor.C
open Go.RowKit Go.Proofs.YtfoaglfnnomdkaaGreatDoorW.PrintWords Go.Proofs.YtfoaglfnnomdkaaGreatDoorW.PrintMore

/-- A word of 64 bits; and how many there are. -/
structure U64 (x : Int) : Prop where
  lo : 0 ≤ x
  hi : x < 18446744073709551616
def W64 : Int := 18446744073709551616
theorem U64.mod (x : Int) : U64 (x % W64) := ⟨Int.emod_nonneg _ (by decide), Int.emod_lt_of_pos _ (by decide)⟩
theorem U64.mulDiv {x y : Int} (hx : U64 x) (hy : U64 y) : U64 (x * y / W64) := by
  refine ⟨Int.ediv_nonneg (Int.mul_nonneg hx.lo hy.lo) (by decide), Int.ediv_lt_of_lt_mul (by decide) ?_⟩
  have h1 : x * y ≤ x * 18446744073709551615 := Int.mul_le_mul_of_nonneg_left (by have := hy.hi; omega) hx.lo
  have := hx.hi; have := hx.lo
  unfold W64
  omega
theorem mul64_some {x y : Int} (hx : U64 x) (hy : U64 y) : bits_Mul64.f x y = some (x * y / W64, x * y % W64) := by unfold bits_Mul64.f; rw [if_pos ⟨hx.lo, hx.hi, hy.lo, hy.hi⟩]; rfl
theorem add64_call (x y c : Int) (hx : 0 ≤ x) (hy : 0 ≤ y) (hc0 : 0 ≤ c) (hc : c ≤ 1) (w : World) :
    (callFunc 196 #[.int .u64 x, .int .u64 y, .int .u64 c]).run Tryz.prog w =
      .ok (.value (.tuple #[.int .u64 ((x + y + c) % 18446744073709551616), .int .u64 ((x + y + c) / 18446744073709551616)])) w := by
  rw [run_callFunc_extern Tryz.func196 (by kernel_rfl) (by kernel_rfl) (by kernel_rfl) (e := add64Entry) (by kernel_rfl), run_add64 x y c hx hy hc0 hc]
  rfl
theorem sub64_call (x y b : Int) (hx : 0 ≤ x) (hx' : x < 18446744073709551616) (hy : 0 ≤ y) (hy' : y < 18446744073709551616) (hb0 : 0 ≤ b) (hb : b ≤ 1) (w : World) :
    (callFunc 198 #[.int .u64 x, .int .u64 y, .int .u64 b]).run Tryz.prog w =
      .ok (.value (.tuple #[.int .u64 ((x - y - b) % 18446744073709551616), .int .u64 (if x < y + b then 1 else 0)])) w := by
  obtain ⟨x, rfl⟩ := Int.eq_ofNat_of_zero_le hx
  obtain ⟨y, rfl⟩ := Int.eq_ofNat_of_zero_le hy
  obtain ⟨b, rfl⟩ := Int.eq_ofNat_of_zero_le hb0
  rw [run_callFunc_extern Tryz.func198 (by kernel_rfl) (by kernel_rfl) (by kernel_rfl) (e := sub64Entry) (by kernel_rfl), run_sub64 x y b (by omega)]
  have e1 : (((x + 18446744073709551616 - y - b) % 18446744073709551616 : Nat) : Int) = ((x : Int) - y - b) % 18446744073709551616 := by omega
  have e2 : (((if x < y + b then 1 else 0 : Nat)) : Int) = if (x : Int) < y + b then 1 else 0 := by split <;> split <;> omega
  simp only [Result.andThen]
  rw [e1, e2]

theorem add64_at (x y : Int) (hx : U64 x) (hy : U64 y) (w : World) :
    (callFunc 196 #[.int .u64 x, .int .u64 y, .int .u64 0]).run Tryz.prog w = .ok (.value (.tuple #[.int .u64 ((x + y) % W64), .int .u64 ((x + y) / W64)])) w := by
  rw [add64_call x y 0 hx.lo hy.lo (by omega) (by omega), Int.add_zero]; rfl

theorem over_digits (A B C d : Int) (hd : 0 < d) (_hA : 0 ≤ A) (hB : 0 ≤ B) (hB' : B < W64) (hC : 0 ≤ C) (hC' : C < W64) :
    ((A * W64 + B) * W64 + C) / d / W64 % W64 = (A % d * W64 + B) / d ∧ ((A * W64 + B) * W64 + C) / d % W64 = ((A % d * W64 + B) % d * W64 + C) / d := by
  have wp : (0 : Int) < W64 := by decide
  have a1 := Int.mul_ediv_add_emod A d
  have a2 := Int.emod_nonneg A (show d ≠ 0 by omega)
  have a3 := Int.emod_lt_of_pos A hd
  generalize A / d = qa at *
  generalize A % d = r0 at *
  have b1 := Int.mul_ediv_add_emod (r0 * W64 + B) d
  have b2 := Int.emod_nonneg (r0 * W64 + B) (show d ≠ 0 by omega)
  have b3 := Int.emod_lt_of_pos (r0 * W64 + B) hd
  have b4 : 0 ≤ (r0 * W64 + B) / d := Int.ediv_nonneg (Int.add_nonneg (Int.mul_nonneg a2 (by omega)) hB) (by omega)
  have b5 : (r0 * W64 + B) / d < W64 := by
    refine Int.ediv_lt_of_lt_mul hd ?_
    have : (r0 + 1) * W64 ≤ d * W64 := Int.mul_le_mul_of_nonneg_right (by omega) (by omega)
    rw [Int.mul_comm W64 d]
    rw [Int.add_mul, Int.one_mul] at this
    omega
  generalize hq1 : (r0 * W64 + B) / d = q1 at *
  generalize (r0 * W64 + B) % d = r1 at *
  have c1 := Int.mul_ediv_add_emod (r1 * W64 + C) d
  have c2 := Int.emod_nonneg (r1 * W64 + C) (show d ≠ 0 by omega)
  have c3 := Int.emod_lt_of_pos (r1 * W64 + C) hd
  have c4 : 0 ≤ (r1 * W64 + C) / d := Int.ediv_nonneg (Int.add_nonneg (Int.mul_nonneg b2 (by omega)) hC) (by omega)
  have c5 : (r1 * W64 + C) / d < W64 := by
    refine Int.ediv_lt_of_lt_mul hd ?_
    have : (r1 + 1) * W64 ≤ d * W64 := Int.mul_le_mul_of_nonneg_right (by omega) (by omega)
    rw [Int.mul_comm W64 d]
    rw [Int.add_mul, Int.one_mul] at this
    omega
  generalize hq2 : (r1 * W64 + C) / d = q2 at *
  generalize (r1 * W64 + C) % d = r2 at *
  have e : (A * W64 + B) * W64 + C = r2 + d * ((qa * W64 + q1) * W64 + q2) := by
    rw [← a1]
    have e1 : (d * qa + r0) * W64 + B = d * (qa * W64 + q1) + r1 := by
      have : (d * qa + r0) * W64 + B = d * (qa * W64) + (r0 * W64 + B) := by grind
      rw [this, ← b1]; grind
    rw [e1]
    have : (d * (qa * W64 + q1) + r1) * W64 + C = d * ((qa * W64 + q1) * W64) + (r1 * W64 + C) := by grind
    rw [this, ← c1]; grind
  have e2 : ((A * W64 + B) * W64 + C) / d = (qa * W64 + q1) * W64 + q2 := by
    rw [e, Int.add_mul_ediv_left _ _ (by omega), Int.ediv_eq_zero_of_lt c2 c3, Int.zero_add]
  rw [e2]
  refine ⟨?_, ?_⟩
  · rw [Int.add_comm, Int.add_mul_ediv_right _ _ (by omega), Int.ediv_eq_zero_of_lt c4 c5, Int.zero_add, Int.add_comm, Int.add_mul_emod_self_right, Int.emod_eq_of_lt b4 b5]
  · rw [Int.add_comm, Int.add_mul_emod_self_right, Int.emod_eq_of_lt c4 c5]

theorem U64.emodLt {A d : Int} (_hA : 0 ≤ A) (hd : U64 d) (hp : 0 < d) : U64 (A % d) := ⟨Int.emod_nonneg _ (by omega), by have := Int.emod_lt_of_pos A hp; have := hd.hi; omega⟩
/-- What over returns: (h 2^64 + l) n / d, its two last words. -/
def overV (h l n d : Int) : Int := (h * W64 + l) * n / d
def angle_fixed_over.f (h l n d : Int) : Option (Int × Int) :=
  if (0 ≤ h ∧ h < 18446744073709551616) ∧ (0 ≤ l ∧ l < 18446744073709551616) ∧ (0 ≤ n ∧ n < 18446744073709551616) ∧ (0 < d ∧ d < 18446744073709551616) then some (overV h l n d / W64 % W64, overV h l n d % W64) else none

set_option maxRecDepth 100000 in
set_option maxHeartbeats 400000 in
theorem over_atoms (h l n d p1 p2 p3 p4 s c A q0 r0 q1 r1 q2 r2 : Int) (h1 : bits_Mul64.f l n = some (p3, p4)) (h2 : bits_Mul64.f h n = some (p1, p2))
    (h3 : ∀ w, (callFunc 196 #[.int .u64 p2, .int .u64 p3, .int .u64 0]).run Tryz.prog w = .ok (.value (.tuple #[.int .u64 s, .int .u64 c])) w)
    (h4 : IntKind.u64.wrap (p1 + c) = A) (h5 : bits_Div64.f 20 0 A d = some (q0, r0)) (h6 : bits_Div64.f 20 r0 s d = some (q1, r1)) (h7 : bits_Div64.f 20 r1 p4 d = some (q2, r2)) (w : World) :
    Calls Tryz.prog 191 #[.agg #[.int .u64 h, .int .u64 l], .int .u64 n, .int .u64 d] w fun e w' => e = .returned (.agg #[.int .u64 q1, .int .u64 q2]) ∧ Below w.heap.size w w' := by
  have H1 := Lib.hid h1; have H2 := Lib.hid h2; have H3 := Lib.hid h3; have H4 := Lib.hid h4; have H5 := Lib.hid h5; have H6 := Lib.hid h6; have H7 := Lib.hid h7
  clear h1 h2 h3 h4 h5 h6 h7
  go_enter Tryz.func191, Tryz.ntmps191
  go_wp2_with fail
  refine (bits_Mul64.calls _ _ _ _ _ H1.out).mono ?_
  rintro e w1 ⟨rfl, ⟨n1, rfl⟩⟩
  go_wp2_with fail
  refine (bits_Mul64.calls _ _ _ _ _ H2.out).mono ?_
  rintro e w1 ⟨rfl, ⟨n2, rfl⟩⟩
  go_wp2_with fail
  rw [H3.out]
  go_wp2_with fail
  rw [H4.out]
  refine (bits_Div64.calls _ _ _ _ _ _ _ H5.out).mono ?_
  rintro e w1 ⟨rfl, ⟨n3, rfl⟩⟩
  go_wp2_with fail
  refine (bits_Div64.calls _ _ _ _ _ _ _ H6.out).mono ?_
  rintro e w1 ⟨rfl, ⟨n4, rfl⟩⟩
  go_wp2_with fail
  refine (bits_Div64.calls _ _ _ _ _ _ _ H7.out).mono ?_
  rintro e w1 ⟨rfl, ⟨n5, rfl⟩⟩
  go_wp2_with fail
  refine bodyPost_ret (v := .agg #[.int .u64 q1, .int .u64 q2]) (by simp [results, Tryz.results191, go_sem]) rfl ⟨rfl, ?_⟩
  (repeat (first | (with_reducible exact Below.refl _ _) | (with_reducible assumption) | (with_reducible exact Hid.out (by assumption)) | (with_reducible refine Below.setCell ?_ (by first | (simp; done) | omega | (simp; omega)) _) | (with_reducible refine Below.alloc ?_ (by first | (simp; done) | omega | (simp; omega)) _) | (with_reducible refine Below.drew ?_) | (with_reducible refine pw_below_drewN ?_ _)))

theorem over_walk (h l n d : Int) (hh : U64 h) (hl : U64 l) (hn : U64 n) (hd : U64 d) (hp : 0 < d) (w : World) :
    Calls Tryz.prog 191 #[.agg #[.int .u64 h, .int .u64 l], .int .u64 n, .int .u64 d] w fun e w' => e = .returned (.agg #[.int .u64 (overV h l n d / W64 % W64), .int .u64 (overV h l n d % W64)]) ∧ Below w.heap.size w w' := by
  have wp : (0 : Int) < W64 := by decide
  have hm : U64 (l * n / W64) := U64.mulDiv hl hn
  have hm2 : U64 (h * n / W64) := U64.mulDiv hh hn
  have hs : U64 ((h * n % W64 + l * n / W64) % W64) := U64.mod _
  have hlo : U64 (l * n % W64) := U64.mod _
  have hcy : 0 ≤ (h * n % W64 + l * n / W64) / W64 ∧ (h * n % W64 + l * n / W64) / W64 ≤ 1 := by
    have := (U64.mod (h * n)).lo; have := (U64.mod (h * n)).hi; have := hm.lo; have := hm.hi
    unfold W64 at *
    omega
  have htop : h * n / W64 < 18446744073709551615 := by
    refine Int.ediv_lt_of_lt_mul wp ?_
    have h1 : h * n ≤ 18446744073709551615 * n := Int.mul_le_mul_of_nonneg_right (by have := hh.hi; omega) hn.lo
    have := hn.hi; have := hn.lo
    unfold W64
    omega
  have hA : U64 (h * n / W64 + (h * n % W64 + l * n / W64) / W64) := by
    have := hm2.lo
    constructor <;> omega
  have hwrap : IntKind.u64.wrap (h * n / W64 + (h * n % W64 + l * n / W64) / W64) = h * n / W64 + (h * n % W64 + l * n / W64) / W64 := by rw [IntKind.wrap_u64]; exact Int.emod_eq_of_lt hA.lo hA.hi
  have hdig := over_digits (h * n / W64 + (h * n % W64 + l * n / W64) / W64) ((h * n % W64 + l * n / W64) % W64) (l * n % W64) d hp hA.lo hs.lo hs.hi hlo.lo hlo.hi
  have hN : ((h * n / W64 + (h * n % W64 + l * n / W64) / W64) * W64 + (h * n % W64 + l * n / W64) % W64) * W64 + l * n % W64 = (h * W64 + l) * n := by
    have e1 := Int.mul_ediv_add_emod (h * n) W64
    have e2 := Int.mul_ediv_add_emod (l * n) W64
    have e3 := Int.mul_ediv_add_emod (h * n % W64 + l * n / W64) W64
    generalize h * n / W64 = p1 at *
    generalize hp2 : h * n % W64 = p2 at *
    generalize l * n / W64 = p3 at *
    generalize l * n % W64 = p4 at *
    generalize (p2 + p3) / W64 = p5 at *
    generalize (p2 + p3) % W64 = p6 at *
    have : (h * W64 + l) * n = h * n * W64 + l * n := by grind
    rw [this, ← e1, ← e2]
    have : (p1 + p5) * W64 + p6 = p1 * W64 + (p2 + p3) := by rw [← e3]; grind
    rw [this]
    grind
  rw [hN] at hdig
  have hr0 : U64 ((h * n / W64 + (h * n % W64 + l * n / W64) / W64) % d) := U64.emodLt hA.lo hd hp
  have hr0' : (h * n / W64 + (h * n % W64 + l * n / W64) / W64) % d < d := Int.emod_lt_of_pos _ hp
  have hx1 : 0 ≤ (h * n / W64 + (h * n % W64 + l * n / W64) / W64) % d * W64 + (h * n % W64 + l * n / W64) % W64 := Int.add_nonneg (Int.mul_nonneg hr0.lo (by omega)) hs.lo
  have hr1 : U64 (((h * n / W64 + (h * n % W64 + l * n / W64) / W64) % d * W64 + (h * n % W64 + l * n / W64) % W64) % d) := U64.emodLt hx1 hd hp
  have hr1' : ((h * n / W64 + (h * n % W64 + l * n / W64) / W64) % d * W64 + (h * n % W64 + l * n / W64) % W64) % d < d := Int.emod_lt_of_pos _ hp
  have g1 := div64 20 (by omega) 0 _ d (by omega) hp hd.hi hA.lo hA.hi
  rw [Int.zero_mul, Int.zero_add] at g1
  unfold overV
  rw [hdig.1, hdig.2]
  exact over_atoms h l n d _ _ _ _ _ _ _ _ _ _ _ _ _ (mul64_some hl hn) (mul64_some hh hn) (fun w => add64_at _ _ (U64.mod _) hm w) hwrap g1 (div64 20 (by omega) _ _ d hr0.lo hr0' hd.hi hs.lo hs.hi) (div64 20 (by omega) _ _ d hr1.lo hr1' hd.hi hlo.lo hlo.hi) w
theorem angle_fixed_over.calls (a0_0 a0_1 a1 a2 r1 r2 : Int) (w : World) (h : angle_fixed_over.f a0_0 a0_1 a1 a2 = some (r1, r2)) :
    Calls Tryz.prog 191 #[.agg #[.int .u64 a0_0, .int .u64 a0_1], .int .u64 a1, .int .u64 a2] w fun e w' => e = .returned (.agg #[.int .u64 r1, .int .u64 r2]) ∧ Below w.heap.size w w' := by
  unfold angle_fixed_over.f at h
  split at h
  · rename_i hb
    injection h with h
    injection h with e1 e2
    subst e1; subst e2
    exact over_walk _ _ _ _ ⟨hb.1.1, hb.1.2⟩ ⟨hb.2.1.1, hb.2.1.2⟩ ⟨hb.2.2.1.1, hb.2.2.1.2⟩ ⟨by omega, hb.2.2.2.2⟩ hb.2.2.2.1 w
  · cases h
end Go.Proofs.YtfoaglfnnomdkaaGreatDoor.C
