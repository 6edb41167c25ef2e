/- angle.fixed: minus, times, units: contracts in plain numbers. -/
import Derived.Test.YtfoaglfnnomdkaaGreatDoorHandFixed
set_option linter.all false
namespace Go.Proofs.YtfoaglfnnomdkaaGreatDoor.C
open Go.RowKit Go.Proofs.YtfoaglfnnomdkaaGreatDoorW.PrintWords Go.Proofs.YtfoaglfnnomdkaaGreatDoorW.PrintMore

theorem U64.b (b : Bool) : U64 (if b then 1 else 0) := by cases b <;> exact ⟨by decide, by decide⟩
theorem sub64_at (x y b : Int) (hx : U64 x) (hy : U64 y) (hb : b = 0 ∨ b = 1) (w : World) :
    (callFunc 198 #[.int .u64 x, .int .u64 y, .int .u64 b]).run Tryz.prog w = .ok (.value (.tuple #[.int .u64 ((x - y - b) % W64), .int .u64 (if x < y + b then 1 else 0)])) w :=
  sub64_call x y b hx.lo hx.hi hy.lo hy.hi (by omega) (by omega) w

set_option maxRecDepth 100000 in
set_option maxHeartbeats 400000 in
theorem minus_atoms (ah al bh bl l c h c2 : Int)
    (h1 : ∀ w, (callFunc 198 #[.int .u64 al, .int .u64 bl, .int .u64 0]).run Tryz.prog w = .ok (.value (.tuple #[.int .u64 l, .int .u64 c])) w)
    (h2 : ∀ w, (callFunc 198 #[.int .u64 ah, .int .u64 bh, .int .u64 c]).run Tryz.prog w = .ok (.value (.tuple #[.int .u64 h, .int .u64 c2])) w) (w : World) :
    Calls Tryz.prog 193 #[.agg #[.int .u64 ah, .int .u64 al], .agg #[.int .u64 bh, .int .u64 bl]] w fun e w' => e = .returned (.agg #[.int .u64 h, .int .u64 l]) ∧ Below w.heap.size w w' := by
  have H1 := Lib.hid h1; have H2 := Lib.hid h2
  clear h1 h2
  go_enter Tryz.func193, Tryz.ntmps193
  go_wp2_with fail
  rw [H1.out]
  go_wp2_with fail
  rw [H2.out]
  go_wp2_with fail
  refine bodyPost_ret (v := .agg #[.int .u64 h, .int .u64 l]) (by simp [results, Tryz.results193, go_sem]) rfl ⟨rfl, ?_⟩
  (repeat (first | (with_reducible exact Below.refl _ _) | (with_reducible assumption) | (with_reducible exact Hid.out (by assumption)) | (with_reducible refine Below.setCell ?_ (by first | (simp; done) | omega | (simp; omega)) _) | (with_reducible refine Below.alloc ?_ (by first | (simp; done) | omega | (simp; omega)) _) | (with_reducible refine Below.drew ?_) | (with_reducible refine pw_below_drewN ?_ _)))

/-- The value of two words. -/
def fixV (h l : Int) : Int := h * W64 + l
def angle_fixed_minus.f (ah al bh bl : Int) : Option (Int × Int) :=
  if (0 ≤ ah ∧ ah < 18446744073709551616) ∧ (0 ≤ al ∧ al < 18446744073709551616) ∧ (0 ≤ bh ∧ bh < 18446744073709551616) ∧ (0 ≤ bl ∧ bl < 18446744073709551616)
  then some ((fixV ah al - fixV bh bl) / W64 % W64, (fixV ah al - fixV bh bl) % W64) else none
theorem angle_fixed_minus.calls (a0_0 a0_1 a1_0 a1_1 r1 r2 : Int) (w : World) (h : angle_fixed_minus.f a0_0 a0_1 a1_0 a1_1 = some (r1, r2)) :
    Calls Tryz.prog 193 #[.agg #[.int .u64 a0_0, .int .u64 a0_1], .agg #[.int .u64 a1_0, .int .u64 a1_1]] w fun e w' => e = .returned (.agg #[.int .u64 r1, .int .u64 r2]) ∧ Below w.heap.size w w' := by
  unfold angle_fixed_minus.f at h
  split at h
  · rename_i hb
    obtain ⟨⟨q1, q2⟩, ⟨q3, q4⟩, ⟨q5, q6⟩, q7, q8⟩ := hb
    injection h with h
    injection h with e1 e2
    subst e1; subst e2
    have k1 := minus_atoms a0_0 a0_1 a1_0 a1_1 _ _ _ _ (fun w => sub64_at a0_1 a1_1 0 ⟨q3, q4⟩ ⟨q7, q8⟩ (.inl rfl) w)
      (fun w => sub64_at a0_0 a1_0 _ ⟨q1, q2⟩ ⟨q5, q6⟩ (by split <;> simp) w) w
    have e1 : (fixV a0_0 a0_1 - fixV a1_0 a1_1) / W64 % W64 = (a0_0 - a1_0 - (if a0_1 < a1_1 + 0 then 1 else 0)) % W64 := by
      unfold fixV W64
      split <;> omega
    have e2 : (fixV a0_0 a0_1 - fixV a1_0 a1_1) % W64 = (a0_1 - a1_1 - 0) % W64 := by
      unfold fixV W64
      omega
    rw [e1, e2]
    exact k1
  · cases h

set_option maxRecDepth 100000 in
set_option maxHeartbeats 400000 in
theorem units_atoms (h l t t2 p q s c A o V : Int) (h1 : bits_Mul64.f l 100000000 = some (t, t2)) (h2 : bits_Mul64.f h 100000000 = some (p, q))
    (h3 : ∀ w, (callFunc 196 #[.int .u64 q, .int .u64 t, .int .u64 0]).run Tryz.prog w = .ok (.value (.tuple #[.int .u64 s, .int .u64 c])) w)
    (h4 : IntKind.u64.wrap (p + c) = A) (h5 : Go.bits .or .u64 (IntKind.u64.wrap (A * 4)) (s / 4611686018427387904) = o) (h6 : wrap64 o = V) (w : World) :
    Calls Tryz.prog 194 #[.agg #[.int .u64 h, .int .u64 l]] w fun e w' => e = .returned (.int .i64 V) ∧ Below w.heap.size w w' := by
  have H1 := Lib.hid h1; have H2 := Lib.hid h2; have H3 := Lib.hid h3; have H4 := Lib.hid h4; have H5 := Lib.hid h5; have H6 := Lib.hid h6
  clear h1 h2 h3 h4 h5 h6
  go_enter Tryz.func194, Tryz.ntmps194
  go_wp2_with fail
  refine (bits_Mul64.calls _ _ _ _ _ H1.out).mono ?_
  rintro e w1 ⟨rfl, ⟨n1, rfl⟩⟩
  go_wp2_with fail
  refine (bits_Mul64.calls _ _ _ _ _ H2.out).mono ?_
  rintro e w1 ⟨rfl, ⟨n2, rfl⟩⟩
  go_wp2_with fail
  rw [H3.out]
  go_wp2_with fail
  go_ret
  refine ⟨?_, by (repeat (first | (with_reducible exact Below.refl _ _) | (with_reducible assumption) | (with_reducible exact Hid.out (by assumption)) | (with_reducible refine Below.setCell ?_ (by first | (simp; done) | omega | (simp; omega)) _) | (with_reducible refine Below.alloc ?_ (by first | (simp; done) | omega | (simp; omega)) _) | (with_reducible refine Below.drew ?_) | (with_reducible refine pw_below_drewN ?_ _)))⟩
  show Ending.returned (.int .i64 _) = _
  rw [H4.out, H5.out, H6.out]

theorem or4 (x y : Int) (hx : 0 ≤ x) (hy : 0 ≤ y) (hy' : y < 4) : Go.bits .or .u64 (IntKind.u64.wrap (x * 4)) y = x * 4 % W64 + y := by
  have e : IntKind.u64.wrap (x * 4) = x % 4611686018427387904 * 2 ^ 2 := by
    rw [IntKind.wrap_u64]
    omega
  rw [e, or_parts _ _ 2 (by omega) hy (by omega) (by omega) (by omega)]
  unfold W64
  omega

theorem units_arith (h l p q t t2 c s j i : Int) (e1 : h * 100000000 = 18446744073709551616 * p + q) (e2 : l * 100000000 = 18446744073709551616 * t + t2) (e3 : q + t = 18446744073709551616 * c + s)
    (e4 : s = 4611686018427387904 * j + i) (hi : 0 ≤ i) (hi' : i < 4611686018427387904) (ht : 0 ≤ t2) (ht' : t2 < 18446744073709551616) :
    (h * 18446744073709551616 + l) * 100000000 / 85070591730234615865843651857942052864 = (p + c) * 4 + j := by
  have e : (h * 18446744073709551616 + l) * 100000000 = (18446744073709551616 * i + t2) + 85070591730234615865843651857942052864 * ((p + c) * 4 + j) := by omega
  rw [e, Int.add_mul_ediv_left _ _ (by omega), Int.ediv_eq_zero_of_lt (by omega) (by omega), Int.zero_add]
theorem times_arith (X Y Z x1 x0 y1 y0 z1 z0 cy n c1 l1 c2 l2 j i k m : Int) (eX : X = 18446744073709551616 * x1 + x0) (eY : Y = 18446744073709551616 * y1 + y0) (eZ : Z = 18446744073709551616 * z1 + z0)
    (e1 : y0 + z0 = 18446744073709551616 * cy + n) (e2 : x0 + y1 + cy = 18446744073709551616 * c1 + l1) (e3 : l1 + z1 = 18446744073709551616 * c2 + l2) (e4 : l2 = 4611686018427387904 * j + i) (e5 : n = 4611686018427387904 * k + m)
    (hi : 0 ≤ i) (hi' : i < 4611686018427387904) (hm : 0 ≤ m) (hm' : m < 4611686018427387904) (hk : 0 ≤ k) (hk' : k < 4) :
    (X * 18446744073709551616 + Y + Z) / 4611686018427387904 = (4 * i + k) + 18446744073709551616 * (4 * (x1 + c1 + c2) + j) := by
  have e : X * 18446744073709551616 + Y + Z = m + 4611686018427387904 * ((4 * i + k) + 18446744073709551616 * (4 * (x1 + c1 + c2) + j)) := by omega
  rw [e, Int.add_mul_ediv_left _ _ (by omega), Int.ediv_eq_zero_of_lt (by omega) (by omega), Int.zero_add]
def angle_fixed_units.f (h l : Int) : Option Int :=
  if (0 ≤ h ∧ h < 18446744073709551616) ∧ (0 ≤ l ∧ l < 18446744073709551616) then some (fixV h l * 100000000 / 85070591730234615865843651857942052864) else none
theorem angle_fixed_units.calls (a0_0 a0_1 r : Int) (w : World) (h : angle_fixed_units.f a0_0 a0_1 = some r) :
    Calls Tryz.prog 194 #[.agg #[.int .u64 a0_0, .int .u64 a0_1]] w fun e w' => e = .returned (.int .i64 r) ∧ Below w.heap.size w w' := by
  unfold angle_fixed_units.f at h
  split at h
  · rename_i hb
    obtain ⟨⟨q1, q2⟩, q3, q4⟩ := hb
    injection h with h
    subst h
    have hH : U64 a0_0 := ⟨q1, q2⟩
    have hL : U64 a0_1 := ⟨q3, q4⟩
    have hM : U64 100000000 := ⟨by decide, by decide⟩
    have ht : U64 (a0_1 * 100000000 / W64) := U64.mulDiv hL hM
    have hq : U64 (a0_0 * 100000000 % W64) := U64.mod _
    have e1 := ht.lo; have e2 := ht.hi; have e3 := hq.lo; have e4 := hq.hi
    refine units_atoms a0_0 a0_1 _ _ _ _ _ _ _ _ _ (mul64_some hL hM) (mul64_some hH hM) (fun w => add64_at _ _ hq ht w) rfl (or4 _ _ ?_ ?_ ?_) ?_ w
    · rw [IntKind.wrap_u64]; omega
    · unfold W64; omega
    · unfold W64; omega
    · have g1 := (Int.mul_ediv_add_emod (a0_0 * 100000000) 18446744073709551616).symm
      have g2 := (Int.mul_ediv_add_emod (a0_1 * 100000000) 18446744073709551616).symm
      have g2a : 0 ≤ a0_1 * 100000000 % 18446744073709551616 := Int.emod_nonneg _ (by decide)
      have g2b : a0_1 * 100000000 % 18446744073709551616 < 18446744073709551616 := Int.emod_lt_of_pos _ (by decide)
      unfold fixV
      unfold W64 at *
      have g0 : a0_0 * 100000000 / 18446744073709551616 < 100000000 := by omega
      have g00 : 0 ≤ a0_0 * 100000000 / 18446744073709551616 := by omega
      generalize a0_0 * 100000000 / 18446744073709551616 = p at *
      generalize a0_0 * 100000000 % 18446744073709551616 = q at *
      generalize a0_1 * 100000000 / 18446744073709551616 = t at *
      generalize a0_1 * 100000000 % 18446744073709551616 = t2 at *
      have g3 := (Int.mul_ediv_add_emod (q + t) 18446744073709551616).symm
      have g3a : 0 ≤ (q + t) % 18446744073709551616 := Int.emod_nonneg _ (by decide)
      have g3b : (q + t) % 18446744073709551616 < 18446744073709551616 := Int.emod_lt_of_pos _ (by decide)
      have g5 : 0 ≤ (q + t) / 18446744073709551616 ∧ (q + t) / 18446744073709551616 ≤ 1 := by omega
      generalize (q + t) / 18446744073709551616 = c at *
      generalize (q + t) % 18446744073709551616 = s at *
      rw [units_arith a0_0 a0_1 p q t t2 c s (s / 4611686018427387904) (s % 4611686018427387904) g1 g2 g3 (by omega) (by omega) (by omega) g2a g2b, IntKind.wrap_u64]
      have g6 : (p + c) % 18446744073709551616 = p + c := by omega
      rw [g6]
      have g7 : (p + c) * 4 % 18446744073709551616 = (p + c) * 4 := by omega
      rw [g7]
      unfold wrap64
      omega
  · cases h

set_option maxRecDepth 100000 in
set_option maxHeartbeats 800000 in
theorem times_atoms (ah al bh bl m1h m1l m2h m2l m3h m3l n cy l1 c1 _h1 l2 c2 h2 r1 r2 : Int) (h1 : bits_Mul64.f ah bh = some (m1h, m1l)) (h2' : bits_Mul64.f ah bl = some (m2h, m2l)) (h3 : bits_Mul64.f al bh = some (m3h, m3l))
    (h4 : ∀ w, (callFunc 196 #[.int .u64 m2l, .int .u64 m3l, .int .u64 0]).run Tryz.prog w = .ok (.value (.tuple #[.int .u64 n, .int .u64 cy])) w)
    (h5 : ∀ w, (callFunc 196 #[.int .u64 m1l, .int .u64 m2h, .int .u64 cy]).run Tryz.prog w = .ok (.value (.tuple #[.int .u64 l1, .int .u64 c1])) w)
    (h6 : ∀ w, (callFunc 196 #[.int .u64 l1, .int .u64 m3h, .int .u64 0]).run Tryz.prog w = .ok (.value (.tuple #[.int .u64 l2, .int .u64 c2])) w)
    (h7 : IntKind.u64.wrap (IntKind.u64.wrap (m1h + c1) + c2) = h2) (h8 : Go.bits .or .u64 (IntKind.u64.wrap (h2 * 4)) (l2 / 4611686018427387904) = r1) (h9 : Go.bits .or .u64 (IntKind.u64.wrap (l2 * 4)) (n / 4611686018427387904) = r2) (w : World) :
    Calls Tryz.prog 192 #[.agg #[.int .u64 ah, .int .u64 al], .agg #[.int .u64 bh, .int .u64 bl]] w fun e w' => e = .returned (.agg #[.int .u64 r1, .int .u64 r2]) ∧ Below w.heap.size w w' := by
  have H1 := Lib.hid h1; have H2 := Lib.hid h2'; have H3 := Lib.hid h3; have H4 := Lib.hid h4; have H5 := Lib.hid h5; have H6 := Lib.hid h6; have H7 := Lib.hid h7; have H8 := Lib.hid h8; have H9 := Lib.hid h9
  clear h1 h2' h3 h4 h5 h6 h7 h8 h9
  go_enter Tryz.func192, Tryz.ntmps192
  go_wp2_with fail
  refine (bits_Mul64.calls _ _ _ _ _ H1.out).mono ?_
  rintro e w1 ⟨rfl, ⟨n1, rfl⟩⟩
  go_wp2_with fail
  refine (bits_Mul64.calls _ _ _ _ _ H2.out).mono ?_
  rintro e w1 ⟨rfl, ⟨n2, rfl⟩⟩
  go_wp2_with fail
  refine (bits_Mul64.calls _ _ _ _ _ H3.out).mono ?_
  rintro e w1 ⟨rfl, ⟨n3, rfl⟩⟩
  go_wp2_with fail
  rw [H4.out]
  go_wp2_with fail
  rw [H5.out]
  go_wp2_with fail
  rw [H6.out]
  go_wp2_with fail
  refine bodyPost_ret (v := .agg #[.int .u64 r1, .int .u64 r2]) (by simp [results, Tryz.results192, go_sem, H7.out, H8.out, H9.out]) rfl ⟨rfl, ?_⟩
  (repeat (first | (with_reducible exact Below.refl _ _) | (with_reducible assumption) | (with_reducible exact Hid.out (by assumption)) | (with_reducible refine Below.setCell ?_ (by first | (simp; done) | omega | (simp; omega)) _) | (with_reducible refine Below.alloc ?_ (by first | (simp; done) | omega | (simp; omega)) _) | (with_reducible refine Below.drew ?_) | (with_reducible refine pw_below_drewN ?_ _)))

def timesV (ah al bh bl : Int) : Int := (ah * bh * W64 + ah * bl + al * bh) / 4611686018427387904
def angle_fixed_times.f (ah al bh bl : Int) : Option (Int × Int) :=
  if (0 ≤ ah ∧ ah < 18446744073709551616) ∧ (0 ≤ al ∧ al < 18446744073709551616) ∧ (0 ≤ bh ∧ bh < 18446744073709551616) ∧ (0 ≤ bl ∧ bl < 18446744073709551616)
  then some (timesV ah al bh bl / W64 % W64, timesV ah al bh bl % W64) else none
theorem angle_fixed_times.calls (a0_0 a0_1 a1_0 a1_1 r1 r2 : Int) (w : World) (h : angle_fixed_times.f a0_0 a0_1 a1_0 a1_1 = some (r1, r2)) :
    Calls Tryz.prog 192 #[.agg #[.int .u64 a0_0, .int .u64 a0_1], .agg #[.int .u64 a1_0, .int .u64 a1_1]] w fun e w' => e = .returned (.agg #[.int .u64 r1, .int .u64 r2]) ∧ Below w.heap.size w w' := by
  unfold angle_fixed_times.f at h
  split at h
  · rename_i hb
    obtain ⟨⟨q1, q2⟩, ⟨q3, q4⟩, ⟨q5, q6⟩, q7, q8⟩ := hb
    injection h with h
    injection h with e1 e2
    subst e1; subst e2
    have A1 : U64 a0_0 := ⟨q1, q2⟩
    have A2 : U64 a0_1 := ⟨q3, q4⟩
    have B1 : U64 a1_0 := ⟨q5, q6⟩
    have B2 : U64 a1_1 := ⟨q7, q8⟩
    have m1 : U64 (a0_0 * a1_0 / W64) := U64.mulDiv A1 B1
    have m2 : U64 (a0_0 * a1_1 / W64) := U64.mulDiv A1 B2
    have m3 : U64 (a0_1 * a1_0 / W64) := U64.mulDiv A2 B1
    have l1 : U64 (a0_0 * a1_0 % W64) := U64.mod _
    have l2 : U64 (a0_0 * a1_1 % W64) := U64.mod _
    have l3 : U64 (a0_1 * a1_0 % W64) := U64.mod _
    have cy : 0 ≤ (a0_0 * a1_1 % W64 + a0_1 * a1_0 % W64) / W64 ∧ (a0_0 * a1_1 % W64 + a0_1 * a1_0 % W64) / W64 ≤ 1 := by
      have := l2.lo; have := l2.hi; have := l3.lo; have := l3.hi
      unfold W64 at *
      omega
    have add1 : ∀ w, (callFunc 196 #[.int .u64 (a0_0 * a1_0 % W64), .int .u64 (a0_0 * a1_1 / W64), .int .u64 ((a0_0 * a1_1 % W64 + a0_1 * a1_0 % W64) / W64)]).run Tryz.prog w =
        .ok (.value (.tuple #[.int .u64 ((a0_0 * a1_0 % W64 + a0_0 * a1_1 / W64 + (a0_0 * a1_1 % W64 + a0_1 * a1_0 % W64) / W64) % W64), .int .u64 ((a0_0 * a1_0 % W64 + a0_0 * a1_1 / W64 + (a0_0 * a1_1 % W64 + a0_1 * a1_0 % W64) / W64) / W64)])) w :=
      fun w => add64_call _ _ _ l1.lo m2.lo cy.1 cy.2 w
    -- the top word doesn't overflow
    have hb1 : a0_0 * a1_0 ≤ 18446744073709551615 * 18446744073709551615 := Int.mul_le_mul (by omega) (by omega) (by omega) (by omega)
    have hb2 : a0_0 * a1_1 ≤ 18446744073709551615 * 18446744073709551615 := Int.mul_le_mul (by omega) (by omega) (by omega) (by omega)
    have hb3 : a0_1 * a1_0 ≤ 18446744073709551615 * 18446744073709551615 := Int.mul_le_mul (by omega) (by omega) (by omega) (by omega)
    have hz1 : 0 ≤ a0_0 * a1_0 := Int.mul_nonneg q1 q5
    have hz2 : 0 ≤ a0_0 * a1_1 := Int.mul_nonneg q1 q7
    have hz3 : 0 ≤ a0_1 * a1_0 := Int.mul_nonneg q3 q5
    have tot : timesV a0_0 a0_1 a1_0 a1_1 = (a0_0 * a1_0 * W64 + a0_0 * a1_1 + a0_1 * a1_0) / 4611686018427387904 := rfl
    have add2 := add64_at ((a0_0 * a1_0 % W64 + a0_0 * a1_1 / W64 + (a0_0 * a1_1 % W64 + a0_1 * a1_0 % W64) / W64) % W64) (a0_1 * a1_0 / W64) (U64.mod _) m3
    rw [tot]
    have g1 := (Int.mul_ediv_add_emod (a0_0 * a1_0) W64).symm
    have g2 := (Int.mul_ediv_add_emod (a0_0 * a1_1) W64).symm
    have g3 := (Int.mul_ediv_add_emod (a0_1 * a1_0) W64).symm
    have s1 := mul64_some A1 B1
    have s2 := mul64_some A1 B2
    have s3 := mul64_some A2 B1
    have add0 := add64_at _ _ l2 l3
    generalize hx1 : a0_0 * a1_0 / W64 = x1 at *
    generalize hx0 : a0_0 * a1_0 % W64 = x0 at *
    generalize hy1 : a0_0 * a1_1 / W64 = y1 at *
    generalize hy0 : a0_0 * a1_1 % W64 = y0 at *
    generalize hz1' : a0_1 * a1_0 / W64 = z1 at *
    generalize hz0' : a0_1 * a1_0 % W64 = z0 at *
    have g4 := (Int.mul_ediv_add_emod (y0 + z0) W64).symm
    have b4 := U64.mod (y0 + z0)
    generalize (y0 + z0) / W64 = cy' at *
    generalize (y0 + z0) % W64 = n at *
    have g5 := (Int.mul_ediv_add_emod (x0 + y1 + cy') W64).symm
    have b5 := U64.mod (x0 + y1 + cy')
    generalize (x0 + y1 + cy') / W64 = c1 at *
    generalize (x0 + y1 + cy') % W64 = w1 at *
    have g6 := (Int.mul_ediv_add_emod (w1 + z1) W64).symm
    have b6 := U64.mod (w1 + z1)
    generalize (w1 + z1) / W64 = c2 at *
    generalize (w1 + z1) % W64 = w2 at *
    generalize a0_0 * a1_0 = X at *
    generalize a0_0 * a1_1 = Y at *
    generalize a0_1 * a1_0 = Z at *
    have v := times_arith X Y Z x1 x0 y1 y0 z1 z0 cy' n c1 w1 c2 w2 (w2 / 4611686018427387904) (w2 % 4611686018427387904) (n / 4611686018427387904) (n % 4611686018427387904) g1 g2 g3 g4 g5 g6 (by omega) (by omega) (by omega) (by omega) (by omega) (by omega) (by have := b4.lo; omega) (by have := b4.hi; omega)
    have p1 := m1.lo; have p2 := m1.hi; have p3 := l1.lo; have p4 := l1.hi; have p5 := m2.lo; have p6 := m2.hi; have p7 := b5.lo; have p8 := b5.hi; have p9 := b6.lo; have p10 := b6.hi; have p11 := m3.lo; have p12 := m3.hi; have p13 := b4.lo; have p14 := b4.hi
    unfold W64 at *
    have u1 : 0 ≤ x1 + c1 + c2 := by omega
    have u2 : x1 + c1 + c2 < 18446744073709551616 := by omega
    rw [v]
    have r1 : (4 * (w2 % 4611686018427387904) + n / 4611686018427387904 + 18446744073709551616 * (4 * (x1 + c1 + c2) + w2 / 4611686018427387904)) / 18446744073709551616 % 18446744073709551616 = (x1 + c1 + c2) * 4 % 18446744073709551616 + w2 / 4611686018427387904 := by
      have : (4 * (w2 % 4611686018427387904) + n / 4611686018427387904 + 18446744073709551616 * (4 * (x1 + c1 + c2) + w2 / 4611686018427387904)) / 18446744073709551616 = 4 * (x1 + c1 + c2) + w2 / 4611686018427387904 := by
        rw [Int.add_mul_ediv_left _ _ (by omega), Int.ediv_eq_zero_of_lt (by omega) (by omega), Int.zero_add]
      rw [this]
      generalize x1 + c1 + c2 = T at *
      omega
    have r2 : (4 * (w2 % 4611686018427387904) + n / 4611686018427387904 + 18446744073709551616 * (4 * (x1 + c1 + c2) + w2 / 4611686018427387904)) % 18446744073709551616 = w2 * 4 % 18446744073709551616 + n / 4611686018427387904 := by
      rw [Int.add_mul_emod_self_left]
      omega
    rw [r1, r2]
    have hw : IntKind.u64.wrap (IntKind.u64.wrap (x1 + c1) + c2) = x1 + c1 + c2 := by
      rw [IntKind.wrap_u64, IntKind.wrap_u64]
      omega
    exact times_atoms a0_0 a0_1 a1_0 a1_1 x1 x0 y1 y0 z1 z0 n cy' w1 c1 0 w2 c2 _ _ _ s1 s2 s3 add0 add1 add2 hw (or4 _ _ u1 (by omega) (by omega)) (or4 _ _ (by omega) (by omega) (by omega)) w
  · cases h
end Go.Proofs.YtfoaglfnnomdkaaGreatDoor.C
