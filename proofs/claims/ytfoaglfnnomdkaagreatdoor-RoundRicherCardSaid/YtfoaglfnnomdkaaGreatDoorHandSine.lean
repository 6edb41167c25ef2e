/- angle.sine: the least enclosure of the sine of any angle: its contract. -/
import Derived.Test.YtfoaglfnnomdkaaGreatDoorCx123
import Derived.Test.YtfoaglfnnomdkaaGreatDoorCx124
import Derived.Test.YtfoaglfnnomdkaaGreatDoorHandKit
set_option linter.all false
namespace Go.Proofs.YtfoaglfnnomdkaaGreatDoor.C
open Go.RowKit Go.Proofs.YtfoaglfnnomdkaaGreatDoorW.PrintWords Go.Proofs.YtfoaglfnnomdkaaGreatDoorW.PrintMore

/-- An angle less whole turns (a turn more). -/
def preA (a : Int) : Int := wrap64 (Int.tmod a 360000000 + 360000000)
/-- The angle from 0 to 90 degrees with the same sine, but for its sign. -/
def foldA (x : Int) : Int := min (Int.tmod x 180000000) (wrap64 (180000000 - Int.tmod x 180000000))
def angle_sine.f (a : Int) : Option (Int × Int) :=
  (angle_steep.f 40 (foldA (preA a))).bind fun s => some (if 180000000 ≤ Int.tmod (preA a) 360000000 then (wrap64 (-(if s.2 = true then s.1 else wrap64 (s.1 + 1))), wrap64 (-s.1)) else (s.1, if s.2 = true then s.1 else wrap64 (s.1 + 1)))

set_option maxRecDepth 100000 in
set_option maxHeartbeats 400000 in
theorem sine_walk (a x y n m : Int) (ex : Bool) (hx : wrap64 (Int.tmod a 360000000 + 360000000) = x) (hy : min (Int.tmod x 180000000) (wrap64 (180000000 - Int.tmod x 180000000)) = y)
    (hs : angle_steep.f 40 y = some (n, ex)) (hm : (if ex = true then n else wrap64 (n + 1)) = m) (w : World) :
    Calls Tryz.prog 179 #[.int .i64 a] w fun e w' =>
      e = .returned (.agg #[.int .i64 (if 180000000 ≤ Int.tmod x 360000000 then wrap64 (-m) else n), .int .i64 (if 180000000 ≤ Int.tmod x 360000000 then wrap64 (-n) else m)]) ∧ Below w.heap.size w w' := by
  have HS := Lib.hid hs; have HX := Lib.hid hx; have HY := Lib.hid hy
  clear hs hx hy
  by_cases hd : 180000000 ≤ Int.tmod x 360000000 <;> cases ex
  · -- True, False
    have hd1 : decide (180000000 ≤ Int.tmod x 360000000) = true := decide_eq_true hd
    go_enter Tryz.func179, Tryz.ntmps179
    go_wp2_with fail
    rw [HX.out, HY.out]
    refine (angle_steep.calls _ _ _ _ _ HS.out).mono ?_
    rintro e w1 ⟨rfl, hb1⟩
    have c1_0 : ∀ o, w1.cell? ⟨w.heap.size, o, none⟩ = _ := fun o => bcell hb1 _ o (by first | (simp; done) | omega | (simp; omega))
    have f1_0 : ∀ o, w1.frozen? ⟨w.heap.size, o, none⟩ = _ := fun o => bfroz hb1 _ o (by first | (simp; done) | omega | (simp; omega))
    have hz1 := hb1.size
    try simp at hz1
    have l1_0 : w.heap.size < w1.heap.size := by omega
    have HB1 : Hid (Below w.heap.size w w1) := Lib.hid (after (by (repeat (first | (with_reducible exact Below.refl _ _) | (with_reducible assumption) | (with_reducible exact Hid.out (by assumption)) | (with_reducible refine Below.setCell ?_ (by first | (simp; done) | omega | (simp; omega)) _) | (with_reducible refine Below.alloc ?_ (by first | (simp; done) | omega | (simp; omega)) _) | (with_reducible refine Below.drew ?_) | (with_reducible refine pw_below_drewN ?_ _)))) hb1)
    clear hb1
    go_wp2_with fail
    refine (angle_opposite.calls _ _ _ _ _ rfl).mono ?_
    rintro e w2 ⟨rfl, hb2⟩
    have c2_0 : ∀ o, w2.cell? ⟨w.heap.size, o, none⟩ = _ := fun o => bcell hb2 _ o (by first | (simp; done) | omega | (simp; omega))
    have f2_0 : ∀ o, w2.frozen? ⟨w.heap.size, o, none⟩ = _ := fun o => bfroz hb2 _ o (by first | (simp; done) | omega | (simp; omega))
    have hz2 := hb2.size
    try simp at hz2
    have l2_0 : w.heap.size < w2.heap.size := by omega
    have HB2 : Hid (Below w.heap.size w w2) := Lib.hid (after (by (repeat (first | (with_reducible exact Below.refl _ _) | (with_reducible assumption) | (with_reducible exact Hid.out (by assumption)) | (with_reducible refine Below.setCell ?_ (by first | (simp; done) | omega | (simp; omega)) _) | (with_reducible refine Below.alloc ?_ (by first | (simp; done) | omega | (simp; omega)) _) | (with_reducible refine Below.drew ?_) | (with_reducible refine pw_below_drewN ?_ _)))) hb2)
    clear hb2
    go_wp2_with fail
    refine bodyPost_ret (v := .agg #[.int .i64 (wrap64 (-(wrap64 (n + 1)))), .int .i64 (wrap64 (-n))]) (by simp [results, Tryz.results179, go_sem, c1_0, f1_0, l1_0, c2_0, f2_0, l2_0]) rfl ⟨by subst hm; simp [hd], ?_⟩
    (repeat (first | (with_reducible exact Below.refl _ _) | (with_reducible assumption) | (with_reducible exact Hid.out (by assumption)) | (with_reducible refine Below.setCell ?_ (by first | (simp; done) | omega | (simp; omega)) _) | (with_reducible refine Below.alloc ?_ (by first | (simp; done) | omega | (simp; omega)) _) | (with_reducible refine Below.drew ?_) | (with_reducible refine pw_below_drewN ?_ _)))
  · -- True, True
    have hd1 : decide (180000000 ≤ Int.tmod x 360000000) = true := decide_eq_true hd
    go_enter Tryz.func179, Tryz.ntmps179
    go_wp2_with fail
    rw [HX.out, HY.out]
    refine (angle_steep.calls _ _ _ _ _ HS.out).mono ?_
    rintro e w1 ⟨rfl, hb1⟩
    have c1_0 : ∀ o, w1.cell? ⟨w.heap.size, o, none⟩ = _ := fun o => bcell hb1 _ o (by first | (simp; done) | omega | (simp; omega))
    have f1_0 : ∀ o, w1.frozen? ⟨w.heap.size, o, none⟩ = _ := fun o => bfroz hb1 _ o (by first | (simp; done) | omega | (simp; omega))
    have hz1 := hb1.size
    try simp at hz1
    have l1_0 : w.heap.size < w1.heap.size := by omega
    have HB1 : Hid (Below w.heap.size w w1) := Lib.hid (after (by (repeat (first | (with_reducible exact Below.refl _ _) | (with_reducible assumption) | (with_reducible exact Hid.out (by assumption)) | (with_reducible refine Below.setCell ?_ (by first | (simp; done) | omega | (simp; omega)) _) | (with_reducible refine Below.alloc ?_ (by first | (simp; done) | omega | (simp; omega)) _) | (with_reducible refine Below.drew ?_) | (with_reducible refine pw_below_drewN ?_ _)))) hb1)
    clear hb1
    go_wp2_with fail
    refine (angle_opposite.calls _ _ _ _ _ rfl).mono ?_
    rintro e w2 ⟨rfl, hb2⟩
    have c2_0 : ∀ o, w2.cell? ⟨w.heap.size, o, none⟩ = _ := fun o => bcell hb2 _ o (by first | (simp; done) | omega | (simp; omega))
    have f2_0 : ∀ o, w2.frozen? ⟨w.heap.size, o, none⟩ = _ := fun o => bfroz hb2 _ o (by first | (simp; done) | omega | (simp; omega))
    have hz2 := hb2.size
    try simp at hz2
    have l2_0 : w.heap.size < w2.heap.size := by omega
    have HB2 : Hid (Below w.heap.size w w2) := Lib.hid (after (by (repeat (first | (with_reducible exact Below.refl _ _) | (with_reducible assumption) | (with_reducible exact Hid.out (by assumption)) | (with_reducible refine Below.setCell ?_ (by first | (simp; done) | omega | (simp; omega)) _) | (with_reducible refine Below.alloc ?_ (by first | (simp; done) | omega | (simp; omega)) _) | (with_reducible refine Below.drew ?_) | (with_reducible refine pw_below_drewN ?_ _)))) hb2)
    clear hb2
    go_wp2_with fail
    refine bodyPost_ret (v := .agg #[.int .i64 (wrap64 (-n)), .int .i64 (wrap64 (-n))]) (by simp [results, Tryz.results179, go_sem, c1_0, f1_0, l1_0, c2_0, f2_0, l2_0]) rfl ⟨by subst hm; simp [hd], ?_⟩
    (repeat (first | (with_reducible exact Below.refl _ _) | (with_reducible assumption) | (with_reducible exact Hid.out (by assumption)) | (with_reducible refine Below.setCell ?_ (by first | (simp; done) | omega | (simp; omega)) _) | (with_reducible refine Below.alloc ?_ (by first | (simp; done) | omega | (simp; omega)) _) | (with_reducible refine Below.drew ?_) | (with_reducible refine pw_below_drewN ?_ _)))
  · -- False, False
    have hd1 : decide (180000000 ≤ Int.tmod x 360000000) = false := decide_eq_false hd
    go_enter Tryz.func179, Tryz.ntmps179
    go_wp2_with fail
    rw [HX.out, HY.out]
    refine (angle_steep.calls _ _ _ _ _ HS.out).mono ?_
    rintro e w1 ⟨rfl, hb1⟩
    have c1_0 : ∀ o, w1.cell? ⟨w.heap.size, o, none⟩ = _ := fun o => bcell hb1 _ o (by first | (simp; done) | omega | (simp; omega))
    have f1_0 : ∀ o, w1.frozen? ⟨w.heap.size, o, none⟩ = _ := fun o => bfroz hb1 _ o (by first | (simp; done) | omega | (simp; omega))
    have hz1 := hb1.size
    try simp at hz1
    have l1_0 : w.heap.size < w1.heap.size := by omega
    have HB1 : Hid (Below w.heap.size w w1) := Lib.hid (after (by (repeat (first | (with_reducible exact Below.refl _ _) | (with_reducible assumption) | (with_reducible exact Hid.out (by assumption)) | (with_reducible refine Below.setCell ?_ (by first | (simp; done) | omega | (simp; omega)) _) | (with_reducible refine Below.alloc ?_ (by first | (simp; done) | omega | (simp; omega)) _) | (with_reducible refine Below.drew ?_) | (with_reducible refine pw_below_drewN ?_ _)))) hb1)
    clear hb1
    go_wp2_with fail
    refine bodyPost_ret (v := .agg #[.int .i64 n, .int .i64 (wrap64 (n + 1))]) (by simp [results, Tryz.results179, go_sem, c1_0, f1_0, l1_0]) rfl ⟨by subst hm; simp [hd], ?_⟩
    (repeat (first | (with_reducible exact Below.refl _ _) | (with_reducible assumption) | (with_reducible exact Hid.out (by assumption)) | (with_reducible refine Below.setCell ?_ (by first | (simp; done) | omega | (simp; omega)) _) | (with_reducible refine Below.alloc ?_ (by first | (simp; done) | omega | (simp; omega)) _) | (with_reducible refine Below.drew ?_) | (with_reducible refine pw_below_drewN ?_ _)))
  · -- False, True
    have hd1 : decide (180000000 ≤ Int.tmod x 360000000) = false := decide_eq_false hd
    go_enter Tryz.func179, Tryz.ntmps179
    go_wp2_with fail
    rw [HX.out, HY.out]
    refine (angle_steep.calls _ _ _ _ _ HS.out).mono ?_
    rintro e w1 ⟨rfl, hb1⟩
    have c1_0 : ∀ o, w1.cell? ⟨w.heap.size, o, none⟩ = _ := fun o => bcell hb1 _ o (by first | (simp; done) | omega | (simp; omega))
    have f1_0 : ∀ o, w1.frozen? ⟨w.heap.size, o, none⟩ = _ := fun o => bfroz hb1 _ o (by first | (simp; done) | omega | (simp; omega))
    have hz1 := hb1.size
    try simp at hz1
    have l1_0 : w.heap.size < w1.heap.size := by omega
    have HB1 : Hid (Below w.heap.size w w1) := Lib.hid (after (by (repeat (first | (with_reducible exact Below.refl _ _) | (with_reducible assumption) | (with_reducible exact Hid.out (by assumption)) | (with_reducible refine Below.setCell ?_ (by first | (simp; done) | omega | (simp; omega)) _) | (with_reducible refine Below.alloc ?_ (by first | (simp; done) | omega | (simp; omega)) _) | (with_reducible refine Below.drew ?_) | (with_reducible refine pw_below_drewN ?_ _)))) hb1)
    clear hb1
    go_wp2_with fail
    refine bodyPost_ret (v := .agg #[.int .i64 n, .int .i64 n]) (by simp [results, Tryz.results179, go_sem, c1_0, f1_0, l1_0]) rfl ⟨by subst hm; simp [hd], ?_⟩
    (repeat (first | (with_reducible exact Below.refl _ _) | (with_reducible assumption) | (with_reducible exact Hid.out (by assumption)) | (with_reducible refine Below.setCell ?_ (by first | (simp; done) | omega | (simp; omega)) _) | (with_reducible refine Below.alloc ?_ (by first | (simp; done) | omega | (simp; omega)) _) | (with_reducible refine Below.drew ?_) | (with_reducible refine pw_below_drewN ?_ _)))
theorem angle_sine.calls (a0 : Int) (r1 r2 : Int) (w : World) (h : angle_sine.f a0 = some (r1, r2)) :
    Calls Tryz.prog 179 #[.int .i64 a0] w fun e w' => e = .returned (.agg #[.int .i64 r1, .int .i64 r2]) ∧ Below w.heap.size w w' := by
  obtain ⟨⟨n, ex⟩, hs, h⟩ := Option.bind_eq_some_iff.mp h
  have k1 := sine_walk a0 _ _ n _ ex rfl rfl hs rfl w
  simp only [Option.some.injEq] at h
  unfold preA at h
  refine k1.mono fun e w' ⟨he, hb⟩ => ⟨?_, hb⟩
  rw [he]
  split at h <;> rename_i hc <;> simp only [Prod.mk.injEq] at h <;> obtain ⟨rfl, rfl⟩ := h
  · rw [if_pos hc, if_pos hc]
  · rw [if_neg hc, if_neg hc]
end Go.Proofs.YtfoaglfnnomdkaaGreatDoor.C
