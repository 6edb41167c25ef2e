/- round.CheckProgramme, round.Benefit: contracts. -/
import Derived.Test.YtfoaglfnnomdkaaGreatDoorHandNamed
import Derived.Deep.QuietTactic
import Derived.BigQuiet
import Derived.Deep.RegionHeld3
import Derived.Test.YtfoaglfnnomdkaaGreatDoorCx77
set_option linter.all false
namespace Go.Proofs.YtfoaglfnnomdkaaGreatDoor.C
open Go.RowKit Go.Shelf Go.Proofs.YtfoaglfnnomdkaaGreatDoorW.PrintWords Go.Proofs.YtfoaglfnnomdkaaGreatDoorW.PrintMore

/-- What CheckProgramme returns. -/
def progF (assets : List S73) (budgets : List Int) (first days : Int) : Int × Int :=
  if 6 < assets.length then (-1, 3) else if 3 < budgets.length then (-1, 3) else
    if outB first 0 40000 = true then (-1, 7) else if outB days 1 4000 = true then (-1, 7) else if budgets.any (fun n => outB n 0 10000000) = true then (-1, 7) else
      namedF S73.f0 (restProg first) assets assets.length 0
set_option maxRecDepth 100000 in
set_option maxHeartbeats 1000000 in
theorem checkProg_calls {A0 : Option Addr} {c0 : Nat} {l0 : List S73} {A1 : Option Addr} {c1 : Nat} {l1 : List Int} {first days : Int} {w : World}
    (hr0 : Kd.C k73 w A0 l0.length l0) (hc0 : l0.length ≤ c0) (hr1 : Kd.C (Kd.int .i64) w A1 l1.length l1) (hs : ∀ x ∈ l0, x.f0.size ≤ 9223372036854775807) :
    Calls Tryz.prog 23 #[.agg #[.slice A0 l0.length c0, .slice A1 l1.length c1, .int .i64 first, .int .i64 days]] w fun e w' =>
      e = .returned (.tuple #[.int .i64 (progF l0 l1 first days).1, .int .i64 (progF l0 l1 first days).2]) ∧ Below w.heap.size w w' := by
  generalize hR : progF l0 l1 first days = R
  unfold progF at hR
  have H0 := Lib.hid hr0
  have H1 := Lib.hid hr1
  have HS := Lib.hid hs
  clear hr0 hr1 hs
  by_cases h6 : 6 < l0.length
  · rw [if_pos h6] at hR
    subst hR
    have h6' : (6 : Int) < (l0.length : Int) := by omega
    go_enter Tryz.func23, Tryz.ntmps23
    go_wp2_with fail
    go_ret2
    exact ⟨rfl, by (repeat (first | (with_reducible exact Below.refl _ _) | (with_reducible assumption) | (with_reducible exact Hid.out (by assumption)) | (with_reducible refine Below.setCell ?_ (by first | (simp; done) | omega | (simp; omega)) _) | (with_reducible refine Below.alloc ?_ (by first | (simp; done) | omega | (simp; omega)) _) | (with_reducible refine Below.drew ?_) | (with_reducible refine pw_below_drewN ?_ _)))⟩
  rw [if_neg h6] at hR
  have h6' : ¬ (6 : Int) < (l0.length : Int) := by omega
  by_cases h3 : 3 < l1.length
  · rw [if_pos h3] at hR
    subst hR
    have h3' : (3 : Int) < (l1.length : Int) := by omega
    go_enter Tryz.func23, Tryz.ntmps23
    go_wp2_with fail
    go_ret2
    exact ⟨rfl, by (repeat (first | (with_reducible exact Below.refl _ _) | (with_reducible assumption) | (with_reducible exact Hid.out (by assumption)) | (with_reducible refine Below.setCell ?_ (by first | (simp; done) | omega | (simp; omega)) _) | (with_reducible refine Below.alloc ?_ (by first | (simp; done) | omega | (simp; omega)) _) | (with_reducible refine Below.drew ?_) | (with_reducible refine pw_below_drewN ?_ _)))⟩
  rw [if_neg h3] at hR
  have h3' : ¬ (3 : Int) < (l1.length : Int) := by omega
  have HR := Lib.hid hR
  clear hR h6 h3
  go_enter Tryz.func23, Tryz.ntmps23
  go_wp2_with fail
  refine (out_calls _ _ _ _).mono ?_
  rintro e w1 ⟨rfl, rfl⟩
  cases ho1 : outB first 0 40000
  · have HO1 := Lib.hid ho1
    clear ho1
    go_wp2_with fail
    refine (out_calls _ _ _ _).mono ?_
    rintro e w1 ⟨rfl, rfl⟩
    cases ho2 : outB days 1 4000
    · have HO2 := Lib.hid ho2
      clear ho2
      go_wp2_with fail
      refine (contains_ints (p := fun n => outB n 0 10000000) (enters_of Tryz.func74 (by kernel_rfl) rfl) c1 (Kd.C_below H1.out ((Below.refl _ _).alloc (Nat.le_refl _) _)) (rich_pred _)).mono ?_
      rintro e w1 ⟨rfl, hb1⟩
      have p0 : w1.cell? ⟨w.heap.size, 0, none⟩ = some (.slice A0 l0.length c0) := keep_cell hb1 (by simp [go_sem])
      have p2 : w1.cell? ⟨w.heap.size, 2, none⟩ = some (.int .i64 first) := keep_cell hb1 (by simp [go_sem])
      have HB1 : Hid (Below w.heap.size w w1) := Lib.hid (after ((Below.refl _ _).alloc (Nat.le_refl _) _) hb1)
      clear hb1
      cases ho3 : l1.any (fun n => outB n 0 10000000)
      · have HO3 := Lib.hid ho3
        clear ho3
        go_wp2_with fail
        refine (named_assets (restProg first) 77 #[.pointer (some ⟨w.heap.size, 0, none⟩)] (enters_of Tryz.func77 (by kernel_rfl) rfl) c0 (Kd.C_below H0.out HB1.out) HS.out hc0 (fun x W hW => rest_calls first x w.heap.size W ((hW.cell (p := ⟨w.heap.size, 2, none⟩) (World.block_lt_of_cell? _ _ p2)).trans p2))).mono ?_
        rintro e w2 ⟨rfl, hb2⟩
        have HB2 : Hid (Below w.heap.size w w2) := Lib.hid (after HB1.out hb2)
        clear hb2 HB1 p0 p2
        go_wp2_with fail
        go_ret2
        refine ⟨?_, HB2.out⟩
        rw [← HR.out, HO1.out, HO2.out, HO3.out]
        rfl
      · have HO3 := Lib.hid ho3
        clear ho3
        go_wp2_with fail
        go_ret2
        refine ⟨?_, HB1.out⟩
        rw [← HR.out, HO1.out, HO2.out, HO3.out]
        rfl
    · have HO2 := Lib.hid ho2
      clear ho2
      go_wp2_with fail
      go_ret2
      refine ⟨?_, by (repeat (first | (with_reducible exact Below.refl _ _) | (with_reducible assumption) | (with_reducible exact Hid.out (by assumption)) | (with_reducible refine Below.setCell ?_ (by first | (simp; done) | omega | (simp; omega)) _) | (with_reducible refine Below.alloc ?_ (by first | (simp; done) | omega | (simp; omega)) _) | (with_reducible refine Below.drew ?_) | (with_reducible refine pw_below_drewN ?_ _)))⟩
      rw [← HR.out, HO1.out, HO2.out]
      rfl
  · have HO1 := Lib.hid ho1
    clear ho1
    go_wp2_with fail
    go_ret2
    refine ⟨?_, by (repeat (first | (with_reducible exact Below.refl _ _) | (with_reducible assumption) | (with_reducible exact Hid.out (by assumption)) | (with_reducible refine Below.setCell ?_ (by first | (simp; done) | omega | (simp; omega)) _) | (with_reducible refine Below.alloc ?_ (by first | (simp; done) | omega | (simp; omega)) _) | (with_reducible refine Below.drew ?_) | (with_reducible refine pw_below_drewN ?_ _)))⟩
    rw [← HR.out, HO1.out]
    rfl
def round_CheckProgramme.f (l0_0 : List S73) (l0_1 : List Int) (a0_2 a0_3 : Int) : Option (Int × Int) :=
  if (l0_0.all fun x => decide (x.f0.size ≤ 9223372036854775807)) = true then some (progF l0_0 l0_1 a0_2 a0_3) else none
theorem round_CheckProgramme.calls (A0_0 : Option Addr) (c0_0 : Nat) (l0_0 : List (S73)) (A0_1 : Option Addr) (c0_1 : Nat) (l0_1 : List Int) (a0_2 : Int) (a0_3 : Int) (r1 : Int) (r2 : Int) (w : World) (hr0_0 : Kd.C k73 w A0_0 l0_0.length l0_0) (hc0_0 : l0_0.length ≤ c0_0) (hr0_1 : Kd.C (Kd.int .i64) w A0_1 l0_1.length l0_1) (_hc0_1 : l0_1.length ≤ c0_1) (h : round_CheckProgramme.f l0_0 l0_1 a0_2 a0_3 = some (r1, r2)) :
    Calls Tryz.prog 23 #[.agg #[.slice A0_0 l0_0.length c0_0, .slice A0_1 l0_1.length c0_1, .int .i64 a0_2, .int .i64 a0_3]] w fun e w' => e = .returned (.tuple #[.int .i64 r1, .int .i64 r2]) ∧ Below w.heap.size w w' := by
  unfold round_CheckProgramme.f at h
  split at h
  · rename_i hs
    have h' := Option.some.inj h
    obtain rfl : (progF l0_0 l0_1 a0_2 a0_3).1 = r1 := by rw [h']
    obtain rfl : (progF l0_0 l0_1 a0_2 a0_3).2 = r2 := by rw [h']
    exact checkProg_calls hr0_0 hc0_0 hr0_1 (fun x hx => by have := List.all_eq_true.1 hs x hx; simpa using this)
  · cases h

/-! ### Benefit -/
def benV (l0 : List S73) (l1 : List Int) (first days : Int) (x : S73) (period : Int) : Int := (round_benefit.f l0 l1 first days x.f0 x.f1 x.f2 x.f3 x.f4 period).getD 0
theorem benV_some (l0 : List S73) (l1 : List Int) (first days : Int) (x : S73) (period : Int) : round_benefit.f l0 l1 first days x.f0 x.f1 x.f2 x.f3 x.f4 period = some (benV l0 l1 first days x period) := rfl
def benefitF (l0 : List S73) (l1 : List Int) (first days asset period : Int) : Int × Int :=
  if (progF l0 l1 first days).2 = 0 then
    if outB asset 0 ((l0.length : Int) - 1) = true then (0, 4) else if outB period 0 ((l1.length : Int) - 1) = true then (0, 4) else (benV l0 l1 first days l0[asset.toNat]! period, 0)
  else (0, (progF l0 l1 first days).2)
theorem outB_false {n lo hi : Int} (h : outB n lo hi = false) : lo ≤ n ∧ n ≤ hi := by
  unfold outB at h
  simp at h
  omega
set_option maxRecDepth 100000 in
set_option maxHeartbeats 1000000 in
theorem benefit_walk {A0 : Option Addr} {c0 : Nat} {l0 : List S73} {A1 : Option Addr} {c1 : Nat} {l1 : List Int} {first days asset period : Int} {w : World}
    (hr0 : Kd.C k73 w A0 l0.length l0) (hc0 : l0.length ≤ c0) (hr1 : Kd.C (Kd.int .i64) w A1 l1.length l1) (hc1 : l1.length ≤ c1) (hs : ∀ x ∈ l0, x.f0.size ≤ 9223372036854775807) :
    Calls Tryz.prog 25 #[.agg #[.slice A0 l0.length c0, .slice A1 l1.length c1, .int .i64 first, .int .i64 days], .int .i64 asset, .int .i64 period] w fun e w' =>
      e = .returned (.tuple #[.int .i64 (benefitF l0 l1 first days asset period).1, .int .i64 (benefitF l0 l1 first days asset period).2]) ∧ Below w.heap.size w w' := by
  generalize hR : benefitF l0 l1 first days asset period = R
  have HR := Lib.hid hR
  have H0 := Lib.hid hr0
  have H1 := Lib.hid hr1
  have HS := Lib.hid hs
  have hl0 := hr0.2.1
  have hl1 := hr1.2.1
  clear hr0 hr1 hs hR
  go_enter Tryz.func25, Tryz.ntmps25
  go_wp2_with fail
  refine (checkProg_calls (Kd.C_below H0.out ((Below.refl _ _).alloc (Nat.le_refl _) _)) hc0 (Kd.C_below H1.out ((Below.refl _ _).alloc (Nat.le_refl _) _)) HS.out).mono ?_
  rintro e w1 ⟨rfl, hb1⟩
  have p0 : w1.cell? ⟨w.heap.size, 0, none⟩ = some (.slice A0 l0.length c0) := keep_cell hb1 (by simp [go_sem])
  have p1 : w1.cell? ⟨w.heap.size, 1, none⟩ = some (.slice A1 l1.length c1) := keep_cell hb1 (by simp [go_sem])
  have p2 : w1.cell? ⟨w.heap.size, 2, none⟩ = some (.int .i64 first) := keep_cell hb1 (by simp [go_sem])
  have p3 : w1.cell? ⟨w.heap.size, 3, none⟩ = some (.int .i64 days) := keep_cell hb1 (by simp [go_sem])
  have HB1 : Hid (Below w.heap.size w w1) := Lib.hid (after ((Below.refl _ _).alloc (Nat.le_refl _) _) hb1)
  clear hb1
  generalize hP : progF l0 l1 first days = P
  obtain ⟨at_, er⟩ := P
  have HP := Lib.hid hP
  clear hP
  by_cases he : er = 0
  · subst he
    go_wp2_with fail
    refine (out_calls _ _ _ _).mono ?_
    rintro e w2 ⟨rfl, rfl⟩
    cases ho1 : outB asset 0 ((l0.length : Int) - 1)
    · obtain ⟨ha0, ha1⟩ := outB_false ho1
      have HO1 := Lib.hid ho1
      clear ho1
      go_wp2_with fail
      refine (out_calls _ _ _ _).mono ?_
      rintro e w2 ⟨rfl, rfl⟩
      cases ho2 : outB period 0 ((l1.length : Int) - 1)
      · have HO2 := Lib.hid ho2
        clear ho2
        go_wp2_with fail
        obtain ⟨i, rfl⟩ : ∃ i : Nat, asset = (i : Int) := ⟨asset.toNat, by omega⟩
        have hlt : i < l0.length := by omega
        have hlti : (i : Int) < (l0.length : Int) := by omega
        have hi0 : (0 : Int) ≤ (i : Int) := by omega
        obtain ⟨b, off, rfl, hb, hc⟩ := C_plain asset_K (by decide) H0.out (by omega)
        have hold : ∀ j v, (encAsset l0[i]!)[j]? = some v → w1.cell? ⟨b, off + i * 5 + j, none⟩ = some v := fun j v hv => (HB1.out.cell (p := ⟨b, off + i * 5 + j, none⟩) hb).trans (hc i hlt j v hv)
        have HX : Hid (l0[(i : Int).toNat]! = l0[i]!) := Lib.hid (by rw [Int.toNat_natCast])
        generalize l0[i]! = x at hold HX
        have e0 : w1.cell? ⟨b, off + i * 5, none⟩ = some (.string x.f0) := hold 0 _ rfl
        have e1 := hold 1 _ rfl
        have e2 := hold 2 _ rfl
        have e3 := hold 3 _ rfl
        have e4 := hold 4 _ rfl
        clear hold hc ha0 ha1
        go_region_held3 (fun W' => W'.cell? ⟨w.heap.size, 0, none⟩ = some (.slice (some ⟨b, off, none⟩) l0.length c0) ∧ W'.cell? ⟨w.heap.size, 1, none⟩ = some (.slice A1 l1.length c1) ∧ W'.cell? ⟨w.heap.size, 2, none⟩ = some (.int .i64 first) ∧ W'.cell? ⟨w.heap.size, 3, none⟩ = some (.int .i64 days) ∧
            W'.cell? ⟨b, off + i * 5, none⟩ = some (.string x.f0) ∧ W'.cell? ⟨b, off + i * 5 + 1, none⟩ = some (.int .i64 x.f1) ∧ W'.cell? ⟨b, off + i * 5 + 2, none⟩ = some (.int .i64 x.f2) ∧ W'.cell? ⟨b, off + i * 5 + 3, none⟩ = some (.int .i64 x.f3) ∧ W'.cell? ⟨b, off + i * 5 + 4, none⟩ = some (.int .i64 x.f4) ∧ Below w.heap.size w W')
          (first
            | (go_split_ands; exact ⟨keep_cell hb' (by assumption), keep_cell hb' (by assumption), keep_cell hb' (by assumption), keep_cell hb' (by assumption), keep_cell hb' (by assumption), keep_cell hb' (by assumption), keep_cell hb' (by assumption), keep_cell hb' (by assumption), keep_cell hb' (by assumption), after (by assumption) hb'⟩)
            | (go_split_ands; refine ⟨by simp [go_sem, *], by simp [go_sem, *], by simp [go_sem, *], by simp [go_sem, *], by simp [go_sem, *], by simp [go_sem, *], by simp [go_sem, *], by simp [go_sem, *], by simp [go_sem, *], ?_⟩; (repeat (first | (with_reducible exact Below.refl _ _) | (with_reducible assumption) | (with_reducible exact Hid.out (by assumption)) | (with_reducible refine Below.setCell ?_ (by first | (simp; done) | omega | (simp; omega)) _) | (with_reducible refine Below.alloc ?_ (by first | (simp; done) | omega | (simp; omega)) _) | (with_reducible refine Below.drew ?_) | (with_reducible refine pw_below_drewN ?_ _))))
            | go_keep)
          (first | (go_at_call 80; refine (round_benefit.calls _ _ l0 _ _ l1 _ _ x.f0 _ _ _ _ _ (benV l0 l1 first days x period) _ (Kd.C_below H0.out (by go_split_ands; assumption)) hc0 (Kd.C_below H1.out (by go_split_ands; assumption)) hc1 (benV_some _ _ _ _ _ _)).mono ?_; rintro e w' ⟨rfl, hb'⟩))
        go_wp2_with fail
        go_split_ands
        go_ret2
        refine ⟨?_, by assumption⟩
        rw [← HR.out]
        unfold benefitF
        rw [HP.out, if_pos rfl, if_neg (by rw [HO1.out]; simp), if_neg (by rw [HO2.out]; simp), HX.out]
        rfl
      · have HO2 := Lib.hid ho2
        clear ho2
        go_wp2_with fail
        go_ret2
        refine ⟨?_, HB1.out⟩
        rw [← HR.out]
        unfold benefitF
        rw [HP.out, if_pos rfl, if_neg (by rw [HO1.out]; simp), if_pos HO2.out]
        rfl
    · have HO1 := Lib.hid ho1
      clear ho1
      go_wp2_with fail
      go_ret2
      refine ⟨?_, HB1.out⟩
      rw [← HR.out]
      unfold benefitF
      rw [HP.out, if_pos rfl, if_pos HO1.out]
      rfl
  · go_wp2_with fail
    go_ret2
    refine ⟨?_, HB1.out⟩
    rw [← HR.out]
    unfold benefitF
    rw [HP.out, if_neg he]
    rfl
def round_Benefit.f (l0_0 : List S73) (l0_1 : List Int) (a0_2 a0_3 a1 a2 : Int) : Option (Int × Int) :=
  if (l0_0.all fun x => decide (x.f0.size ≤ 9223372036854775807)) = true then some (benefitF l0_0 l0_1 a0_2 a0_3 a1 a2) else none
theorem round_Benefit.calls (A0_0 : Option Addr) (c0_0 : Nat) (l0_0 : List (S73)) (A0_1 : Option Addr) (c0_1 : Nat) (l0_1 : List Int) (a0_2 : Int) (a0_3 : Int) (a1 : Int) (a2 : Int) (r1 : Int) (r2 : Int) (w : World) (hr0_0 : Kd.C k73 w A0_0 l0_0.length l0_0) (hc0_0 : l0_0.length ≤ c0_0) (hr0_1 : Kd.C (Kd.int .i64) w A0_1 l0_1.length l0_1) (hc0_1 : l0_1.length ≤ c0_1) (h : round_Benefit.f l0_0 l0_1 a0_2 a0_3 a1 a2 = some (r1, r2)) :
    Calls Tryz.prog 25 #[.agg #[.slice A0_0 l0_0.length c0_0, .slice A0_1 l0_1.length c0_1, .int .i64 a0_2, .int .i64 a0_3], .int .i64 a1, .int .i64 a2] w fun e w' => e = .returned (.tuple #[.int .i64 r1, .int .i64 r2]) ∧ Below w.heap.size w w' := by
  unfold round_Benefit.f at h
  split at h
  · rename_i hs
    have h' := Option.some.inj h
    obtain rfl : (benefitF l0_0 l0_1 a0_2 a0_3 a1 a2).1 = r1 := by rw [h']
    obtain rfl : (benefitF l0_0 l0_1 a0_2 a0_3 a1 a2).2 = r2 := by rw [h']
    exact benefit_walk hr0_0 hc0_0 hr0_1 hc0_1 (fun x hx => by have := List.all_eq_true.1 hs x hx; simpa using this)
  · cases h
end Go.Proofs.YtfoaglfnnomdkaaGreatDoor.C
