/- round.Bound: the contract. -/
import Derived.Test.YtfoaglfnnomdkaaGreatDoorHandProg
set_option linter.all false
namespace Go.Proofs.YtfoaglfnnomdkaaGreatDoor.C
open Go.RowKit Go.Shelf Go.Proofs.YtfoaglfnnomdkaaGreatDoorW.PrintWords Go.Proofs.YtfoaglfnnomdkaaGreatDoorW.PrintMore
attribute [local go_sem] max2_int

theorem dear_calls (n : Int) (w : World) : Calls Tryz.prog 87 #[.int .i64 n] w fun e w' => e = .returned (.bool (outB n 0 1000000)) ∧ w = w' := by
  go_enter Tryz.func87, Tryz.ntmps87
  go_wp2_with fail
  refine (out_calls _ _ _ _).mono ?_
  rintro e w1 ⟨rfl, rfl⟩
  go_wp2_with fail
  go_ret
  exact ⟨rfl, rfl⟩
theorem dear_pred (w : World) : PredAt Tryz.prog 87 #[] (Value.int .i64) (fun n => outB n 0 1000000) w :=
  fun W x _ => (dear_calls x W).mono fun e w' ⟨he, hw⟩ => ⟨he, 0, hw ▸ rfl⟩
/-- The prices of the budgets, from i on. -/
def bndSum (pr bu : List Int) : Nat → Nat → Int → Int
  | 0, _, acc => acc
  | f + 1, i, acc => bndSum pr bu f (i + 1) (wrap64 (acc + wrap64 (pr[i]! * bu[i]!)))
/-- The most that an asset is worth, from period i on. -/
def bndMost (l0 : List S73) (l1 : List Int) (first days : Int) (x : S73) (pr : List Int) : Nat → Nat → Int → Int
  | 0, _, acc => acc
  | f + 1, i, acc => bndMost l0 l1 first days x pr f (i + 1) (max acc (wrap64 (wrap64 (1000 * benV l0 l1 first days x (i : Int)) - wrap64 (pr[i]! * x.f1))))
def bndAll (l0 : List S73) (l1 : List Int) (first days : Int) (pr : List Int) : Nat → Nat → Int → Int
  | 0, _, acc => acc
  | f + 1, i, acc => bndAll l0 l1 first days pr f (i + 1) (wrap64 (acc + bndMost l0 l1 first days l0[i]! pr pr.length 0 0))
def boundF (l0 : List S73) (l1 : List Int) (first days : Int) (pr : List Int) : Int × Int :=
  if (progF l0 l1 first days).2 = 0 then
    if pr.length = l1.length then
      if pr.any (fun n => outB n 0 1000000) = true then (0, 7)
      else (wrap64 (Int.tdiv (bndAll l0 l1 first days pr l0.length 0 (bndSum pr l1 pr.length 0 0)) 1000), 0)
    else (0, 2)
  else (0, (progF l0 l1 first days).2)
theorem int_row {w : World} {A : Option Addr} {l : List Int} (h : (Kd.int .i64).C w A l.length l) (hn : 0 < l.length) : ∃ b off, A = some ⟨b, off, none⟩ ∧ b < w.heap.size ∧ ∀ j, j < l.length → w.cell? ⟨b, off + j, none⟩ = some (.int .i64 l[j]!) := by
  obtain ⟨b, off, rfl, hb, hc⟩ := C_plain int_K (by decide) h hn
  exact ⟨b, off, rfl, hb, fun j hj => by have := hc j hj 0 _ rfl; simpa [Kd.int, Kd.scalar] using this⟩
set_option maxRecDepth 100000 in
set_option maxHeartbeats 2000000 in
theorem bound_walk {A0 : Option Addr} {c0 : Nat} {l0 : List S73} {A1 : Option Addr} {c1 : Nat} {l1 : List Int} {first days : Int} {A2 : Option Addr} {c2 : Nat} {pr : List Int} {w : World}
    (hr0 : Kd.C k73 w A0 l0.length l0) (hc0 : l0.length ≤ c0) (hr1 : Kd.C (Kd.int .i64) w A1 l1.length l1) (hc1 : l1.length ≤ c1) (hr2 : Kd.C (Kd.int .i64) w A2 pr.length pr) (hs : ∀ x ∈ l0, x.f0.size ≤ 9223372036854775807) :
    Calls Tryz.prog 33 #[.agg #[.slice A0 l0.length c0, .slice A1 l1.length c1, .int .i64 first, .int .i64 days], .slice A2 pr.length c2] w fun e w' =>
      e = .returned (.tuple #[.int .i64 (boundF l0 l1 first days pr).1, .int .i64 (boundF l0 l1 first days pr).2]) ∧ Below w.heap.size w w' := by
  generalize hR : boundF l0 l1 first days pr = R
  unfold boundF at hR
  have H0 := Lib.hid hr0
  have H1 := Lib.hid hr1
  have H2 := Lib.hid hr2
  have HS := Lib.hid hs
  have hl0 := hr0.2.1
  have hl1 := hr1.2.1
  have hl2 := hr2.2.1
  clear hr0 hr1 hr2 hs
  generalize hP : progF l0 l1 first days = P at hR
  obtain ⟨at_, er⟩ := P
  have HP := Lib.hid hP
  have HR := Lib.hid hR
  clear hP hR
  go_enter Tryz.func33, Tryz.ntmps33
  go_wp2_with fail
  refine (checkProg_calls (Kd.C_below H0.out ((Below.refl _ _).alloc (Nat.le_refl _) _)) hc0 (Kd.C_below H1.out ((Below.refl _ _).alloc (Nat.le_refl _) _)) HS.out).mono ?_
  rw [HP.out]
  rintro e w1 ⟨rfl, hb1⟩
  have p0 : w1.cell? ⟨w.heap.size, 0, none⟩ = some (.slice A0 l0.length c0) := keep_cell hb1 (by simp [go_sem])
  have p1 : w1.cell? ⟨w.heap.size, 1, none⟩ = some (.slice A1 l1.length c1) := keep_cell hb1 (by simp [go_sem])
  have p2 : w1.cell? ⟨w.heap.size, 2, none⟩ = some (.int .i64 first) := keep_cell hb1 (by simp [go_sem])
  have p3 : w1.cell? ⟨w.heap.size, 3, none⟩ = some (.int .i64 days) := keep_cell hb1 (by simp [go_sem])
  have HB1 : Hid (Below w.heap.size w w1) := Lib.hid (after ((Below.refl _ _).alloc (Nat.le_refl _) _) hb1)
  clear hb1
  by_cases he : er = 0
  · subst he
    by_cases hn : pr.length = l1.length
    · have hR := HR.out
      rw [if_pos rfl, if_pos hn] at hR
      have hnn' : ((pr.length : Int) != (l1.length : Int)) = false := by simp; omega
      have HN := Lib.hid hn
      clear hn
      go_wp2_with fail
      refine (contains_ints (p := fun n => outB n 0 1000000) (enters_of Tryz.func87 (by kernel_rfl) rfl) c2 (Kd.C_below H2.out HB1.out) (dear_pred _)).mono ?_
      rintro e w2 ⟨rfl, hb2⟩
      replace p0 := keep_cell hb2 p0
      replace p1 := keep_cell hb2 p1
      replace p2 := keep_cell hb2 p2
      replace p3 := keep_cell hb2 p3
      have HB2 : Hid (Below w.heap.size w w2) := Lib.hid (after HB1.out hb2)
      clear hb2 HB1 HR
      cases ha : pr.any (fun n => outB n 0 1000000)
      · rw [ha, if_neg (by simp)] at hR
        have HA := Lib.hid ha
        clear ha
        generalize hS : bndSum pr l1 pr.length 0 0 = s0 at hR
        have HSm := Lib.hid hS
        generalize hT : bndAll l0 l1 first days pr l0.length 0 s0 = tot at hR
        have HT := Lib.hid hT
        have HR := Lib.hid hR
        clear hS hT hR
        clear hnn'
        go_wp2_with fail
        go_loop [8, 37] (fun s v => ∃ (i : Nat) (a : Int), i ≤ pr.length ∧ v = .int .i64 (i : Int) ∧ s = .int .i64 a ∧ Hid (bndSum pr l1 (pr.length - i) i a = s0)) (fun _ v => pr.length - (intOf v).toNat)
        case atStart => exact ⟨0, 0, Nat.zero_le _, rfl, rfl, HSm⟩
        case round =>
          obtain ⟨i, a, hi, rfl, rfl, hI⟩ := hrel
          by_cases hlt : i < pr.length
          · have hlti : (i : Int) < (pr.length : Int) := by omega
            have hlti1 : (i : Int) < (l1.length : Int) := by have := HN.out; omega
            have hltn : i < l1.length := by have := HN.out; omega
            obtain ⟨b2, o2, rfl, hb2, hc2⟩ := int_row H2.out (by omega)
            obtain ⟨b1, o1, rfl, hb1, hc1'⟩ := int_row H1.out (by omega)
            have e2 : w2.cell? ⟨b2, o2 + i, none⟩ = some (.int .i64 pr[i]!) := (HB2.out.cell (p := ⟨b2, o2 + i, none⟩) hb2).trans (hc2 i hlt)
            have e1 : w2.cell? ⟨b1, o1 + i, none⟩ = some (.int .i64 l1[i]!) := (HB2.out.cell (p := ⟨b1, o1 + i, none⟩) hb1).trans (hc1' i hltn)
            obtain ⟨m, hm⟩ : ∃ m, pr.length - i = m + 1 := ⟨pr.length - i - 1, by omega⟩
            have hm' : pr.length - (i + 1) = m := by omega
            have hI' := hI.out
            rw [hm, bndSum, ← hm'] at hI'
            have HI := Lib.hid hI'
            generalize pr[i]! = q at *
            generalize l1[i]! = u at *
            clear hI' hI hm hm' hc2 hc1'
            go_wp2_with fail
            go_round
            case rel => exact ⟨i + 1, _, by omega, by go_num, rfl, HI⟩
            case measure => simp [intOf]; omega
          · obtain rfl : i = pr.length := by omega
            have hI' := hI.out
            rw [Nat.sub_self, bndSum] at hI'
            subst hI'
            clear hI
            go_wp2_with fail
            go_loopw [8, 55] (fun s v wr => ∃ (i : Nat) (a : Int), i ≤ l0.length ∧ v = .int .i64 (i : Int) ∧ s = .int .i64 a ∧ Hid (bndAll l0 l1 first days pr (l0.length - i) i a = tot) ∧ Hid (Below w2.heap.size w2 wr)) (fun _ v _ => l0.length - (intOf v).toNat)
            case atStart => exact ⟨0, _, Nat.zero_le _, rfl, rfl, HT, Lib.hid (Below.refl _ _)⟩
            case round =>
              obtain ⟨i, a, hi, rfl, rfl, hI, hB⟩ := hrel
              replace p0 := keep_cell hB.out p0
              replace p1 := keep_cell hB.out p1
              replace p2 := keep_cell hB.out p2
              replace p3 := keep_cell hB.out p3
              have HB : Hid (Below w.heap.size w wr) := Lib.hid (after HB2.out hB.out)
              by_cases hlt : i < l0.length
              · have hlti : (i : Int) < (l0.length : Int) := by omega
                obtain ⟨b, off, rfl, hb, hc⟩ := C_plain asset_K (by decide) H0.out (by omega)
                have hold : ∀ j v, (encAsset l0[i]!)[j]? = some v → wr.cell? ⟨b, off + i * 5 + j, none⟩ = some v := fun j v hv => (HB.out.cell (p := ⟨b, off + i * 5 + j, none⟩) hb).trans (hc i hlt j v hv)
                obtain ⟨m, hm⟩ : ∃ m, l0.length - i = m + 1 := ⟨l0.length - i - 1, by omega⟩
                have hm' : l0.length - (i + 1) = m := by omega
                have hI' := hI.out
                rw [hm, bndAll, ← hm'] at hI'
                generalize l0[i]! = x at hold hI'
                generalize hM : bndMost l0 l1 first days x pr pr.length 0 0 = most at hI'
                have HM := Lib.hid hM
                have HI := Lib.hid hI'
                have e0 : wr.cell? ⟨b, off + i * 5, none⟩ = some (.string x.f0) := hold 0 _ rfl
                have e1 := hold 1 _ rfl
                have e2 := hold 2 _ rfl
                have e3 := hold 3 _ rfl
                have e4 := hold 4 _ rfl
                have hw0 : w.heap.size < wr.heap.size := World.block_lt_of_cell? _ _ p0
                clear hold hI hI' hM hm hm' hc
                go_wp2_with fail
                have q0 : (wr.alloc (.cells (encAsset x).toArray 73)).cell? ⟨w.heap.size, 0, none⟩ = _ := (World.cell?_alloc_lt _ _ _ hw0).trans p0
                have q1 : (wr.alloc (.cells (encAsset x).toArray 73)).cell? ⟨w.heap.size, 1, none⟩ = _ := (World.cell?_alloc_lt _ _ _ hw0).trans p1
                have q2 : (wr.alloc (.cells (encAsset x).toArray 73)).cell? ⟨w.heap.size, 2, none⟩ = _ := (World.cell?_alloc_lt _ _ _ hw0).trans p2
                have q3 : (wr.alloc (.cells (encAsset x).toArray 73)).cell? ⟨w.heap.size, 3, none⟩ = _ := (World.cell?_alloc_lt _ _ _ hw0).trans p3
                have x0 : (wr.alloc (.cells (encAsset x).toArray 73)).cell? ⟨wr.heap.size, 0, none⟩ = some (.string x.f0) := by simp [go_sem, encAsset]
                have x1 : (wr.alloc (.cells (encAsset x).toArray 73)).cell? ⟨wr.heap.size, 1, none⟩ = some (.int .i64 x.f1) := by simp [go_sem, encAsset]
                have x2 : (wr.alloc (.cells (encAsset x).toArray 73)).cell? ⟨wr.heap.size, 2, none⟩ = some (.int .i64 x.f2) := by simp [go_sem, encAsset]
                have x3 : (wr.alloc (.cells (encAsset x).toArray 73)).cell? ⟨wr.heap.size, 3, none⟩ = some (.int .i64 x.f3) := by simp [go_sem, encAsset]
                have x4 : (wr.alloc (.cells (encAsset x).toArray 73)).cell? ⟨wr.heap.size, 4, none⟩ = some (.int .i64 x.f4) := by simp [go_sem, encAsset]
                have HB3 : Hid (Below w.heap.size w (wr.alloc (.cells (encAsset x).toArray 73))) := Lib.hid (HB.out.alloc (by omega) _)
                have HB4 : Hid (Below w2.heap.size w2 (wr.alloc (.cells (encAsset x).toArray 73))) := Lib.hid (hB.out.alloc hB.out.size _)
                have hz3 : wr.heap.size < (wr.alloc (.cells (encAsset x).toArray 73)).heap.size := by simp
                change Code.wp _ _ _ _ (wr.alloc (.cells (encAsset x).toArray 73))
                generalize (wr.alloc (.cells (encAsset x).toArray 73)) = w3 at *
                clear p0 p1 p2 p3 e0 e1 e2 e3 e4 HB hB
                generalize wr.heap.size = Bx at *
                clear wr
                go_loopw [13, 61] (fun s v wr => ∃ (j : Nat) (a2 : Int), j ≤ pr.length ∧ v = .int .i64 (j : Int) ∧ s = .int .i64 a2 ∧ Hid (bndMost l0 l1 first days x pr (pr.length - j) j a2 = most) ∧ Hid (Below w3.heap.size w3 wr)) (fun _ v _ => pr.length - (intOf v).toNat)
                case atStart => exact ⟨0, _, Nat.zero_le _, rfl, rfl, HM, Lib.hid (Below.refl _ _)⟩
                case round =>
                  obtain ⟨j, a2, hj, rfl, rfl, hJ, hC⟩ := hrel
                  by_cases hjt : j < pr.length
                  · have hjti : (j : Int) < (pr.length : Int) := by omega
                    obtain ⟨b2, o2, rfl, hb2, hc2⟩ := int_row H2.out (by omega)
                    have f2 : wr.cell? ⟨b2, o2 + j, none⟩ = some (.int .i64 pr[j]!) := (hC.out.cell (p := ⟨b2, o2 + j, none⟩) (Nat.lt_of_lt_of_le hb2 HB3.out.size)).trans ((HB3.out.cell (p := ⟨b2, o2 + j, none⟩) hb2).trans (hc2 j hjt))
                    obtain ⟨m2, hm2⟩ : ∃ m, pr.length - j = m + 1 := ⟨pr.length - j - 1, by omega⟩
                    have hm2' : pr.length - (j + 1) = m2 := by omega
                    have hJ' := hJ.out
                    rw [hm2, bndMost, ← hm2'] at hJ'
                    have HJ := Lib.hid hJ'
                    generalize pr[j]! = q at *
                    have y0 := keep_cell hC.out q0
                    have y1 := keep_cell hC.out q1
                    have y2 := keep_cell hC.out q2
                    have y3 := keep_cell hC.out q3
                    have z0 := keep_cell hC.out x0
                    have z1 := keep_cell hC.out x1
                    have z2 := keep_cell hC.out x2
                    have z3 := keep_cell hC.out x3
                    have z4 := keep_cell hC.out x4
                    have hC' := hC.out
                    clear hJ' hJ hm2 hm2' hc2
                    go_wp2_with fail
                    go_region_held3 (fun W' => W'.cell? ⟨w.heap.size, 0, none⟩ = some (.slice (some ⟨b, off, none⟩) l0.length c0) ∧ W'.cell? ⟨w.heap.size, 1, none⟩ = some (.slice A1 l1.length c1) ∧ W'.cell? ⟨w.heap.size, 2, none⟩ = some (.int .i64 first) ∧ W'.cell? ⟨w.heap.size, 3, none⟩ = some (.int .i64 days) ∧ W'.cell? ⟨Bx, 0, none⟩ = some (.string x.f0) ∧ W'.cell? ⟨Bx, 1, none⟩ = some (.int .i64 x.f1) ∧ W'.cell? ⟨Bx, 2, none⟩ = some (.int .i64 x.f2) ∧ W'.cell? ⟨Bx, 3, none⟩ = some (.int .i64 x.f3) ∧ W'.cell? ⟨Bx, 4, none⟩ = some (.int .i64 x.f4) ∧ Below w3.heap.size w3 W')
                      (first
                        | (go_split_ands; exact ⟨keep_cell hb' (by assumption), keep_cell hb' (by assumption), keep_cell hb' (by assumption), keep_cell hb' (by assumption), keep_cell hb' (by assumption), keep_cell hb' (by assumption), keep_cell hb' (by assumption), keep_cell hb' (by assumption), keep_cell hb' (by assumption), after (by assumption) hb'⟩)
                        | (go_split_ands; refine ⟨by simp [go_sem, *], by simp [go_sem, *], by simp [go_sem, *], by simp [go_sem, *], by simp [go_sem, *], by simp [go_sem, *], by simp [go_sem, *], by simp [go_sem, *], by simp [go_sem, *], ?_⟩; (repeat (first | (with_reducible exact Below.refl _ _) | (with_reducible assumption) | (with_reducible exact Hid.out (by assumption)) | (with_reducible refine Below.setCell ?_ (by first | (simp; done) | omega | (simp; omega)) _) | (with_reducible refine Below.alloc ?_ (by first | (simp; done) | omega | (simp; omega)) _) | (with_reducible refine Below.drew ?_) | (with_reducible refine pw_below_drewN ?_ _))))
                        | go_keep)
                      (first | (go_at_call 80; refine (round_benefit.calls _ _ l0 _ _ l1 _ _ x.f0 _ _ _ _ _ (benV l0 l1 first days x (j : Int)) _ (Kd.C_below H0.out (after HB3.out (by go_split_ands; assumption))) hc0 (Kd.C_below H1.out (after HB3.out (by go_split_ands; assumption))) hc1 (benV_some _ _ _ _ _ _)).mono ?_; rintro e w' ⟨rfl, hb'⟩))
                    go_wp2_with fail
                    go_split_ands
                    exact ⟨⟨j + 1, _, by omega, by go_num, rfl, Lib.hid (by have h := HJ.out; simp only [wrap64, ← IntKind.wrap_i64] at h; exact h), Lib.hid (by assumption)⟩, by simp [intOf]; omega⟩
                  · obtain rfl : j = pr.length := by omega
                    have hJ' := hJ.out
                    rw [Nat.sub_self, bndMost] at hJ'
                    subst hJ'
                    clear hJ
                    go_wp2_with fail
                    go_roundw
                    case rel => exact ⟨i + 1, _, by omega, by go_num, rfl, HI.out, after HB4.out hC.out⟩
                    case measure => simp [intOf]; omega
              · obtain rfl : i = l0.length := by omega
                have hI' := hI.out
                rw [Nat.sub_self, bndAll] at hI'
                subst hI'
                clear hI
                have hR := HR.out
                subst hR
                go_wp2_with fail
                go_ret2
                exact ⟨rfl, HB.out⟩
      · rw [ha, if_pos rfl] at hR
        subst hR
        clear ha
        go_wp2_with fail
        go_ret2
        exact ⟨rfl, HB2.out⟩
    · have hR := HR.out
      rw [if_pos rfl, if_neg hn] at hR
      subst hR
      have hnn : ((pr.length : Int) == (l1.length : Int)) = false := by simp; omega
      have hnn' : ((pr.length : Int) != (l1.length : Int)) = true := by simp; omega
      clear HR
      go_wp2_with fail
      go_ret2
      exact ⟨rfl, HB1.out⟩
  · have hR := HR.out
    rw [if_neg he] at hR
    subst hR
    clear HR
    go_wp2_with fail
    go_ret2
    exact ⟨rfl, HB1.out⟩
def round_Bound.f (l0_0 : List S73) (l0_1 : List Int) (a0_2 a0_3 : Int) (l1 : List Int) : Option (Int × Int) :=
  if (l0_0.all fun x => decide (x.f0.size ≤ 9223372036854775807)) = true then some (boundF l0_0 l0_1 a0_2 a0_3 l1) else none
theorem round_Bound.calls (A0_0 : Option Addr) (c0_0 : Nat) (l0_0 : List (S73)) (A0_1 : Option Addr) (c0_1 : Nat) (l0_1 : List Int) (a0_2 : Int) (a0_3 : Int) (A1 : Option Addr) (c1 : Nat) (l1 : List Int) (r1 : Int) (r2 : Int) (w : World) (hr0_0 : Kd.C k73 w A0_0 l0_0.length l0_0) (hc0_0 : l0_0.length ≤ c0_0) (hr0_1 : Kd.C (Kd.int .i64) w A0_1 l0_1.length l0_1) (hc0_1 : l0_1.length ≤ c0_1) (hr1 : Kd.C (Kd.int .i64) w A1 l1.length l1) (_hc1 : l1.length ≤ c1) (h : round_Bound.f l0_0 l0_1 a0_2 a0_3 l1 = some (r1, r2)) :
    Calls Tryz.prog 33 #[.agg #[.slice A0_0 l0_0.length c0_0, .slice A0_1 l0_1.length c0_1, .int .i64 a0_2, .int .i64 a0_3], .slice A1 l1.length c1] w fun e w' => e = .returned (.tuple #[.int .i64 r1, .int .i64 r2]) ∧ Below w.heap.size w w' := by
  unfold round_Bound.f at h
  split at h
  · rename_i hs
    have h' := Option.some.inj h
    obtain rfl : (boundF l0_0 l0_1 a0_2 a0_3 l1).1 = r1 := by rw [h']
    obtain rfl : (boundF l0_0 l0_1 a0_2 a0_3 l1).2 = r2 := by rw [h']
    exact bound_walk hr0_0 hc0_0 hr0_1 hc0_1 hr1 (fun x hx => by have := List.all_eq_true.1 hs x hx; simpa using this)
  · cases h
end Go.Proofs.YtfoaglfnnomdkaaGreatDoor.C
