/- The texts Cx86, Cx87, Cx89, Cx88, HandProgOk, HandPureB, HandBenefits of the notes, in one. -/
import Derived.Test.YtfoaglfnnomdkaaGreatDoorCx0
import Derived.Test.YtfoaglfnnomdkaaGreatDoorHandProg
import Derived.Test.YtfoaglfnnomdkaaGreatDoorHandAwake
set_option linter.all false
-- Written by a program of this session (wip/tools/print2.py, over the kit's print tool); Lean checks it.
namespace Go.Proofs.YtfoaglfnnomdkaaGreatDoor.C
open Go.RowKit Go.Proofs.YtfoaglfnnomdkaaGreatDoorW.PrintWords Go.Proofs.YtfoaglfnnomdkaaGreatDoorW.PrintLast Go.Proofs.YtfoaglfnnomdkaaGreatDoorW.PrintMore
attribute [local go_sem] max2_int min2_int max_two min_two max_three min_three max_four min_four   -- for this text's walks alone
set_option linter.unusedVariables false
set_option linter.unusedSimpArgs false

/-! ### linkboyref11_in: function 78 -/
def linkboyref11_in.f (a0 : Int) (a1 : Int) (a2 : Int) : Option (Bool) := if a0 ≥ a1 then (some (decide (a0 ≤ a2))) else (some false)
set_option maxHeartbeats 8000000 in
set_option maxRecDepth 100000 in
theorem linkboyref11_in.calls (a0 : Int) (a1 : Int) (a2 : Int) (r : Bool) (w : World) (h : linkboyref11_in.f a0 a1 a2 = some r) :
    Calls Tryz.prog 78 #[.int .i64 a0, .int .i64 a1, .int .i64 a2] w fun e w' => e = .returned (.bool r) ∧ Drawn0 w w' := by
  have H : (if a0 ≥ a1 then (some (decide (a0 ≤ a2))) else (some false)) = some r := h
  clear h
  by_cases c4 : a0 ≥ a1
  · rw [if_pos c4] at H
    have c4b0 : decide (a1 ≤ a0) = true := decide_eq_true c4
    clear c4
    obtain rfl := Option.some.inj H
    go_enter Tryz.func78, Tryz.ntmps78
    go_wp2
    go_ret
    exact ⟨by first | rfl | (simp; done) | (simp [*]; done), by repeat (first | exact Drawn0.refl _ | apply Drawn0.step)⟩
  · rw [if_neg c4] at H
    have c4b0 : decide (a1 ≤ a0) = false := decide_eq_false c4
    clear c4
    obtain rfl := Option.some.inj H
    go_enter Tryz.func78, Tryz.ntmps78
    go_wp2
    go_ret
    exact ⟨by first | rfl | (simp; done) | (simp [*]; done), by repeat (first | exact Drawn0.refl _ | apply Drawn0.step)⟩

end Go.Proofs.YtfoaglfnnomdkaaGreatDoor.C

-- Written by a program of this session (wip/tools/print2.py, over the kit's print tool); Lean checks it.
namespace Go.Proofs.YtfoaglfnnomdkaaGreatDoor.C
open Go.RowKit Go.Proofs.YtfoaglfnnomdkaaGreatDoorW.PrintWords Go.Proofs.YtfoaglfnnomdkaaGreatDoorW.PrintLast Go.Proofs.YtfoaglfnnomdkaaGreatDoorW.PrintMore
attribute [local go_sem] max2_int min2_int max_two min_two max_three min_three max_four min_four   -- for this text's walks alone
set_option linter.unusedVariables false
set_option linter.unusedSimpArgs false

/-! ### linkboyref02_Name: function 79 -/
mutual
def linkboyref02_Name.j0 : Nat → ByteArray → Bool → Option (Bool)
  | 0, _, _ => none
  | k + 1, x0, x21 => if x21 = true then (some false) else (linkboyref02_Name.l0 k x0 0)
def linkboyref02_Name.l0 : Nat → ByteArray → Int → Option (Bool)
  | 0, _, _ => none
  | k + 1, x0, x3 => if x3 < (x0.size : Int) then (if 0 ≤ x3 then (if (bt x0 x3) ≥ 97 then (if (bt x0 x3) ≤ 122 then (linkboyref02_Name.l0 k x0 (wrap64 (x3 + 1))) else (if (bt x0 x3) ≥ 48 then (if (bt x0 x3) ≤ 57 then (linkboyref02_Name.l0 k x0 (wrap64 (x3 + 1))) else (if ((bt x0 x3) = 45) then (linkboyref02_Name.l0 k x0 (wrap64 (x3 + 1))) else (some false))) else (if ((bt x0 x3) = 45) then (linkboyref02_Name.l0 k x0 (wrap64 (x3 + 1))) else (some false)))) else (if (bt x0 x3) ≥ 48 then (if (bt x0 x3) ≤ 57 then (linkboyref02_Name.l0 k x0 (wrap64 (x3 + 1))) else (if ((bt x0 x3) = 45) then (linkboyref02_Name.l0 k x0 (wrap64 (x3 + 1))) else (some false))) else (if ((bt x0 x3) = 45) then (linkboyref02_Name.l0 k x0 (wrap64 (x3 + 1))) else (some false)))) else (none)) else (some true)
end
def linkboyref02_Name.f (k : Nat) (a0 : ByteArray) : Option (Bool) := if (a0.size : Int) < 1 then (linkboyref02_Name.j0 k a0 true) else (if (a0.size : Int) > 24 then (linkboyref02_Name.j0 k a0 true) else (if 0 < (a0.size : Int) then (if (bt a0 0) < 97 then (linkboyref02_Name.j0 k a0 true) else (linkboyref02_Name.j0 k a0 (decide ((bt a0 0) > 122)))) else (none)))
theorem linkboyref02_Name.mono_l : ∀ k, (∀ y0 y1, LeO (linkboyref02_Name.j0 k y0 y1) (linkboyref02_Name.j0 (k + 1) y0 y1)) ∧ (∀ y0 y1, LeO (linkboyref02_Name.l0 k y0 y1) (linkboyref02_Name.l0 (k + 1) y0 y1))
  | 0 => ⟨fun _ _ r h => by simp [linkboyref02_Name.j0] at h, fun _ _ r h => by simp [linkboyref02_Name.l0] at h⟩
  | k + 1 => by
    obtain ⟨ih0, ih1⟩ := linkboyref02_Name.mono_l k
    refine ⟨?_, ?_⟩
    · intro y0 y1
      unfold linkboyref02_Name.j0
      repeat' first
      | (with_reducible exact ih0 _ _)
      | (with_reducible exact ih1 _ _)
      | (with_reducible exact LeO.refl _)
      | (with_reducible exact LeO.none _)
      | (with_reducible refine LeO.ite ?_ ?_)
      | (with_reducible refine LeO.bind ?_ (fun _ => ?_))
      | exact ih0 _ _
      | exact ih1 _ _
      | exact LeO.none _
      | refine LeO.ite ?_ ?_
      | refine LeO.bind ?_ (fun _ => ?_)
    · intro y0 y1
      unfold linkboyref02_Name.l0
      repeat' first
      | (with_reducible exact ih0 _ _)
      | (with_reducible exact ih1 _ _)
      | (with_reducible exact LeO.refl _)
      | (with_reducible exact LeO.none _)
      | (with_reducible refine LeO.ite ?_ ?_)
      | (with_reducible refine LeO.bind ?_ (fun _ => ?_))
      | exact ih0 _ _
      | exact ih1 _ _
      | exact LeO.none _
      | refine LeO.ite ?_ ?_
      | refine LeO.bind ?_ (fun _ => ?_)
theorem linkboyref02_Name.mono : ∀ a0 k, LeO (linkboyref02_Name.f k a0) (linkboyref02_Name.f (k + 1) a0) := by
  intro a0 k
  obtain ⟨ih0, ih1⟩ := linkboyref02_Name.mono_l k
  unfold linkboyref02_Name.f
  repeat' first
      | (with_reducible exact ih0 _ _)
      | (with_reducible exact ih1 _ _)
      | (with_reducible exact LeO.refl _)
      | (with_reducible exact LeO.none _)
      | (with_reducible refine LeO.ite ?_ ?_)
      | (with_reducible refine LeO.bind ?_ (fun _ => ?_))
      | exact ih0 _ _
      | exact ih1 _ _
      | exact LeO.none _
      | refine LeO.ite ?_ ?_
      | refine LeO.bind ?_ (fun _ => ?_)
set_option maxHeartbeats 8000000 in
set_option maxRecDepth 100000 in
theorem linkboyref02_Name.calls (k : Nat) (a0 : ByteArray) (r : Bool) (w : World) (h : linkboyref02_Name.f k a0 = some r) :
    Calls Tryz.prog 79 #[.string a0] w fun e w' => e = .returned (.bool r) ∧ Drawn0 w w' := by
  have H : (if (a0.size : Int) < 1 then (linkboyref02_Name.j0 k a0 true) else (if (a0.size : Int) > 24 then (linkboyref02_Name.j0 k a0 true) else (if 0 < (a0.size : Int) then (if (bt a0 0) < 97 then (linkboyref02_Name.j0 k a0 true) else (linkboyref02_Name.j0 k a0 (decide ((bt a0 0) > 122)))) else (none)))) = some r := h
  clear h
  have HC2 := Aside0.mk H
  clear H
  go_enter Tryz.func79, Tryz.ntmps79
  go_upto_region 1 with (fail)
  go_cut [21] (fun v21 wc => ∃ (kq : Nat) (x21_1 : Bool), v21 = .bool x21_1 ∧ Aside0 (linkboyref02_Name.j0 kq a0 x21_1 = some r) ∧ Aside0 (kq ≤ k) ∧ Drawn0 w wc)
  case first =>
    have H := HC2.out
    clear HC2
    by_cases c3 : (a0.size : Int) < 1
    · rw [if_pos c3] at H
      have c3b0 : decide ((a0.size : Int) < 1) = true := decide_eq_true c3
      have c3b1 : decide (a0.size < 1) = true := decide_eq_true (by omega)
      clear c3
      (first | rw [c3b0] | (simp only [i64_w, i32_w]; rw [c3b0]) | skip)
      have H' := Aside0.mk H
      clear H
      go_wp2
      go_meet
      case rel => exact ⟨_, (true), (by first | rfl | (simp; done) | (simp [*]; done)), H', ⟨by first | omega | exact Nat.le_refl _⟩, by repeat (first | exact Drawn0.refl _ | apply Drawn0.step)⟩
    · rw [if_neg c3] at H
      have c3b0 : decide ((a0.size : Int) < 1) = false := decide_eq_false c3
      have c3b1 : decide (a0.size < 1) = false := decide_eq_false (by omega)
      clear c3
      (first | rw [c3b0] | (simp only [i64_w, i32_w]; rw [c3b0]) | skip)
      by_cases c4 : (a0.size : Int) > 24
      · rw [if_pos c4] at H
        have c4b0 : decide (24 < (a0.size : Int)) = true := decide_eq_true c4
        have c4b1 : decide (24 < a0.size) = true := decide_eq_true (by omega)
        clear c4
        have H' := Aside0.mk H
        clear H
        go_wp2
        go_meet
        case rel => exact ⟨_, (true), (by first | rfl | (simp; done) | (simp [*]; done)), H', ⟨by first | omega | exact Nat.le_refl _⟩, by repeat (first | exact Drawn0.refl _ | apply Drawn0.step)⟩
      · rw [if_neg c4] at H
        have c4b0 : decide (24 < (a0.size : Int)) = false := decide_eq_false c4
        have c4b1 : decide (24 < a0.size) = false := decide_eq_false (by omega)
        clear c4
        by_cases c5 : 0 < (a0.size : Int)
        · rw [if_pos c5] at H
          have c5b0 : decide (0 < (a0.size : Int)) = true := decide_eq_true c5
          have c5b1 : decide (0 < a0.size) = true := decide_eq_true (by omega)
          clear c5
          by_cases c7 : (bt a0 0) < 97
          · rw [if_pos c7] at H
            have c7b0 : decide ((bt a0 0) < 97) = true := decide_eq_true c7
            clear c7
            have H' := Aside0.mk H
            clear H
            have p6 : 0 ≤ (0 : Int) := (by omega)
            have q6 : 0 < a0.size := (by have : (0 : Int) < (a0.size : Int) := of_decide_eq_true (by first | (with_reducible assumption) | assumption); omega)
            have hx6 : ∀ h : 0 < a0.size, ((a0[0]'h).toNat : Int) = bt a0 0 := bt_at a0 0
            clear p6
            have qi6 : (0 < (a0.size : Int)) = True := eq_true (of_decide_eq_true (by first | (with_reducible assumption) | assumption))
            replace q6 := eq_true q6
            go_wp2
            go_meet
            case rel => exact ⟨_, (true), (by first | rfl | (simp; done) | (simp [*]; done)), H', ⟨by first | omega | exact Nat.le_refl _⟩, by repeat (first | exact Drawn0.refl _ | apply Drawn0.step)⟩
          · rw [if_neg c7] at H
            have c7b0 : decide ((bt a0 0) < 97) = false := decide_eq_false c7
            clear c7
            have H' := Aside0.mk H
            clear H
            have p6 : 0 ≤ (0 : Int) := (by omega)
            have q6 : 0 < a0.size := (by have : (0 : Int) < (a0.size : Int) := of_decide_eq_true (by first | (with_reducible assumption) | assumption); omega)
            have hx6 : ∀ h : 0 < a0.size, ((a0[0]'h).toNat : Int) = bt a0 0 := bt_at a0 0
            clear p6
            have qi6 : (0 < (a0.size : Int)) = True := eq_true (of_decide_eq_true (by first | (with_reducible assumption) | assumption))
            replace q6 := eq_true q6
            have p8 : 0 ≤ (0 : Int) := (by omega)
            have q8 : 0 < a0.size := (by have : (0 : Int) < (a0.size : Int) := of_decide_eq_true (by first | (with_reducible assumption) | assumption); omega)
            have hx8 : ∀ h : 0 < a0.size, ((a0[0]'h).toNat : Int) = bt a0 0 := bt_at a0 0
            clear p8
            have qi8 : (0 < (a0.size : Int)) = True := eq_true (of_decide_eq_true (by first | (with_reducible assumption) | assumption))
            replace q8 := eq_true q8
            go_wp2
            go_meet
            case rel => exact ⟨_, (decide ((bt a0 0) > 122)), (by first | rfl | (simp; done) | (simp [*]; done)), H', ⟨by first | omega | exact Nat.le_refl _⟩, by repeat (first | exact Drawn0.refl _ | apply Drawn0.step)⟩
        · rw [if_neg c5] at H
          exact absurd H (by simp)
  case rest =>
    clear HC2
    try clear p2
    try clear c3
    try clear c3b0
    try clear c3b1
    try clear c4
    try clear c4b0
    try clear c4b1
    try clear c5
    try clear c5b0
    try clear c5b1
    try clear p6
    try clear q6
    try clear hx6
    try clear qi6
    try clear c7
    try clear c7b0
    try clear p8
    try clear q8
    try clear hx8
    try clear qi8
    try clear p6
    try clear p8
    try clear q6
    try clear q8
    obtain ⟨kq, x21_1, rfl, HA, HJ1, ⟨mc1, rfl⟩⟩ := hcut
    cases kq with
    | zero => exact absurd HA.out (by simp [linkboyref02_Name.j0])
    | succ kj1 =>
      have H := HA.out
      clear HA
      simp only [linkboyref02_Name.j0] at H
      by_cases c9 : x21_1 = true
      · subst c9
        have H1 : (some false) = some r := by rw [if_pos rfl] at H; exact H
        clear H
        have H := H1
        clear H1
        obtain rfl := Option.some.inj H
        go_wp2
        go_ret
        exact ⟨by first | rfl | (simp; done) | (simp [*]; done), by repeat (first | exact Drawn0.refl _ | apply Drawn0.step)⟩
      · replace c9 := Bool.eq_false_iff.mpr c9
        subst c9
        have H1 : (linkboyref02_Name.l0 kj1 a0 0) = some r := by rw [if_neg (show ¬ (false = true) by decide)] at H; exact H
        clear H
        have H := H1
        clear H1
        have H' := Aside0.mk H
        clear H
        go_wp2
        go_loopg [3] kj1 (fun kq v3 w' => ∃ (x3_2 : Int), v3 = .int .i64 x3_2 ∧ Aside0 (linkboyref02_Name.l0 kq a0 x3_2 = some r) ∧ Aside0 (kq ≤ kj1) ∧ Drawn0 w w')
        case atStart => exact ⟨(0), (by first | rfl | (simp; done) | (simp [*]; done)), H', ⟨Nat.le_refl _⟩, by repeat (first | exact Drawn0.refl _ | apply Drawn0.step)⟩
        case round =>
          clear H'
          try clear c1
          try clear p2
          try clear c3
          try clear c3b0
          try clear c3b1
          try clear c4
          try clear c4b0
          try clear c4b1
          try clear c5
          try clear c5b0
          try clear c5b1
          try clear p6
          try clear q6
          try clear hx6
          try clear qi6
          try clear c7
          try clear c7b0
          try clear p8
          try clear q8
          try clear hx8
          try clear qi8
          try clear c9
          try clear p2
          try clear p6
          try clear p8
          try clear q6
          try clear q8
          obtain ⟨x3_2, rfl, HA, HK2, ⟨m2, rfl⟩⟩ := hrel
          cases gk with
          | zero => exact absurd HA.out (by simp [linkboyref02_Name.l0])
          | succ k2 =>
            have H := HA.out
            clear HA
            simp only [linkboyref02_Name.l0] at H
            by_cases c10 : x3_2 < (a0.size : Int)
            · rw [if_pos c10] at H
              have c10b0 : decide (x3_2 < (a0.size : Int)) = true := decide_eq_true c10
              clear c10
              by_cases c11 : 0 ≤ x3_2
              · rw [if_pos c11] at H
                have c11b0 : decide (0 ≤ x3_2) = true := decide_eq_true c11
                clear c11
                by_cases c13 : (bt a0 x3_2) ≥ 97
                · rw [if_pos c13] at H
                  have c13b0 : decide (97 ≤ (bt a0 x3_2)) = true := decide_eq_true c13
                  clear c13
                  by_cases c15 : (bt a0 x3_2) ≤ 122
                  · rw [if_pos c15] at H
                    have c15b0 : decide ((bt a0 x3_2) ≤ 122) = true := decide_eq_true c15
                    clear c15
                    have H' := Aside0.mk H
                    clear H
                    have p12 : 0 ≤ (x3_2 : Int) := of_decide_eq_true (by first | (with_reducible assumption) | assumption)
                    have q12 : x3_2 < (a0.size : Int) := of_decide_eq_true (by first | (with_reducible assumption) | assumption)
                    have hx12 := bt_at a0 x3_2
                    replace p12 := eq_true p12
                    replace q12 := eq_true q12
                    have p14 : 0 ≤ (x3_2 : Int) := of_decide_eq_true (by first | (with_reducible assumption) | assumption)
                    have q14 : x3_2 < (a0.size : Int) := of_decide_eq_true (by first | (with_reducible assumption) | assumption)
                    have hx14 := bt_at a0 x3_2
                    replace p14 := eq_true p14
                    replace q14 := eq_true q14
                    go_wp2
                    go_roundg k2
                    case measure => have := HJ1.out; have := HK2.out; omega
                    case rel => exact ⟨(wrap64 (x3_2 + 1)), (by first | rfl | (simp; done) | (simp [*]; done)), H', ⟨by have := HJ1.out; have := HK2.out; omega⟩, by repeat (first | exact Drawn0.refl _ | apply Drawn0.step)⟩
                  · rw [if_neg c15] at H
                    have c15b0 : decide ((bt a0 x3_2) ≤ 122) = false := decide_eq_false c15
                    clear c15
                    by_cases c17 : (bt a0 x3_2) ≥ 48
                    · rw [if_pos c17] at H
                      have c17b0 : decide (48 ≤ (bt a0 x3_2)) = true := decide_eq_true c17
                      clear c17
                      by_cases c19 : (bt a0 x3_2) ≤ 57
                      · rw [if_pos c19] at H
                        have c19b0 : decide ((bt a0 x3_2) ≤ 57) = true := decide_eq_true c19
                        clear c19
                        have H' := Aside0.mk H
                        clear H
                        have p12 : 0 ≤ (x3_2 : Int) := of_decide_eq_true (by first | (with_reducible assumption) | assumption)
                        have q12 : x3_2 < (a0.size : Int) := of_decide_eq_true (by first | (with_reducible assumption) | assumption)
                        have hx12 := bt_at a0 x3_2
                        replace p12 := eq_true p12
                        replace q12 := eq_true q12
                        have p14 : 0 ≤ (x3_2 : Int) := of_decide_eq_true (by first | (with_reducible assumption) | assumption)
                        have q14 : x3_2 < (a0.size : Int) := of_decide_eq_true (by first | (with_reducible assumption) | assumption)
                        have hx14 := bt_at a0 x3_2
                        replace p14 := eq_true p14
                        replace q14 := eq_true q14
                        have p16 : 0 ≤ (x3_2 : Int) := of_decide_eq_true (by first | (with_reducible assumption) | assumption)
                        have q16 : x3_2 < (a0.size : Int) := of_decide_eq_true (by first | (with_reducible assumption) | assumption)
                        have hx16 := bt_at a0 x3_2
                        replace p16 := eq_true p16
                        replace q16 := eq_true q16
                        have p18 : 0 ≤ (x3_2 : Int) := of_decide_eq_true (by first | (with_reducible assumption) | assumption)
                        have q18 : x3_2 < (a0.size : Int) := of_decide_eq_true (by first | (with_reducible assumption) | assumption)
                        have hx18 := bt_at a0 x3_2
                        replace p18 := eq_true p18
                        replace q18 := eq_true q18
                        go_wp2
                        go_roundg k2
                        case measure => have := HJ1.out; have := HK2.out; omega
                        case rel => exact ⟨(wrap64 (x3_2 + 1)), (by first | rfl | (simp; done) | (simp [*]; done)), H', ⟨by have := HJ1.out; have := HK2.out; omega⟩, by repeat (first | exact Drawn0.refl _ | apply Drawn0.step)⟩
                      · rw [if_neg c19] at H
                        have c19b0 : decide ((bt a0 x3_2) ≤ 57) = false := decide_eq_false c19
                        clear c19
                        by_cases c21 : ((bt a0 x3_2) = 45)
                        · rw [if_pos c21] at H
                          have c21b0 : ((bt a0 x3_2) == 45) = true := beq_iff_eq.mpr c21
                          have c21b1 : ((bt a0 x3_2) != 45) = false := bne_eq_false_iff_eq.mpr c21
                          clear c21
                          have H' := Aside0.mk H
                          clear H
                          have p12 : 0 ≤ (x3_2 : Int) := of_decide_eq_true (by first | (with_reducible assumption) | assumption)
                          have q12 : x3_2 < (a0.size : Int) := of_decide_eq_true (by first | (with_reducible assumption) | assumption)
                          have hx12 := bt_at a0 x3_2
                          replace p12 := eq_true p12
                          replace q12 := eq_true q12
                          have p14 : 0 ≤ (x3_2 : Int) := of_decide_eq_true (by first | (with_reducible assumption) | assumption)
                          have q14 : x3_2 < (a0.size : Int) := of_decide_eq_true (by first | (with_reducible assumption) | assumption)
                          have hx14 := bt_at a0 x3_2
                          replace p14 := eq_true p14
                          replace q14 := eq_true q14
                          have p16 : 0 ≤ (x3_2 : Int) := of_decide_eq_true (by first | (with_reducible assumption) | assumption)
                          have q16 : x3_2 < (a0.size : Int) := of_decide_eq_true (by first | (with_reducible assumption) | assumption)
                          have hx16 := bt_at a0 x3_2
                          replace p16 := eq_true p16
                          replace q16 := eq_true q16
                          have p18 : 0 ≤ (x3_2 : Int) := of_decide_eq_true (by first | (with_reducible assumption) | assumption)
                          have q18 : x3_2 < (a0.size : Int) := of_decide_eq_true (by first | (with_reducible assumption) | assumption)
                          have hx18 := bt_at a0 x3_2
                          replace p18 := eq_true p18
                          replace q18 := eq_true q18
                          have p20 : 0 ≤ (x3_2 : Int) := of_decide_eq_true (by first | (with_reducible assumption) | assumption)
                          have q20 : x3_2 < (a0.size : Int) := of_decide_eq_true (by first | (with_reducible assumption) | assumption)
                          have hx20 := bt_at a0 x3_2
                          replace p20 := eq_true p20
                          replace q20 := eq_true q20
                          go_wp2
                          go_roundg k2
                          case measure => have := HJ1.out; have := HK2.out; omega
                          case rel => exact ⟨(wrap64 (x3_2 + 1)), (by first | rfl | (simp; done) | (simp [*]; done)), H', ⟨by have := HJ1.out; have := HK2.out; omega⟩, by repeat (first | exact Drawn0.refl _ | apply Drawn0.step)⟩
                        · rw [if_neg c21] at H
                          have c21b0 : ((bt a0 x3_2) == 45) = false := beq_eq_false_iff_ne.mpr c21
                          have c21b1 : ((bt a0 x3_2) != 45) = true := bne_iff_ne.mpr c21
                          obtain rfl := Option.some.inj H
                          have p12 : 0 ≤ (x3_2 : Int) := of_decide_eq_true (by first | (with_reducible assumption) | assumption)
                          have q12 : x3_2 < (a0.size : Int) := of_decide_eq_true (by first | (with_reducible assumption) | assumption)
                          have hx12 := bt_at a0 x3_2
                          replace p12 := eq_true p12
                          replace q12 := eq_true q12
                          have p14 : 0 ≤ (x3_2 : Int) := of_decide_eq_true (by first | (with_reducible assumption) | assumption)
                          have q14 : x3_2 < (a0.size : Int) := of_decide_eq_true (by first | (with_reducible assumption) | assumption)
                          have hx14 := bt_at a0 x3_2
                          replace p14 := eq_true p14
                          replace q14 := eq_true q14
                          have p16 : 0 ≤ (x3_2 : Int) := of_decide_eq_true (by first | (with_reducible assumption) | assumption)
                          have q16 : x3_2 < (a0.size : Int) := of_decide_eq_true (by first | (with_reducible assumption) | assumption)
                          have hx16 := bt_at a0 x3_2
                          replace p16 := eq_true p16
                          replace q16 := eq_true q16
                          have p18 : 0 ≤ (x3_2 : Int) := of_decide_eq_true (by first | (with_reducible assumption) | assumption)
                          have q18 : x3_2 < (a0.size : Int) := of_decide_eq_true (by first | (with_reducible assumption) | assumption)
                          have hx18 := bt_at a0 x3_2
                          replace p18 := eq_true p18
                          replace q18 := eq_true q18
                          have p20 : 0 ≤ (x3_2 : Int) := of_decide_eq_true (by first | (with_reducible assumption) | assumption)
                          have q20 : x3_2 < (a0.size : Int) := of_decide_eq_true (by first | (with_reducible assumption) | assumption)
                          have hx20 := bt_at a0 x3_2
                          replace p20 := eq_true p20
                          replace q20 := eq_true q20
                          go_wp2
                          go_ret
                          exact ⟨by first | rfl | (simp; done) | (simp [*]; done), by repeat (first | exact Drawn0.refl _ | apply Drawn0.step)⟩
                    · rw [if_neg c17] at H
                      have c17b0 : decide (48 ≤ (bt a0 x3_2)) = false := decide_eq_false c17
                      clear c17
                      by_cases c23 : ((bt a0 x3_2) = 45)
                      · rw [if_pos c23] at H
                        have c23b0 : ((bt a0 x3_2) == 45) = true := beq_iff_eq.mpr c23
                        have c23b1 : ((bt a0 x3_2) != 45) = false := bne_eq_false_iff_eq.mpr c23
                        clear c23
                        have H' := Aside0.mk H
                        clear H
                        have p12 : 0 ≤ (x3_2 : Int) := of_decide_eq_true (by first | (with_reducible assumption) | assumption)
                        have q12 : x3_2 < (a0.size : Int) := of_decide_eq_true (by first | (with_reducible assumption) | assumption)
                        have hx12 := bt_at a0 x3_2
                        replace p12 := eq_true p12
                        replace q12 := eq_true q12
                        have p14 : 0 ≤ (x3_2 : Int) := of_decide_eq_true (by first | (with_reducible assumption) | assumption)
                        have q14 : x3_2 < (a0.size : Int) := of_decide_eq_true (by first | (with_reducible assumption) | assumption)
                        have hx14 := bt_at a0 x3_2
                        replace p14 := eq_true p14
                        replace q14 := eq_true q14
                        have p16 : 0 ≤ (x3_2 : Int) := of_decide_eq_true (by first | (with_reducible assumption) | assumption)
                        have q16 : x3_2 < (a0.size : Int) := of_decide_eq_true (by first | (with_reducible assumption) | assumption)
                        have hx16 := bt_at a0 x3_2
                        replace p16 := eq_true p16
                        replace q16 := eq_true q16
                        have p22 : 0 ≤ (x3_2 : Int) := of_decide_eq_true (by first | (with_reducible assumption) | assumption)
                        have q22 : x3_2 < (a0.size : Int) := of_decide_eq_true (by first | (with_reducible assumption) | assumption)
                        have hx22 := bt_at a0 x3_2
                        replace p22 := eq_true p22
                        replace q22 := eq_true q22
                        go_wp2
                        go_roundg k2
                        case measure => have := HJ1.out; have := HK2.out; omega
                        case rel => exact ⟨(wrap64 (x3_2 + 1)), (by first | rfl | (simp; done) | (simp [*]; done)), H', ⟨by have := HJ1.out; have := HK2.out; omega⟩, by repeat (first | exact Drawn0.refl _ | apply Drawn0.step)⟩
                      · rw [if_neg c23] at H
                        have c23b0 : ((bt a0 x3_2) == 45) = false := beq_eq_false_iff_ne.mpr c23
                        have c23b1 : ((bt a0 x3_2) != 45) = true := bne_iff_ne.mpr c23
                        obtain rfl := Option.some.inj H
                        have p12 : 0 ≤ (x3_2 : Int) := of_decide_eq_true (by first | (with_reducible assumption) | assumption)
                        have q12 : x3_2 < (a0.size : Int) := of_decide_eq_true (by first | (with_reducible assumption) | assumption)
                        have hx12 := bt_at a0 x3_2
                        replace p12 := eq_true p12
                        replace q12 := eq_true q12
                        have p14 : 0 ≤ (x3_2 : Int) := of_decide_eq_true (by first | (with_reducible assumption) | assumption)
                        have q14 : x3_2 < (a0.size : Int) := of_decide_eq_true (by first | (with_reducible assumption) | assumption)
                        have hx14 := bt_at a0 x3_2
                        replace p14 := eq_true p14
                        replace q14 := eq_true q14
                        have p16 : 0 ≤ (x3_2 : Int) := of_decide_eq_true (by first | (with_reducible assumption) | assumption)
                        have q16 : x3_2 < (a0.size : Int) := of_decide_eq_true (by first | (with_reducible assumption) | assumption)
                        have hx16 := bt_at a0 x3_2
                        replace p16 := eq_true p16
                        replace q16 := eq_true q16
                        have p22 : 0 ≤ (x3_2 : Int) := of_decide_eq_true (by first | (with_reducible assumption) | assumption)
                        have q22 : x3_2 < (a0.size : Int) := of_decide_eq_true (by first | (with_reducible assumption) | assumption)
                        have hx22 := bt_at a0 x3_2
                        replace p22 := eq_true p22
                        replace q22 := eq_true q22
                        go_wp2
                        go_ret
                        exact ⟨by first | rfl | (simp; done) | (simp [*]; done), by repeat (first | exact Drawn0.refl _ | apply Drawn0.step)⟩
                · rw [if_neg c13] at H
                  have c13b0 : decide (97 ≤ (bt a0 x3_2)) = false := decide_eq_false c13
                  clear c13
                  by_cases c25 : (bt a0 x3_2) ≥ 48
                  · rw [if_pos c25] at H
                    have c25b0 : decide (48 ≤ (bt a0 x3_2)) = true := decide_eq_true c25
                    clear c25
                    by_cases c27 : (bt a0 x3_2) ≤ 57
                    · rw [if_pos c27] at H
                      have c27b0 : decide ((bt a0 x3_2) ≤ 57) = true := decide_eq_true c27
                      clear c27
                      have H' := Aside0.mk H
                      clear H
                      have p12 : 0 ≤ (x3_2 : Int) := of_decide_eq_true (by first | (with_reducible assumption) | assumption)
                      have q12 : x3_2 < (a0.size : Int) := of_decide_eq_true (by first | (with_reducible assumption) | assumption)
                      have hx12 := bt_at a0 x3_2
                      replace p12 := eq_true p12
                      replace q12 := eq_true q12
                      have p24 : 0 ≤ (x3_2 : Int) := of_decide_eq_true (by first | (with_reducible assumption) | assumption)
                      have q24 : x3_2 < (a0.size : Int) := of_decide_eq_true (by first | (with_reducible assumption) | assumption)
                      have hx24 := bt_at a0 x3_2
                      replace p24 := eq_true p24
                      replace q24 := eq_true q24
                      have p26 : 0 ≤ (x3_2 : Int) := of_decide_eq_true (by first | (with_reducible assumption) | assumption)
                      have q26 : x3_2 < (a0.size : Int) := of_decide_eq_true (by first | (with_reducible assumption) | assumption)
                      have hx26 := bt_at a0 x3_2
                      replace p26 := eq_true p26
                      replace q26 := eq_true q26
                      go_wp2
                      go_roundg k2
                      case measure => have := HJ1.out; have := HK2.out; omega
                      case rel => exact ⟨(wrap64 (x3_2 + 1)), (by first | rfl | (simp; done) | (simp [*]; done)), H', ⟨by have := HJ1.out; have := HK2.out; omega⟩, by repeat (first | exact Drawn0.refl _ | apply Drawn0.step)⟩
                    · rw [if_neg c27] at H
                      have c27b0 : decide ((bt a0 x3_2) ≤ 57) = false := decide_eq_false c27
                      clear c27
                      by_cases c29 : ((bt a0 x3_2) = 45)
                      · rw [if_pos c29] at H
                        have c29b0 : ((bt a0 x3_2) == 45) = true := beq_iff_eq.mpr c29
                        have c29b1 : ((bt a0 x3_2) != 45) = false := bne_eq_false_iff_eq.mpr c29
                        clear c29
                        have H' := Aside0.mk H
                        clear H
                        have p12 : 0 ≤ (x3_2 : Int) := of_decide_eq_true (by first | (with_reducible assumption) | assumption)
                        have q12 : x3_2 < (a0.size : Int) := of_decide_eq_true (by first | (with_reducible assumption) | assumption)
                        have hx12 := bt_at a0 x3_2
                        replace p12 := eq_true p12
                        replace q12 := eq_true q12
                        have p24 : 0 ≤ (x3_2 : Int) := of_decide_eq_true (by first | (with_reducible assumption) | assumption)
                        have q24 : x3_2 < (a0.size : Int) := of_decide_eq_true (by first | (with_reducible assumption) | assumption)
                        have hx24 := bt_at a0 x3_2
                        replace p24 := eq_true p24
                        replace q24 := eq_true q24
                        have p26 : 0 ≤ (x3_2 : Int) := of_decide_eq_true (by first | (with_reducible assumption) | assumption)
                        have q26 : x3_2 < (a0.size : Int) := of_decide_eq_true (by first | (with_reducible assumption) | assumption)
                        have hx26 := bt_at a0 x3_2
                        replace p26 := eq_true p26
                        replace q26 := eq_true q26
                        have p28 : 0 ≤ (x3_2 : Int) := of_decide_eq_true (by first | (with_reducible assumption) | assumption)
                        have q28 : x3_2 < (a0.size : Int) := of_decide_eq_true (by first | (with_reducible assumption) | assumption)
                        have hx28 := bt_at a0 x3_2
                        replace p28 := eq_true p28
                        replace q28 := eq_true q28
                        go_wp2
                        go_roundg k2
                        case measure => have := HJ1.out; have := HK2.out; omega
                        case rel => exact ⟨(wrap64 (x3_2 + 1)), (by first | rfl | (simp; done) | (simp [*]; done)), H', ⟨by have := HJ1.out; have := HK2.out; omega⟩, by repeat (first | exact Drawn0.refl _ | apply Drawn0.step)⟩
                      · rw [if_neg c29] at H
                        have c29b0 : ((bt a0 x3_2) == 45) = false := beq_eq_false_iff_ne.mpr c29
                        have c29b1 : ((bt a0 x3_2) != 45) = true := bne_iff_ne.mpr c29
                        obtain rfl := Option.some.inj H
                        have p12 : 0 ≤ (x3_2 : Int) := of_decide_eq_true (by first | (with_reducible assumption) | assumption)
                        have q12 : x3_2 < (a0.size : Int) := of_decide_eq_true (by first | (with_reducible assumption) | assumption)
                        have hx12 := bt_at a0 x3_2
                        replace p12 := eq_true p12
                        replace q12 := eq_true q12
                        have p24 : 0 ≤ (x3_2 : Int) := of_decide_eq_true (by first | (with_reducible assumption) | assumption)
                        have q24 : x3_2 < (a0.size : Int) := of_decide_eq_true (by first | (with_reducible assumption) | assumption)
                        have hx24 := bt_at a0 x3_2
                        replace p24 := eq_true p24
                        replace q24 := eq_true q24
                        have p26 : 0 ≤ (x3_2 : Int) := of_decide_eq_true (by first | (with_reducible assumption) | assumption)
                        have q26 : x3_2 < (a0.size : Int) := of_decide_eq_true (by first | (with_reducible assumption) | assumption)
                        have hx26 := bt_at a0 x3_2
                        replace p26 := eq_true p26
                        replace q26 := eq_true q26
                        have p28 : 0 ≤ (x3_2 : Int) := of_decide_eq_true (by first | (with_reducible assumption) | assumption)
                        have q28 : x3_2 < (a0.size : Int) := of_decide_eq_true (by first | (with_reducible assumption) | assumption)
                        have hx28 := bt_at a0 x3_2
                        replace p28 := eq_true p28
                        replace q28 := eq_true q28
                        go_wp2
                        go_ret
                        exact ⟨by first | rfl | (simp; done) | (simp [*]; done), by repeat (first | exact Drawn0.refl _ | apply Drawn0.step)⟩
                  · rw [if_neg c25] at H
                    have c25b0 : decide (48 ≤ (bt a0 x3_2)) = false := decide_eq_false c25
                    clear c25
                    by_cases c31 : ((bt a0 x3_2) = 45)
                    · rw [if_pos c31] at H
                      have c31b0 : ((bt a0 x3_2) == 45) = true := beq_iff_eq.mpr c31
                      have c31b1 : ((bt a0 x3_2) != 45) = false := bne_eq_false_iff_eq.mpr c31
                      clear c31
                      have H' := Aside0.mk H
                      clear H
                      have p12 : 0 ≤ (x3_2 : Int) := of_decide_eq_true (by first | (with_reducible assumption) | assumption)
                      have q12 : x3_2 < (a0.size : Int) := of_decide_eq_true (by first | (with_reducible assumption) | assumption)
                      have hx12 := bt_at a0 x3_2
                      replace p12 := eq_true p12
                      replace q12 := eq_true q12
                      have p24 : 0 ≤ (x3_2 : Int) := of_decide_eq_true (by first | (with_reducible assumption) | assumption)
                      have q24 : x3_2 < (a0.size : Int) := of_decide_eq_true (by first | (with_reducible assumption) | assumption)
                      have hx24 := bt_at a0 x3_2
                      replace p24 := eq_true p24
                      replace q24 := eq_true q24
                      have p30 : 0 ≤ (x3_2 : Int) := of_decide_eq_true (by first | (with_reducible assumption) | assumption)
                      have q30 : x3_2 < (a0.size : Int) := of_decide_eq_true (by first | (with_reducible assumption) | assumption)
                      have hx30 := bt_at a0 x3_2
                      replace p30 := eq_true p30
                      replace q30 := eq_true q30
                      go_wp2
                      go_roundg k2
                      case measure => have := HJ1.out; have := HK2.out; omega
                      case rel => exact ⟨(wrap64 (x3_2 + 1)), (by first | rfl | (simp; done) | (simp [*]; done)), H', ⟨by have := HJ1.out; have := HK2.out; omega⟩, by repeat (first | exact Drawn0.refl _ | apply Drawn0.step)⟩
                    · rw [if_neg c31] at H
                      have c31b0 : ((bt a0 x3_2) == 45) = false := beq_eq_false_iff_ne.mpr c31
                      have c31b1 : ((bt a0 x3_2) != 45) = true := bne_iff_ne.mpr c31
                      obtain rfl := Option.some.inj H
                      have p12 : 0 ≤ (x3_2 : Int) := of_decide_eq_true (by first | (with_reducible assumption) | assumption)
                      have q12 : x3_2 < (a0.size : Int) := of_decide_eq_true (by first | (with_reducible assumption) | assumption)
                      have hx12 := bt_at a0 x3_2
                      replace p12 := eq_true p12
                      replace q12 := eq_true q12
                      have p24 : 0 ≤ (x3_2 : Int) := of_decide_eq_true (by first | (with_reducible assumption) | assumption)
                      have q24 : x3_2 < (a0.size : Int) := of_decide_eq_true (by first | (with_reducible assumption) | assumption)
                      have hx24 := bt_at a0 x3_2
                      replace p24 := eq_true p24
                      replace q24 := eq_true q24
                      have p30 : 0 ≤ (x3_2 : Int) := of_decide_eq_true (by first | (with_reducible assumption) | assumption)
                      have q30 : x3_2 < (a0.size : Int) := of_decide_eq_true (by first | (with_reducible assumption) | assumption)
                      have hx30 := bt_at a0 x3_2
                      replace p30 := eq_true p30
                      replace q30 := eq_true q30
                      go_wp2
                      go_ret
                      exact ⟨by first | rfl | (simp; done) | (simp [*]; done), by repeat (first | exact Drawn0.refl _ | apply Drawn0.step)⟩
              · rw [if_neg c11] at H
                exact absurd H (by simp)
            · rw [if_neg c10] at H
              have c10b0 : decide (x3_2 < (a0.size : Int)) = false := decide_eq_false c10
              clear c10
              obtain rfl := Option.some.inj H
              go_wp2
              go_ret
              exact ⟨by first | rfl | (simp; done) | (simp [*]; done), by repeat (first | exact Drawn0.refl _ | apply Drawn0.step)⟩

end Go.Proofs.YtfoaglfnnomdkaaGreatDoor.C

-- Written by a program of this session (wip/tools/print2.py, over the kit's print tool); Lean checks it.
namespace Go.Proofs.YtfoaglfnnomdkaaGreatDoor.C
open Go.RowKit Go.Proofs.YtfoaglfnnomdkaaGreatDoorW.PrintWords Go.Proofs.YtfoaglfnnomdkaaGreatDoorW.PrintLast Go.Proofs.YtfoaglfnnomdkaaGreatDoorW.PrintMore
attribute [local go_sem] max2_int min2_int max_two min_two max_three min_three max_four min_four   -- for this text's walks alone
set_option linter.unusedVariables false
set_option linter.unusedSimpArgs false

/-! ### linkboyref11_benefit: function 81 -/
def linkboyref11_benefit.f (l0_0 : List (S73)) (l0_1 : List Int) (a0_2 : Int) (a0_3 : Int) (a1 : Int) (a2 : Int) : Option (Int) := if 0 ≤ a1 then (if a1 < (l0_0.length : Int) then (some (wrap64 (Int.tdiv (wrap64 ((wrap64 ((wrap64 ((wrap64 ((wrap64 (a0_2 + (wrap64 ((l0_1.length : Int) * a0_3)))) - (wrap64 (a0_2 + (wrap64 (a2 * a0_3)))))) * (wrap64 ((wrap64 (a0_2 + (wrap64 (a2 * a0_3)))) - ((rd_T73 l0_0 a1).f4))))) * ((rd_T73 l0_0 a1).f2))) * ((rd_T73 l0_0 a1).f3))) 1000000000))) else (none)) else (none)
set_option maxHeartbeats 8000000 in
set_option maxRecDepth 100000 in
theorem linkboyref11_benefit.calls (A0_0 : Option Addr) (c0_0 : Nat) (l0_0 : List (S73)) (A0_1 : Option Addr) (c0_1 : Nat) (l0_1 : List Int) (a0_2 : Int) (a0_3 : Int) (a1 : Int) (a2 : Int) (r : Int) (w : World) (hr0_0 : Kd.C k73 w A0_0 l0_0.length l0_0) (hc0_0 : l0_0.length ≤ c0_0) (hr0_1 : Kd.C (Kd.int .i64) w A0_1 l0_1.length l0_1) (hc0_1 : l0_1.length ≤ c0_1) (h : linkboyref11_benefit.f l0_0 l0_1 a0_2 a0_3 a1 a2 = some r) :
    Calls Tryz.prog 81 #[.agg #[.slice A0_0 l0_0.length c0_0, .slice A0_1 l0_1.length c0_1, .int .i64 a0_2, .int .i64 a0_3], .int .i64 a1, .int .i64 a2] w fun e w' => e = .returned (.int .i64 r) ∧ Below w.heap.size w w' := by
  have hu66 := Tryz.underlying66
  have hu73 := Tryz.underlying73
  have HR0_0 := Aside0.mk hr0_0
  have HC0_0 := Aside0.mk hc0_0
  clear hr0_0 hc0_0
  have HR0_1 := Aside0.mk hr0_1
  have HC0_1 := Aside0.mk hc0_1
  clear hr0_1 hc0_1
  have HB := Aside0.mk (Below.refl w.heap.size w)
  have H : (if 0 ≤ a1 then (if a1 < (l0_0.length : Int) then (some (wrap64 (Int.tdiv (wrap64 ((wrap64 ((wrap64 ((wrap64 ((wrap64 (a0_2 + (wrap64 ((l0_1.length : Int) * a0_3)))) - (wrap64 (a0_2 + (wrap64 (a2 * a0_3)))))) * (wrap64 ((wrap64 (a0_2 + (wrap64 (a2 * a0_3)))) - ((rd_T73 l0_0 a1).f4))))) * ((rd_T73 l0_0 a1).f2))) * ((rd_T73 l0_0 a1).f3))) 1000000000))) else (none)) else (none)) = some r := h
  clear h
  by_cases c4 : 0 ≤ a1
  · rw [if_pos c4] at H
    have c4b0 : decide (0 ≤ a1) = true := decide_eq_true c4
    clear c4
    by_cases c5 : a1 < (l0_0.length : Int)
    · rw [if_pos c5] at H
      have c5b0 : decide (a1 < (l0_0.length : Int)) = true := decide_eq_true c5
      clear c5
      obtain rfl := Option.some.inj H
      go_enter Tryz.func81, Tryz.ntmps81
      go_wp2_with (first | ((with_reducible refine gate_dst (N := 3) rfl ?_); refine box_event ?hg (N := 3) ?hd (cs := #[.slice A0_0 l0_0.length c0_0, .slice A0_1 l0_1.length c0_1, .int .i64 a0_2, .int .i64 a0_3]) (t := 66) ?hr ?_; (case hd => rfl); (case hg => rfl); (case hr => first | (go_simp; done) | (go_simp; rfl)); intro gb474 hg w6 hbox hb; have n0_ := Aside0.mk (below_step (by repeat (first | (with_reducible first | exact HB.out | apply below_alloc | apply pw_below_drewN | apply below_drew1) | exact HB.out)) hb); have n1_ := Aside0.mk (hbox); have n2_ := Aside0.mk ((by rw [hg]; exact (below_size (by repeat (first | (with_reducible first | exact HB.out | apply below_alloc | apply pw_below_drewN | apply below_drew1) | exact HB.out))) : w.heap.size ≤ gb474)); have n3_ := Aside0.mk ((by rw [hg]; exact (below_size (by repeat (first | (with_reducible first | exact HB.out | apply below_alloc | apply pw_below_drewN | apply below_drew1) | exact HB.out))) : w.heap.size ≤ gb474)); clear HB; have HB := n0_; have BK474 := n1_; have GW474 := n2_; have GE474 := n3_; clear n0_ n1_ n2_ n3_; clear hb hbox hg; have hcz7_0 : w6.cell? ⟨gb474, 0, none⟩ = some (.slice A0_0 l0_0.length c0_0) := (blk_cell BK474.out 0).trans rfl; have hcz7_1 : w6.cell? ⟨gb474, 1, none⟩ = some (.slice A0_1 l0_1.length c0_1) := (blk_cell BK474.out 1).trans rfl; have hcz7_2 : w6.cell? ⟨gb474, 2, none⟩ = some (.int .i64 a0_2) := (blk_cell BK474.out 2).trans rfl; have hcz7_3 : w6.cell? ⟨gb474, 3, none⟩ = some (.int .i64 a0_3) := (blk_cell BK474.out 3).trans rfl; have hfz7_0 := blk_frozen BK474.out 0; have hfz7_1 := blk_frozen BK474.out 1; have hfz7_2 := blk_frozen BK474.out 2; have hfz7_3 := blk_frozen BK474.out 3; have p475 : 0 ≤ (a1 : Int) := of_decide_eq_true (by first | (with_reducible assumption) | assumption); have q475 : a1 < (l0_0.length : Int) := of_decide_eq_true (by first | (with_reducible assumption) | assumption); obtain ⟨ad475, e475, hx475_0, hx475_1, hx475_2, hx475_3, hx475_4⟩ := at_T73 HR0_0.out a1 p475 q475; cases e475; replace hx475_0 := (HB.out.cell (World.block_lt_of_cell? w _ hx475_0)).trans hx475_0; replace hx475_1 := (HB.out.cell (World.block_lt_of_cell? w _ hx475_1)).trans hx475_1; replace hx475_2 := (HB.out.cell (World.block_lt_of_cell? w _ hx475_2)).trans hx475_2; replace hx475_3 := (HB.out.cell (World.block_lt_of_cell? w _ hx475_3)).trans hx475_3; replace hx475_4 := (HB.out.cell (World.block_lt_of_cell? w _ hx475_4)).trans hx475_4; replace p475 := eq_true p475; replace q475 := eq_true q475) | ((with_reducible refine gate_dst (N := 7) rfl ?_); refine box_event ?hg (N := 7) ?hd (cs := #[.string (⟨#[]⟩ : ByteArray), .int .i64 0, .int .i64 0, .int .i64 0, .int .i64 0]) (t := 73) ?hr ?_; (case hd => rfl); (case hg => rfl); (case hr => first | (go_simp; done) | (go_simp; rfl)); intro gb476 hg w8 hbox hb; have n0_ := Aside0.mk (blk_below (g := gb474) (o := .cells #[.slice (some ad475) l0_0.length c0_0, .slice A0_1 l0_1.length c0_1, .int .i64 a0_2, .int .i64 a0_3] 66 (0, 0)) (by (with_reducible repeat (first | refine blk_drewN ?_ _ | refine blk_drew ?_ | refine blk_alloc ?_ _)); exact BK474.out) hb); have n1_ := Aside0.mk (below_step (by repeat (first | (with_reducible first | exact HB.out | apply below_alloc | apply pw_below_drewN | apply below_drew1 | refine below_set ?_ GE474.out) | exact HB.out)) hb); have n2_ := Aside0.mk (hbox); have n3_ := Aside0.mk ((by rw [hg]; exact (below_size (by repeat (first | (with_reducible first | exact HB.out | apply below_alloc | apply pw_below_drewN | apply below_drew1 | refine below_set ?_ GE474.out) | exact HB.out))) : w.heap.size ≤ gb476)); have n4_ := Aside0.mk ((by rw [hg]; exact (below_size (by repeat (first | (with_reducible first | exact HB.out | apply below_alloc | apply pw_below_drewN | apply below_drew1 | refine below_set ?_ GE474.out) | exact HB.out))) : w.heap.size ≤ gb476)); have n5_ := Aside0.mk ((by rw [hg]; exact Nat.ne_of_lt (blk_lt (g := gb474) (o := .cells #[.slice (some ad475) l0_0.length c0_0, .slice A0_1 l0_1.length c0_1, .int .i64 a0_2, .int .i64 a0_3] 66 (0, 0)) (by (with_reducible repeat (first | refine blk_drewN ?_ _ | refine blk_drew ?_ | refine blk_alloc ?_ _)); exact BK474.out)) : gb474 ≠ gb476)); have n6_ := Aside0.mk ((by rw [hg]; exact Nat.ne_of_gt (blk_lt (g := gb474) (o := .cells #[.slice (some ad475) l0_0.length c0_0, .slice A0_1 l0_1.length c0_1, .int .i64 a0_2, .int .i64 a0_3] 66 (0, 0)) (by (with_reducible repeat (first | refine blk_drewN ?_ _ | refine blk_drew ?_ | refine blk_alloc ?_ _)); exact BK474.out)) : gb476 ≠ gb474)); clear BK474; clear HB; have BK474 := n0_; have HB := n1_; have BK476 := n2_; have GW476 := n3_; have GE476 := n4_; have NB474_476 := n5_; have NB476_474 := n6_; clear n0_ n1_ n2_ n3_ n4_ n5_ n6_; clear hb hbox hg; have hnb9 := NB476_474.out; have hnc9 := NB474_476.out; have hcz10_0 : w8.cell? ⟨gb476, 0, none⟩ = some (.string (⟨#[]⟩ : ByteArray)) := (blk_cell BK476.out 0).trans rfl; have hcz10_1 : w8.cell? ⟨gb476, 1, none⟩ = some (.int .i64 0) := (blk_cell BK476.out 1).trans rfl; have hcz10_2 : w8.cell? ⟨gb476, 2, none⟩ = some (.int .i64 0) := (blk_cell BK476.out 2).trans rfl; have hcz10_3 : w8.cell? ⟨gb476, 3, none⟩ = some (.int .i64 0) := (blk_cell BK476.out 3).trans rfl; have hcz10_4 : w8.cell? ⟨gb476, 4, none⟩ = some (.int .i64 0) := (blk_cell BK476.out 4).trans rfl; have hfz10_0 := blk_frozen BK476.out 0; have hfz10_1 := blk_frozen BK476.out 1; have hfz10_2 := blk_frozen BK476.out 2; have hfz10_3 := blk_frozen BK476.out 3; have hfz10_4 := blk_frozen BK476.out 4; have hcz11_0 : w8.cell? ⟨gb474, 0, none⟩ = some (.slice (some ad475) l0_0.length c0_0) := (blk_cell BK474.out 0).trans rfl; have hcz11_1 : w8.cell? ⟨gb474, 1, none⟩ = some (.slice A0_1 l0_1.length c0_1) := (blk_cell BK474.out 1).trans rfl; have hcz11_2 : w8.cell? ⟨gb474, 2, none⟩ = some (.int .i64 a0_2) := (blk_cell BK474.out 2).trans rfl; have hcz11_3 : w8.cell? ⟨gb474, 3, none⟩ = some (.int .i64 a0_3) := (blk_cell BK474.out 3).trans rfl; have hfz11_0 := blk_frozen BK474.out 0; have hfz11_1 := blk_frozen BK474.out 1; have hfz11_2 := blk_frozen BK474.out 2; have hfz11_3 := blk_frozen BK474.out 3))
      repeat (go_quiet (first | ((with_reducible refine gate_dst (N := 3) rfl ?_); refine box_event ?hg (N := 3) ?hd (cs := #[.slice A0_0 l0_0.length c0_0, .slice A0_1 l0_1.length c0_1, .int .i64 a0_2, .int .i64 a0_3]) (t := 66) ?hr ?_; (case hd => rfl); (case hg => rfl); (case hr => first | (go_simp; done) | (go_simp; rfl)); intro gb474 hg w6 hbox hb; have n0_ := Aside0.mk (below_step (by repeat (first | (with_reducible first | exact HB.out | apply below_alloc | apply pw_below_drewN | apply below_drew1) | exact HB.out)) hb); have n1_ := Aside0.mk (hbox); have n2_ := Aside0.mk ((by rw [hg]; exact (below_size (by repeat (first | (with_reducible first | exact HB.out | apply below_alloc | apply pw_below_drewN | apply below_drew1) | exact HB.out))) : w.heap.size ≤ gb474)); have n3_ := Aside0.mk ((by rw [hg]; exact (below_size (by repeat (first | (with_reducible first | exact HB.out | apply below_alloc | apply pw_below_drewN | apply below_drew1) | exact HB.out))) : w.heap.size ≤ gb474)); clear HB; have HB := n0_; have BK474 := n1_; have GW474 := n2_; have GE474 := n3_; clear n0_ n1_ n2_ n3_; clear hb hbox hg; have hcz7_0 : w6.cell? ⟨gb474, 0, none⟩ = some (.slice A0_0 l0_0.length c0_0) := (blk_cell BK474.out 0).trans rfl; have hcz7_1 : w6.cell? ⟨gb474, 1, none⟩ = some (.slice A0_1 l0_1.length c0_1) := (blk_cell BK474.out 1).trans rfl; have hcz7_2 : w6.cell? ⟨gb474, 2, none⟩ = some (.int .i64 a0_2) := (blk_cell BK474.out 2).trans rfl; have hcz7_3 : w6.cell? ⟨gb474, 3, none⟩ = some (.int .i64 a0_3) := (blk_cell BK474.out 3).trans rfl; have hfz7_0 := blk_frozen BK474.out 0; have hfz7_1 := blk_frozen BK474.out 1; have hfz7_2 := blk_frozen BK474.out 2; have hfz7_3 := blk_frozen BK474.out 3; have p475 : 0 ≤ (a1 : Int) := of_decide_eq_true (by first | (with_reducible assumption) | assumption); have q475 : a1 < (l0_0.length : Int) := of_decide_eq_true (by first | (with_reducible assumption) | assumption); obtain ⟨ad475, e475, hx475_0, hx475_1, hx475_2, hx475_3, hx475_4⟩ := at_T73 HR0_0.out a1 p475 q475; cases e475; replace hx475_0 := (HB.out.cell (World.block_lt_of_cell? w _ hx475_0)).trans hx475_0; replace hx475_1 := (HB.out.cell (World.block_lt_of_cell? w _ hx475_1)).trans hx475_1; replace hx475_2 := (HB.out.cell (World.block_lt_of_cell? w _ hx475_2)).trans hx475_2; replace hx475_3 := (HB.out.cell (World.block_lt_of_cell? w _ hx475_3)).trans hx475_3; replace hx475_4 := (HB.out.cell (World.block_lt_of_cell? w _ hx475_4)).trans hx475_4; replace p475 := eq_true p475; replace q475 := eq_true q475) | ((with_reducible refine gate_dst (N := 7) rfl ?_); refine box_event ?hg (N := 7) ?hd (cs := #[.string (⟨#[]⟩ : ByteArray), .int .i64 0, .int .i64 0, .int .i64 0, .int .i64 0]) (t := 73) ?hr ?_; (case hd => rfl); (case hg => rfl); (case hr => first | (go_simp; done) | (go_simp; rfl)); intro gb476 hg w8 hbox hb; have n0_ := Aside0.mk (blk_below (g := gb474) (o := .cells #[.slice (some ad475) l0_0.length c0_0, .slice A0_1 l0_1.length c0_1, .int .i64 a0_2, .int .i64 a0_3] 66 (0, 0)) (by (with_reducible repeat (first | refine blk_drewN ?_ _ | refine blk_drew ?_ | refine blk_alloc ?_ _)); exact BK474.out) hb); have n1_ := Aside0.mk (below_step (by repeat (first | (with_reducible first | exact HB.out | apply below_alloc | apply pw_below_drewN | apply below_drew1 | refine below_set ?_ GE474.out) | exact HB.out)) hb); have n2_ := Aside0.mk (hbox); have n3_ := Aside0.mk ((by rw [hg]; exact (below_size (by repeat (first | (with_reducible first | exact HB.out | apply below_alloc | apply pw_below_drewN | apply below_drew1 | refine below_set ?_ GE474.out) | exact HB.out))) : w.heap.size ≤ gb476)); have n4_ := Aside0.mk ((by rw [hg]; exact (below_size (by repeat (first | (with_reducible first | exact HB.out | apply below_alloc | apply pw_below_drewN | apply below_drew1 | refine below_set ?_ GE474.out) | exact HB.out))) : w.heap.size ≤ gb476)); have n5_ := Aside0.mk ((by rw [hg]; exact Nat.ne_of_lt (blk_lt (g := gb474) (o := .cells #[.slice (some ad475) l0_0.length c0_0, .slice A0_1 l0_1.length c0_1, .int .i64 a0_2, .int .i64 a0_3] 66 (0, 0)) (by (with_reducible repeat (first | refine blk_drewN ?_ _ | refine blk_drew ?_ | refine blk_alloc ?_ _)); exact BK474.out)) : gb474 ≠ gb476)); have n6_ := Aside0.mk ((by rw [hg]; exact Nat.ne_of_gt (blk_lt (g := gb474) (o := .cells #[.slice (some ad475) l0_0.length c0_0, .slice A0_1 l0_1.length c0_1, .int .i64 a0_2, .int .i64 a0_3] 66 (0, 0)) (by (with_reducible repeat (first | refine blk_drewN ?_ _ | refine blk_drew ?_ | refine blk_alloc ?_ _)); exact BK474.out)) : gb476 ≠ gb474)); clear BK474; clear HB; have BK474 := n0_; have HB := n1_; have BK476 := n2_; have GW476 := n3_; have GE476 := n4_; have NB474_476 := n5_; have NB476_474 := n6_; clear n0_ n1_ n2_ n3_ n4_ n5_ n6_; clear hb hbox hg; have hnb9 := NB476_474.out; have hnc9 := NB474_476.out; have hcz10_0 : w8.cell? ⟨gb476, 0, none⟩ = some (.string (⟨#[]⟩ : ByteArray)) := (blk_cell BK476.out 0).trans rfl; have hcz10_1 : w8.cell? ⟨gb476, 1, none⟩ = some (.int .i64 0) := (blk_cell BK476.out 1).trans rfl; have hcz10_2 : w8.cell? ⟨gb476, 2, none⟩ = some (.int .i64 0) := (blk_cell BK476.out 2).trans rfl; have hcz10_3 : w8.cell? ⟨gb476, 3, none⟩ = some (.int .i64 0) := (blk_cell BK476.out 3).trans rfl; have hcz10_4 : w8.cell? ⟨gb476, 4, none⟩ = some (.int .i64 0) := (blk_cell BK476.out 4).trans rfl; have hfz10_0 := blk_frozen BK476.out 0; have hfz10_1 := blk_frozen BK476.out 1; have hfz10_2 := blk_frozen BK476.out 2; have hfz10_3 := blk_frozen BK476.out 3; have hfz10_4 := blk_frozen BK476.out 4; have hcz11_0 : w8.cell? ⟨gb474, 0, none⟩ = some (.slice (some ad475) l0_0.length c0_0) := (blk_cell BK474.out 0).trans rfl; have hcz11_1 : w8.cell? ⟨gb474, 1, none⟩ = some (.slice A0_1 l0_1.length c0_1) := (blk_cell BK474.out 1).trans rfl; have hcz11_2 : w8.cell? ⟨gb474, 2, none⟩ = some (.int .i64 a0_2) := (blk_cell BK474.out 2).trans rfl; have hcz11_3 : w8.cell? ⟨gb474, 3, none⟩ = some (.int .i64 a0_3) := (blk_cell BK474.out 3).trans rfl; have hfz11_0 := blk_frozen BK474.out 0; have hfz11_1 := blk_frozen BK474.out 1; have hfz11_2 := blk_frozen BK474.out 2; have hfz11_3 := blk_frozen BK474.out 3)); try go_wp2_with (first | ((with_reducible refine gate_dst (N := 3) rfl ?_); refine box_event ?hg (N := 3) ?hd (cs := #[.slice A0_0 l0_0.length c0_0, .slice A0_1 l0_1.length c0_1, .int .i64 a0_2, .int .i64 a0_3]) (t := 66) ?hr ?_; (case hd => rfl); (case hg => rfl); (case hr => first | (go_simp; done) | (go_simp; rfl)); intro gb474 hg w6 hbox hb; have n0_ := Aside0.mk (below_step (by repeat (first | (with_reducible first | exact HB.out | apply below_alloc | apply pw_below_drewN | apply below_drew1) | exact HB.out)) hb); have n1_ := Aside0.mk (hbox); have n2_ := Aside0.mk ((by rw [hg]; exact (below_size (by repeat (first | (with_reducible first | exact HB.out | apply below_alloc | apply pw_below_drewN | apply below_drew1) | exact HB.out))) : w.heap.size ≤ gb474)); have n3_ := Aside0.mk ((by rw [hg]; exact (below_size (by repeat (first | (with_reducible first | exact HB.out | apply below_alloc | apply pw_below_drewN | apply below_drew1) | exact HB.out))) : w.heap.size ≤ gb474)); clear HB; have HB := n0_; have BK474 := n1_; have GW474 := n2_; have GE474 := n3_; clear n0_ n1_ n2_ n3_; clear hb hbox hg; have hcz7_0 : w6.cell? ⟨gb474, 0, none⟩ = some (.slice A0_0 l0_0.length c0_0) := (blk_cell BK474.out 0).trans rfl; have hcz7_1 : w6.cell? ⟨gb474, 1, none⟩ = some (.slice A0_1 l0_1.length c0_1) := (blk_cell BK474.out 1).trans rfl; have hcz7_2 : w6.cell? ⟨gb474, 2, none⟩ = some (.int .i64 a0_2) := (blk_cell BK474.out 2).trans rfl; have hcz7_3 : w6.cell? ⟨gb474, 3, none⟩ = some (.int .i64 a0_3) := (blk_cell BK474.out 3).trans rfl; have hfz7_0 := blk_frozen BK474.out 0; have hfz7_1 := blk_frozen BK474.out 1; have hfz7_2 := blk_frozen BK474.out 2; have hfz7_3 := blk_frozen BK474.out 3; have p475 : 0 ≤ (a1 : Int) := of_decide_eq_true (by first | (with_reducible assumption) | assumption); have q475 : a1 < (l0_0.length : Int) := of_decide_eq_true (by first | (with_reducible assumption) | assumption); obtain ⟨ad475, e475, hx475_0, hx475_1, hx475_2, hx475_3, hx475_4⟩ := at_T73 HR0_0.out a1 p475 q475; cases e475; replace hx475_0 := (HB.out.cell (World.block_lt_of_cell? w _ hx475_0)).trans hx475_0; replace hx475_1 := (HB.out.cell (World.block_lt_of_cell? w _ hx475_1)).trans hx475_1; replace hx475_2 := (HB.out.cell (World.block_lt_of_cell? w _ hx475_2)).trans hx475_2; replace hx475_3 := (HB.out.cell (World.block_lt_of_cell? w _ hx475_3)).trans hx475_3; replace hx475_4 := (HB.out.cell (World.block_lt_of_cell? w _ hx475_4)).trans hx475_4; replace p475 := eq_true p475; replace q475 := eq_true q475) | ((with_reducible refine gate_dst (N := 7) rfl ?_); refine box_event ?hg (N := 7) ?hd (cs := #[.string (⟨#[]⟩ : ByteArray), .int .i64 0, .int .i64 0, .int .i64 0, .int .i64 0]) (t := 73) ?hr ?_; (case hd => rfl); (case hg => rfl); (case hr => first | (go_simp; done) | (go_simp; rfl)); intro gb476 hg w8 hbox hb; have n0_ := Aside0.mk (blk_below (g := gb474) (o := .cells #[.slice (some ad475) l0_0.length c0_0, .slice A0_1 l0_1.length c0_1, .int .i64 a0_2, .int .i64 a0_3] 66 (0, 0)) (by (with_reducible repeat (first | refine blk_drewN ?_ _ | refine blk_drew ?_ | refine blk_alloc ?_ _)); exact BK474.out) hb); have n1_ := Aside0.mk (below_step (by repeat (first | (with_reducible first | exact HB.out | apply below_alloc | apply pw_below_drewN | apply below_drew1 | refine below_set ?_ GE474.out) | exact HB.out)) hb); have n2_ := Aside0.mk (hbox); have n3_ := Aside0.mk ((by rw [hg]; exact (below_size (by repeat (first | (with_reducible first | exact HB.out | apply below_alloc | apply pw_below_drewN | apply below_drew1 | refine below_set ?_ GE474.out) | exact HB.out))) : w.heap.size ≤ gb476)); have n4_ := Aside0.mk ((by rw [hg]; exact (below_size (by repeat (first | (with_reducible first | exact HB.out | apply below_alloc | apply pw_below_drewN | apply below_drew1 | refine below_set ?_ GE474.out) | exact HB.out))) : w.heap.size ≤ gb476)); have n5_ := Aside0.mk ((by rw [hg]; exact Nat.ne_of_lt (blk_lt (g := gb474) (o := .cells #[.slice (some ad475) l0_0.length c0_0, .slice A0_1 l0_1.length c0_1, .int .i64 a0_2, .int .i64 a0_3] 66 (0, 0)) (by (with_reducible repeat (first | refine blk_drewN ?_ _ | refine blk_drew ?_ | refine blk_alloc ?_ _)); exact BK474.out)) : gb474 ≠ gb476)); have n6_ := Aside0.mk ((by rw [hg]; exact Nat.ne_of_gt (blk_lt (g := gb474) (o := .cells #[.slice (some ad475) l0_0.length c0_0, .slice A0_1 l0_1.length c0_1, .int .i64 a0_2, .int .i64 a0_3] 66 (0, 0)) (by (with_reducible repeat (first | refine blk_drewN ?_ _ | refine blk_drew ?_ | refine blk_alloc ?_ _)); exact BK474.out)) : gb476 ≠ gb474)); clear BK474; clear HB; have BK474 := n0_; have HB := n1_; have BK476 := n2_; have GW476 := n3_; have GE476 := n4_; have NB474_476 := n5_; have NB476_474 := n6_; clear n0_ n1_ n2_ n3_ n4_ n5_ n6_; clear hb hbox hg; have hnb9 := NB476_474.out; have hnc9 := NB474_476.out; have hcz10_0 : w8.cell? ⟨gb476, 0, none⟩ = some (.string (⟨#[]⟩ : ByteArray)) := (blk_cell BK476.out 0).trans rfl; have hcz10_1 : w8.cell? ⟨gb476, 1, none⟩ = some (.int .i64 0) := (blk_cell BK476.out 1).trans rfl; have hcz10_2 : w8.cell? ⟨gb476, 2, none⟩ = some (.int .i64 0) := (blk_cell BK476.out 2).trans rfl; have hcz10_3 : w8.cell? ⟨gb476, 3, none⟩ = some (.int .i64 0) := (blk_cell BK476.out 3).trans rfl; have hcz10_4 : w8.cell? ⟨gb476, 4, none⟩ = some (.int .i64 0) := (blk_cell BK476.out 4).trans rfl; have hfz10_0 := blk_frozen BK476.out 0; have hfz10_1 := blk_frozen BK476.out 1; have hfz10_2 := blk_frozen BK476.out 2; have hfz10_3 := blk_frozen BK476.out 3; have hfz10_4 := blk_frozen BK476.out 4; have hcz11_0 : w8.cell? ⟨gb474, 0, none⟩ = some (.slice (some ad475) l0_0.length c0_0) := (blk_cell BK474.out 0).trans rfl; have hcz11_1 : w8.cell? ⟨gb474, 1, none⟩ = some (.slice A0_1 l0_1.length c0_1) := (blk_cell BK474.out 1).trans rfl; have hcz11_2 : w8.cell? ⟨gb474, 2, none⟩ = some (.int .i64 a0_2) := (blk_cell BK474.out 2).trans rfl; have hcz11_3 : w8.cell? ⟨gb474, 3, none⟩ = some (.int .i64 a0_3) := (blk_cell BK474.out 3).trans rfl; have hfz11_0 := blk_frozen BK474.out 0; have hfz11_1 := blk_frozen BK474.out 1; have hfz11_2 := blk_frozen BK474.out 2; have hfz11_3 := blk_frozen BK474.out 3)))
      go_ret
      exact ⟨by first | rfl | (simp [errW_none, errW_some] <;> rfl) | (simp [*, errW_none, errW_some] <;> rfl), by repeat (first | (with_reducible first | exact HB.out | apply below_alloc | apply pw_below_drewN | apply below_drew1 | refine below_set ?_ GE474.out | refine below_set ?_ GE476.out) | exact HB.out)⟩
    · rw [if_neg c5] at H
      exact absurd H (by simp)
  · rw [if_neg c4] at H
    exact absurd H (by simp)

end Go.Proofs.YtfoaglfnnomdkaaGreatDoor.C

-- Written by a program of this session (wip/tools/print2.py, over the kit's print tool); Lean checks it.
namespace Go.Proofs.YtfoaglfnnomdkaaGreatDoor.C
open Go.RowKit Go.Proofs.YtfoaglfnnomdkaaGreatDoorW.PrintWords Go.Proofs.YtfoaglfnnomdkaaGreatDoorW.PrintLast Go.Proofs.YtfoaglfnnomdkaaGreatDoorW.PrintMore
attribute [local go_sem] max2_int min2_int max_two min_two max_three min_three max_four min_four   -- for this text's walks alone
set_option linter.unusedVariables false
set_option linter.unusedSimpArgs false

/-! ### linkboyref11_CheckProgramme: function 24 -/
mutual
def linkboyref11_CheckProgramme.j0 : Nat → Bool → List (S73) → List Int → Int → Int → Option (Int × Int)
  | 0, _, _, _, _, _ => none
  | k + 1, x18, x462000, x462001, x462002, x462003 => if x18 = true then (some ((-1), 3)) else ((linkboyref11_in.f x462002 0 40000).bind fun t462 => (if t462 = true then ((linkboyref11_in.f x462003 1 4000).bind fun t463 => (linkboyref11_CheckProgramme.j1 k t463 x462000 x462001 x462002 x462003)) else (linkboyref11_CheckProgramme.j1 k false x462000 x462001 x462002 x462003)))
def linkboyref11_CheckProgramme.j1 : Nat → Bool → List (S73) → List Int → Int → Int → Option (Int × Int)
  | 0, _, _, _, _, _ => none
  | k + 1, x4, x462000, x462001, x462002, x462003 => linkboyref11_CheckProgramme.l0 k x4 0 x462000 x462001 x462002 x462003
def linkboyref11_CheckProgramme.l0 : Nat → Bool → Int → List (S73) → List Int → Int → Int → Option (Int × Int)
  | 0, _, _, _, _, _, _ => none
  | k + 1, x4, x5, x462000, x462001, x462002, x462003 => if x5 < (x462001.length : Int) then (if x4 = true then (if 0 ≤ x5 then ((linkboyref11_in.f (rd x462001 x5) 0 10000000).bind fun t465 => (linkboyref11_CheckProgramme.l0 k t465 (wrap64 (x5 + 1)) x462000 x462001 x462002 x462003)) else (none)) else (linkboyref11_CheckProgramme.l0 k false (wrap64 (x5 + 1)) x462000 x462001 x462002 x462003)) else (if x4 = true then (linkboyref11_CheckProgramme.l1 k 0 x462000 x462001 x462002 x462003) else (some ((-1), 7)))
def linkboyref11_CheckProgramme.l1 : Nat → Int → List (S73) → List Int → Int → Int → Option (Int × Int)
  | 0, _, _, _, _, _ => none
  | k + 1, x6, x462000, x462001, x462002, x462003 => if x6 < (x462000.length : Int) then (if 0 ≤ x6 then ((linkboyref02_Name.f k ((rd_T73 x462000 x6).f0)).bind fun t468 => (if t468 = true then (linkboyref11_CheckProgramme.l2 k x6 0 x462000 x462001 x462002 x462003 ((rd_T73 x462000 x6).f0) ((rd_T73 x462000 x6).f1) ((rd_T73 x462000 x6).f2) ((rd_T73 x462000 x6).f3) ((rd_T73 x462000 x6).f4)) else (some (x6, 6)))) else (none)) else (some (0, 0))
def linkboyref11_CheckProgramme.l2 : Nat → Int → Int → List (S73) → List Int → Int → Int → ByteArray → Int → Int → Int → Int → Option (Int × Int)
  | 0, _, _, _, _, _, _, _, _, _, _, _ => none
  | k + 1, x6, x8, x462000, x462001, x462002, x462003, x468000, x468001, x468002, x468003, x468004 => if x8 < x6 then (if 0 ≤ x8 then (if x8 < (x462000.length : Int) then (if ((rd_T73 x462000 x8).f0).toList = x468000.toList then (some (x6, 5)) else (linkboyref11_CheckProgramme.l2 k x6 (wrap64 (x8 + 1)) x462000 x462001 x462002 x462003 x468000 x468001 x468002 x468003 x468004)) else (none)) else (none)) else ((linkboyref11_in.f x468001 0 1000000).bind fun t470 => (if t470 = true then ((linkboyref11_in.f x468002 0 1000).bind fun t471 => (if t471 = true then ((linkboyref11_in.f x468003 0 10000000).bind fun t472 => (if t472 = true then ((linkboyref11_in.f x468004 0 x462002).bind fun t473 => (if t473 = true then (linkboyref11_CheckProgramme.l1 k (wrap64 (x6 + 1)) x462000 x462001 x462002 x462003) else (some (x6, 7)))) else (some (x6, 7)))) else (some (x6, 7)))) else (some (x6, 7))))
end
def linkboyref11_CheckProgramme.f (k : Nat) (l0_0 : List (S73)) (l0_1 : List Int) (a0_2 : Int) (a0_3 : Int) : Option (Int × Int) := if (l0_0.length : Int) > 6 then (linkboyref11_CheckProgramme.j0 k true l0_0 l0_1 a0_2 a0_3) else (linkboyref11_CheckProgramme.j0 k (decide ((l0_1.length : Int) > 3)) l0_0 l0_1 a0_2 a0_3)
theorem linkboyref11_CheckProgramme.mono_l : ∀ k, (∀ y0 y1 y2 y3 y4, LeO (linkboyref11_CheckProgramme.j0 k y0 y1 y2 y3 y4) (linkboyref11_CheckProgramme.j0 (k + 1) y0 y1 y2 y3 y4)) ∧ (∀ y0 y1 y2 y3 y4, LeO (linkboyref11_CheckProgramme.j1 k y0 y1 y2 y3 y4) (linkboyref11_CheckProgramme.j1 (k + 1) y0 y1 y2 y3 y4)) ∧ (∀ y0 y1 y2 y3 y4 y5, LeO (linkboyref11_CheckProgramme.l0 k y0 y1 y2 y3 y4 y5) (linkboyref11_CheckProgramme.l0 (k + 1) y0 y1 y2 y3 y4 y5)) ∧ (∀ y0 y1 y2 y3 y4, LeO (linkboyref11_CheckProgramme.l1 k y0 y1 y2 y3 y4) (linkboyref11_CheckProgramme.l1 (k + 1) y0 y1 y2 y3 y4)) ∧ (∀ y0 y1 y2 y3 y4 y5 y6 y7 y8 y9 y10, LeO (linkboyref11_CheckProgramme.l2 k y0 y1 y2 y3 y4 y5 y6 y7 y8 y9 y10) (linkboyref11_CheckProgramme.l2 (k + 1) y0 y1 y2 y3 y4 y5 y6 y7 y8 y9 y10))
  | 0 => ⟨fun _ _ _ _ _ r h => by simp [linkboyref11_CheckProgramme.j0] at h, fun _ _ _ _ _ r h => by simp [linkboyref11_CheckProgramme.j1] at h, fun _ _ _ _ _ _ r h => by simp [linkboyref11_CheckProgramme.l0] at h, fun _ _ _ _ _ r h => by simp [linkboyref11_CheckProgramme.l1] at h, fun _ _ _ _ _ _ _ _ _ _ _ r h => by simp [linkboyref11_CheckProgramme.l2] at h⟩
  | k + 1 => by
    obtain ⟨ih0, ih1, ih2, ih3, ih4⟩ := linkboyref11_CheckProgramme.mono_l k
    refine ⟨?_, ?_, ?_, ?_, ?_⟩
    · intro y0 y1 y2 y3 y4
      unfold linkboyref11_CheckProgramme.j0
      repeat' first
      | (with_reducible exact ih0 _ _ _ _ _)
      | (with_reducible exact ih1 _ _ _ _ _)
      | (with_reducible exact ih2 _ _ _ _ _ _)
      | (with_reducible exact ih3 _ _ _ _ _)
      | (with_reducible exact ih4 _ _ _ _ _ _ _ _ _ _ _)
      | (with_reducible exact linkboyref02_Name.mono _ _)
      | (with_reducible exact LeO.refl _)
      | (with_reducible exact LeO.none _)
      | (with_reducible refine LeO.ite ?_ ?_)
      | (with_reducible refine LeO.bind ?_ (fun _ => ?_))
      | exact ih0 _ _ _ _ _
      | exact ih1 _ _ _ _ _
      | exact ih2 _ _ _ _ _ _
      | exact ih3 _ _ _ _ _
      | exact ih4 _ _ _ _ _ _ _ _ _ _ _
      | exact linkboyref02_Name.mono _ _
      | exact LeO.none _
      | refine LeO.ite ?_ ?_
      | refine LeO.bind ?_ (fun _ => ?_)
    · intro y0 y1 y2 y3 y4
      unfold linkboyref11_CheckProgramme.j1
      repeat' first
      | (with_reducible exact ih0 _ _ _ _ _)
      | (with_reducible exact ih1 _ _ _ _ _)
      | (with_reducible exact ih2 _ _ _ _ _ _)
      | (with_reducible exact ih3 _ _ _ _ _)
      | (with_reducible exact ih4 _ _ _ _ _ _ _ _ _ _ _)
      | (with_reducible exact linkboyref02_Name.mono _ _)
      | (with_reducible exact LeO.refl _)
      | (with_reducible exact LeO.none _)
      | (with_reducible refine LeO.ite ?_ ?_)
      | (with_reducible refine LeO.bind ?_ (fun _ => ?_))
      | exact ih0 _ _ _ _ _
      | exact ih1 _ _ _ _ _
      | exact ih2 _ _ _ _ _ _
      | exact ih3 _ _ _ _ _
      | exact ih4 _ _ _ _ _ _ _ _ _ _ _
      | exact linkboyref02_Name.mono _ _
      | exact LeO.none _
      | refine LeO.ite ?_ ?_
      | refine LeO.bind ?_ (fun _ => ?_)
    · intro y0 y1 y2 y3 y4 y5
      unfold linkboyref11_CheckProgramme.l0
      repeat' first
      | (with_reducible exact ih0 _ _ _ _ _)
      | (with_reducible exact ih1 _ _ _ _ _)
      | (with_reducible exact ih2 _ _ _ _ _ _)
      | (with_reducible exact ih3 _ _ _ _ _)
      | (with_reducible exact ih4 _ _ _ _ _ _ _ _ _ _ _)
      | (with_reducible exact linkboyref02_Name.mono _ _)
      | (with_reducible exact LeO.refl _)
      | (with_reducible exact LeO.none _)
      | (with_reducible refine LeO.ite ?_ ?_)
      | (with_reducible refine LeO.bind ?_ (fun _ => ?_))
      | exact ih0 _ _ _ _ _
      | exact ih1 _ _ _ _ _
      | exact ih2 _ _ _ _ _ _
      | exact ih3 _ _ _ _ _
      | exact ih4 _ _ _ _ _ _ _ _ _ _ _
      | exact linkboyref02_Name.mono _ _
      | exact LeO.none _
      | refine LeO.ite ?_ ?_
      | refine LeO.bind ?_ (fun _ => ?_)
    · intro y0 y1 y2 y3 y4
      unfold linkboyref11_CheckProgramme.l1
      repeat' first
      | (with_reducible exact ih0 _ _ _ _ _)
      | (with_reducible exact ih1 _ _ _ _ _)
      | (with_reducible exact ih2 _ _ _ _ _ _)
      | (with_reducible exact ih3 _ _ _ _ _)
      | (with_reducible exact ih4 _ _ _ _ _ _ _ _ _ _ _)
      | (with_reducible exact linkboyref02_Name.mono _ _)
      | (with_reducible exact LeO.refl _)
      | (with_reducible exact LeO.none _)
      | (with_reducible refine LeO.ite ?_ ?_)
      | (with_reducible refine LeO.bind ?_ (fun _ => ?_))
      | exact ih0 _ _ _ _ _
      | exact ih1 _ _ _ _ _
      | exact ih2 _ _ _ _ _ _
      | exact ih3 _ _ _ _ _
      | exact ih4 _ _ _ _ _ _ _ _ _ _ _
      | exact linkboyref02_Name.mono _ _
      | exact LeO.none _
      | refine LeO.ite ?_ ?_
      | refine LeO.bind ?_ (fun _ => ?_)
    · intro y0 y1 y2 y3 y4 y5 y6 y7 y8 y9 y10
      unfold linkboyref11_CheckProgramme.l2
      repeat' first
      | (with_reducible exact ih0 _ _ _ _ _)
      | (with_reducible exact ih1 _ _ _ _ _)
      | (with_reducible exact ih2 _ _ _ _ _ _)
      | (with_reducible exact ih3 _ _ _ _ _)
      | (with_reducible exact ih4 _ _ _ _ _ _ _ _ _ _ _)
      | (with_reducible exact linkboyref02_Name.mono _ _)
      | (with_reducible exact LeO.refl _)
      | (with_reducible exact LeO.none _)
      | (with_reducible refine LeO.ite ?_ ?_)
      | (with_reducible refine LeO.bind ?_ (fun _ => ?_))
      | exact ih0 _ _ _ _ _
      | exact ih1 _ _ _ _ _
      | exact ih2 _ _ _ _ _ _
      | exact ih3 _ _ _ _ _
      | exact ih4 _ _ _ _ _ _ _ _ _ _ _
      | exact linkboyref02_Name.mono _ _
      | exact LeO.none _
      | refine LeO.ite ?_ ?_
      | refine LeO.bind ?_ (fun _ => ?_)
theorem linkboyref11_CheckProgramme.mono : ∀ a0 a1 a2 a3 k, LeO (linkboyref11_CheckProgramme.f k a0 a1 a2 a3) (linkboyref11_CheckProgramme.f (k + 1) a0 a1 a2 a3) := by
  intro a0 a1 a2 a3 k
  obtain ⟨ih0, ih1, ih2, ih3, ih4⟩ := linkboyref11_CheckProgramme.mono_l k
  unfold linkboyref11_CheckProgramme.f
  repeat' first
      | (with_reducible exact ih0 _ _ _ _ _)
      | (with_reducible exact ih1 _ _ _ _ _)
      | (with_reducible exact ih2 _ _ _ _ _ _)
      | (with_reducible exact ih3 _ _ _ _ _)
      | (with_reducible exact ih4 _ _ _ _ _ _ _ _ _ _ _)
      | (with_reducible exact linkboyref02_Name.mono _ _)
      | (with_reducible exact LeO.refl _)
      | (with_reducible exact LeO.none _)
      | (with_reducible refine LeO.ite ?_ ?_)
      | (with_reducible refine LeO.bind ?_ (fun _ => ?_))
      | exact ih0 _ _ _ _ _
      | exact ih1 _ _ _ _ _
      | exact ih2 _ _ _ _ _ _
      | exact ih3 _ _ _ _ _
      | exact ih4 _ _ _ _ _ _ _ _ _ _ _
      | exact linkboyref02_Name.mono _ _
      | exact LeO.none _
      | refine LeO.ite ?_ ?_
      | refine LeO.bind ?_ (fun _ => ?_)
set_option maxHeartbeats 8000000 in
set_option maxRecDepth 100000 in
theorem linkboyref11_CheckProgramme.calls (k : Nat) (A0_0 : Option Addr) (c0_0 : Nat) (l0_0 : List (S73)) (A0_1 : Option Addr) (c0_1 : Nat) (l0_1 : List Int) (a0_2 : Int) (a0_3 : Int) (r1 : Int) (r2 : Int) (w : World) (hr0_0 : Kd.C k73 w A0_0 l0_0.length l0_0) (hc0_0 : l0_0.length ≤ c0_0) (hr0_1 : Kd.C (Kd.int .i64) w A0_1 l0_1.length l0_1) (hc0_1 : l0_1.length ≤ c0_1) (h : linkboyref11_CheckProgramme.f k l0_0 l0_1 a0_2 a0_3 = some (r1, r2)) :
    Calls Tryz.prog 24 #[.agg #[.slice A0_0 l0_0.length c0_0, .slice A0_1 l0_1.length c0_1, .int .i64 a0_2, .int .i64 a0_3]] w fun e w' => e = .returned (.tuple #[.int .i64 r1, .int .i64 r2]) ∧ Below w.heap.size w w' := by
  have hu66 := Tryz.underlying66
  have hu73 := Tryz.underlying73
  have HR0_0 := Aside0.mk hr0_0
  have HC0_0 := Aside0.mk hc0_0
  clear hr0_0 hc0_0
  have HR0_1 := Aside0.mk hr0_1
  have HC0_1 := Aside0.mk hc0_1
  clear hr0_1 hc0_1
  have HB := Aside0.mk (Below.refl w.heap.size w)
  have H : (if (l0_0.length : Int) > 6 then (linkboyref11_CheckProgramme.j0 k true l0_0 l0_1 a0_2 a0_3) else (linkboyref11_CheckProgramme.j0 k (decide ((l0_1.length : Int) > 3)) l0_0 l0_1 a0_2 a0_3)) = some (r1, r2) := h
  clear h
  have HC2 := Aside0.mk H
  clear H
  go_enter Tryz.func24, Tryz.ntmps24
  go_upto_region 1 with (first | ((with_reducible refine gate_dst (N := 1) rfl ?_); (try (refine gate_guard (by rfl) ?_; dsimp only)); refine box_event ?hg (N := 1) ?hd (cs := #[.slice A0_0 l0_0.length c0_0, .slice A0_1 l0_1.length c0_1, .int .i64 a0_2, .int .i64 a0_3]) (t := 66) ?hr ?_; (case hd => rfl); (case hg => rfl); (case hr => first | (go_simp; done) | (go_simp; rfl)); intro gb461 hg w3 hbox hb; have n0_ := Aside0.mk (below_step (by repeat (first | (with_reducible first | exact HB.out | apply below_alloc | apply pw_below_drewN | apply below_drew1) | exact HB.out)) hb); have n1_ := Aside0.mk (hbox); have n2_ := Aside0.mk ((by rw [hg]; exact (below_size (by repeat (first | (with_reducible first | exact HB.out | apply below_alloc | apply pw_below_drewN | apply below_drew1) | exact HB.out))) : w.heap.size ≤ gb461)); have n3_ := Aside0.mk ((by rw [hg]; exact (below_size (by repeat (first | (with_reducible first | exact HB.out | apply below_alloc | apply pw_below_drewN | apply below_drew1) | exact HB.out))) : w.heap.size ≤ gb461)); clear HB; have HB := n0_; have BK461 := n1_; have GW461 := n2_; have GE461 := n3_; clear n0_ n1_ n2_ n3_; clear hb hbox hg))
  repeat (go_quiet (first | ((with_reducible refine gate_dst (N := 1) rfl ?_); (try (refine gate_guard (by rfl) ?_; dsimp only)); refine box_event ?hg (N := 1) ?hd (cs := #[.slice A0_0 l0_0.length c0_0, .slice A0_1 l0_1.length c0_1, .int .i64 a0_2, .int .i64 a0_3]) (t := 66) ?hr ?_; (case hd => rfl); (case hg => rfl); (case hr => first | (go_simp; done) | (go_simp; rfl)); intro gb461 hg w3 hbox hb; have n0_ := Aside0.mk (below_step (by repeat (first | (with_reducible first | exact HB.out | apply below_alloc | apply pw_below_drewN | apply below_drew1) | exact HB.out)) hb); have n1_ := Aside0.mk (hbox); have n2_ := Aside0.mk ((by rw [hg]; exact (below_size (by repeat (first | (with_reducible first | exact HB.out | apply below_alloc | apply pw_below_drewN | apply below_drew1) | exact HB.out))) : w.heap.size ≤ gb461)); have n3_ := Aside0.mk ((by rw [hg]; exact (below_size (by repeat (first | (with_reducible first | exact HB.out | apply below_alloc | apply pw_below_drewN | apply below_drew1) | exact HB.out))) : w.heap.size ≤ gb461)); clear HB; have HB := n0_; have BK461 := n1_; have GW461 := n2_; have GE461 := n3_; clear n0_ n1_ n2_ n3_; clear hb hbox hg)); go_upto_region 1 with (first | ((with_reducible refine gate_dst (N := 1) rfl ?_); (try (refine gate_guard (by rfl) ?_; dsimp only)); refine box_event ?hg (N := 1) ?hd (cs := #[.slice A0_0 l0_0.length c0_0, .slice A0_1 l0_1.length c0_1, .int .i64 a0_2, .int .i64 a0_3]) (t := 66) ?hr ?_; (case hd => rfl); (case hg => rfl); (case hr => first | (go_simp; done) | (go_simp; rfl)); intro gb461 hg w3 hbox hb; have n0_ := Aside0.mk (below_step (by repeat (first | (with_reducible first | exact HB.out | apply below_alloc | apply pw_below_drewN | apply below_drew1) | exact HB.out)) hb); have n1_ := Aside0.mk (hbox); have n2_ := Aside0.mk ((by rw [hg]; exact (below_size (by repeat (first | (with_reducible first | exact HB.out | apply below_alloc | apply pw_below_drewN | apply below_drew1) | exact HB.out))) : w.heap.size ≤ gb461)); have n3_ := Aside0.mk ((by rw [hg]; exact (below_size (by repeat (first | (with_reducible first | exact HB.out | apply below_alloc | apply pw_below_drewN | apply below_drew1) | exact HB.out))) : w.heap.size ≤ gb461)); clear HB; have HB := n0_; have BK461 := n1_; have GW461 := n2_; have GE461 := n3_; clear n0_ n1_ n2_ n3_; clear hb hbox hg)))
  (try simp only [Act.put, List.setIfInBounds_toArray, List.set_cons_zero, List.set_cons_succ])
  go_cut [18] (fun v18 wc => ∃ (kq : Nat) (x18_1 : Bool), v18 = .bool x18_1 ∧ Aside0 (linkboyref11_CheckProgramme.j0 kq x18_1 l0_0 l0_1 a0_2 a0_3 = some (r1, r2)) ∧ Aside0 (kq ≤ k) ∧ Aside0 (wc.heap[gb461]? = some (.cells #[(.slice A0_0 l0_0.length c0_0), (.slice A0_1 l0_1.length c0_1), .int .i64 a0_2, .int .i64 a0_3] 66 (0, 0))) ∧ Aside0 (Below w.heap.size w wc))
  case first =>
    have H := HC2.out
    clear HC2
    by_cases c4 : (l0_0.length : Int) > 6
    · rw [if_pos c4] at H
      have c4b0 : decide (6 < (l0_0.length : Int)) = true := decide_eq_true c4
      have c4b1 : decide (6 < l0_0.length) = true := decide_eq_true (by omega)
      clear c4
      (first | rw [c4b0] | (simp only [i64_w, i32_w]; rw [c4b0]) | skip)
      have H' := Aside0.mk H
      clear H
      have hcz5_0 : w3.cell? ⟨gb461, 0, none⟩ = some (.slice A0_0 l0_0.length c0_0) := (blk_cell BK461.out 0).trans rfl
      have hcz5_1 : w3.cell? ⟨gb461, 1, none⟩ = some (.slice A0_1 l0_1.length c0_1) := (blk_cell BK461.out 1).trans rfl
      have hcz5_2 : w3.cell? ⟨gb461, 2, none⟩ = some (.int .i64 a0_2) := (blk_cell BK461.out 2).trans rfl
      have hcz5_3 : w3.cell? ⟨gb461, 3, none⟩ = some (.int .i64 a0_3) := (blk_cell BK461.out 3).trans rfl
      have hfz5_0 := blk_frozen BK461.out 0
      have hfz5_1 := blk_frozen BK461.out 1
      have hfz5_2 := blk_frozen BK461.out 2
      have hfz5_3 := blk_frozen BK461.out 3
      go_wp2
      repeat (go_quiet (fail); try go_wp2)
      go_meet
      case rel => exact ⟨_, (true), (by first | rfl | (simp; done) | (simp [*]; done)), H', ⟨by first | omega | exact Nat.le_refl _⟩, ⟨by (with_reducible repeat (first | refine blk_drewN ?_ _ | refine blk_drew ?_ | refine blk_alloc ?_ _)); exact BK461.out⟩, ⟨by repeat (first | (with_reducible first | exact HB.out | apply below_alloc | apply pw_below_drewN | apply below_drew1 | refine below_set ?_ GE461.out) | exact HB.out)⟩⟩
    · rw [if_neg c4] at H
      have c4b0 : decide (6 < (l0_0.length : Int)) = false := decide_eq_false c4
      have c4b1 : decide (6 < l0_0.length) = false := decide_eq_false (by omega)
      clear c4
      (first | rw [c4b0] | (simp only [i64_w, i32_w]; rw [c4b0]) | skip)
      have H' := Aside0.mk H
      clear H
      have hcz6_0 : w3.cell? ⟨gb461, 0, none⟩ = some (.slice A0_0 l0_0.length c0_0) := (blk_cell BK461.out 0).trans rfl
      have hcz6_1 : w3.cell? ⟨gb461, 1, none⟩ = some (.slice A0_1 l0_1.length c0_1) := (blk_cell BK461.out 1).trans rfl
      have hcz6_2 : w3.cell? ⟨gb461, 2, none⟩ = some (.int .i64 a0_2) := (blk_cell BK461.out 2).trans rfl
      have hcz6_3 : w3.cell? ⟨gb461, 3, none⟩ = some (.int .i64 a0_3) := (blk_cell BK461.out 3).trans rfl
      have hfz6_0 := blk_frozen BK461.out 0
      have hfz6_1 := blk_frozen BK461.out 1
      have hfz6_2 := blk_frozen BK461.out 2
      have hfz6_3 := blk_frozen BK461.out 3
      go_wp2
      repeat (go_quiet (fail); try go_wp2)
      go_meet
      case rel => exact ⟨_, (decide ((l0_1.length : Int) > 3)), (by first | rfl | (simp; done) | (simp [*]; done)), H', ⟨by first | omega | exact Nat.le_refl _⟩, ⟨by (with_reducible repeat (first | refine blk_drewN ?_ _ | refine blk_drew ?_ | refine blk_alloc ?_ _)); exact BK461.out⟩, ⟨by repeat (first | (with_reducible first | exact HB.out | apply below_alloc | apply pw_below_drewN | apply below_drew1 | refine below_set ?_ GE461.out) | exact HB.out)⟩⟩
  case rest =>
    clear HC2
    try clear c2
    try clear p2
    try clear c4
    try clear c4b0
    try clear c4b1
    try clear hcz5_0
    try clear hcz5_1
    try clear hcz5_2
    try clear hcz5_3
    try clear hcz6_0
    try clear hcz6_1
    try clear hcz6_2
    try clear hcz6_3
    try clear hfz5_0
    try clear hfz5_1
    try clear hfz5_2
    try clear hfz5_3
    try clear hfz6_0
    try clear hfz6_1
    try clear hfz6_2
    try clear hfz6_3
    obtain ⟨kq, x18_1, rfl, HA, HJ1, BK461, HB⟩ := hcut
    cases kq with
    | zero => exact absurd HA.out (by simp [linkboyref11_CheckProgramme.j0])
    | succ kj1 =>
      have H := HA.out
      clear HA
      simp only [linkboyref11_CheckProgramme.j0] at H
      by_cases c7 : x18_1 = true
      · subst c7
        have H1 : (some ((-1), 3)) = some (r1, r2) := by rw [if_pos rfl] at H; exact H
        clear H
        have H := H1
        clear H1
        simp only [Option.some.injEq, Prod.mk.injEq] at H
        obtain ⟨rfl, rfl⟩ := H
        go_wp2
        repeat (go_quiet (fail); try go_wp2)
        go_ret2
        exact ⟨by first | rfl | (simp [errW_none, errW_some] <;> rfl) | (simp [*, errW_none, errW_some] <;> rfl), by repeat (first | (with_reducible first | exact HB.out | apply below_alloc | apply pw_below_drewN | apply below_drew1 | refine below_set ?_ GE461.out) | exact HB.out)⟩
      · replace c7 := Bool.eq_false_iff.mpr c7
        subst c7
        have H1 : ((linkboyref11_in.f a0_2 0 40000).bind fun t462 => (if t462 = true then ((linkboyref11_in.f a0_3 1 4000).bind fun t463 => (linkboyref11_CheckProgramme.j1 kj1 t463 l0_0 l0_1 a0_2 a0_3)) else (linkboyref11_CheckProgramme.j1 kj1 false l0_0 l0_1 a0_2 a0_3))) = some (r1, r2) := by rw [if_neg (show ¬ (false = true) by decide)] at H; exact H
        clear H
        have H := H1
        clear H1
        have HC8 := Aside0.mk H
        clear H
        go_upto_region 3 with (fail)
        repeat (go_quiet (fail); go_upto_region 3 with (fail))
        go_cut [4] (fun v4 wc => ∃ (kq : Nat) (x4_7 : Bool), v4 = .bool x4_7 ∧ Aside0 (linkboyref11_CheckProgramme.j1 kq x4_7 l0_0 l0_1 a0_2 a0_3 = some (r1, r2)) ∧ Aside0 (kq ≤ kj1) ∧ Aside0 (wc.heap[gb461]? = some (.cells #[(.slice A0_0 l0_0.length c0_0), (.slice A0_1 l0_1.length c0_1), .int .i64 a0_2, .int .i64 a0_3] 66 (0, 0))) ∧ Aside0 (Below w.heap.size w wc))
        case first =>
          have H := HC8.out
          clear HC8
          replace H := Option.bind_eq_some_iff.mp H
          obtain ⟨t462, A90, H⟩ := H
          replace H : (if t462 = true then ((linkboyref11_in.f a0_3 1 4000).bind fun t463 => (linkboyref11_CheckProgramme.j1 kj1 t463 l0_0 l0_1 a0_2 a0_3)) else (linkboyref11_CheckProgramme.j1 kj1 false l0_0 l0_1 a0_2 a0_3)) = some (r1, r2) := H
          have A9 := Aside0.mk A90
          clear A90
          by_cases c10 : t462 = true
          · subst c10
            have H1 : ((linkboyref11_in.f a0_3 1 4000).bind fun t463 => (linkboyref11_CheckProgramme.j1 kj1 t463 l0_0 l0_1 a0_2 a0_3)) = some (r1, r2) := by rw [if_pos rfl] at H; exact H
            clear H
            have H := H1
            clear H1
            replace H := Option.bind_eq_some_iff.mp H
            obtain ⟨t463, A110, H⟩ := H
            replace H : (linkboyref11_CheckProgramme.j1 kj1 t463 l0_0 l0_1 a0_2 a0_3) = some (r1, r2) := H
            have A11 := Aside0.mk A110
            clear A110
            have H' := Aside0.mk H
            clear H
            have hcz12_0 : wc.cell? ⟨gb461, 0, none⟩ = some (.slice A0_0 l0_0.length c0_0) := (blk_cell BK461.out 0).trans rfl
            have hcz12_1 : wc.cell? ⟨gb461, 1, none⟩ = some (.slice A0_1 l0_1.length c0_1) := (blk_cell BK461.out 1).trans rfl
            have hcz12_2 : wc.cell? ⟨gb461, 2, none⟩ = some (.int .i64 a0_2) := (blk_cell BK461.out 2).trans rfl
            have hcz12_3 : wc.cell? ⟨gb461, 3, none⟩ = some (.int .i64 a0_3) := (blk_cell BK461.out 3).trans rfl
            have hfz12_0 := blk_frozen BK461.out 0
            have hfz12_1 := blk_frozen BK461.out 1
            have hfz12_2 := blk_frozen BK461.out 2
            have hfz12_3 := blk_frozen BK461.out 3
            go_wp2_with (first | (go_at_call 78; (with_reducible refine (linkboyref11_in.calls a0_2 0 40000 true _ A9.out).mono ?_); rintro e w' ⟨rfl, ⟨nd, rfl⟩⟩; (try first | exact ⟨rfl, _, World.drewN_drewN _ _ _⟩ | exact ⟨rfl, _, Eq.trans (World.drewN_drewN _ _ _) (congrArg (World.drewN _) (Nat.add_assoc _ _ _))⟩)) | (go_at_call 78; (with_reducible refine (linkboyref11_in.calls a0_3 1 4000 t463 _ A11.out).mono ?_); rintro e w' ⟨rfl, ⟨nd, rfl⟩⟩; (try first | exact ⟨rfl, _, World.drewN_drewN _ _ _⟩ | exact ⟨rfl, _, Eq.trans (World.drewN_drewN _ _ _) (congrArg (World.drewN _) (Nat.add_assoc _ _ _))⟩)))
            repeat (go_quiet (first | (go_at_call 78; (with_reducible refine (linkboyref11_in.calls a0_2 0 40000 true _ A9.out).mono ?_); rintro e w' ⟨rfl, ⟨nd, rfl⟩⟩; (try first | exact ⟨rfl, _, World.drewN_drewN _ _ _⟩ | exact ⟨rfl, _, Eq.trans (World.drewN_drewN _ _ _) (congrArg (World.drewN _) (Nat.add_assoc _ _ _))⟩)) | (go_at_call 78; (with_reducible refine (linkboyref11_in.calls a0_3 1 4000 t463 _ A11.out).mono ?_); rintro e w' ⟨rfl, ⟨nd, rfl⟩⟩; (try first | exact ⟨rfl, _, World.drewN_drewN _ _ _⟩ | exact ⟨rfl, _, Eq.trans (World.drewN_drewN _ _ _) (congrArg (World.drewN _) (Nat.add_assoc _ _ _))⟩))); try go_wp2_with (first | (go_at_call 78; (with_reducible refine (linkboyref11_in.calls a0_2 0 40000 true _ A9.out).mono ?_); rintro e w' ⟨rfl, ⟨nd, rfl⟩⟩; (try first | exact ⟨rfl, _, World.drewN_drewN _ _ _⟩ | exact ⟨rfl, _, Eq.trans (World.drewN_drewN _ _ _) (congrArg (World.drewN _) (Nat.add_assoc _ _ _))⟩)) | (go_at_call 78; (with_reducible refine (linkboyref11_in.calls a0_3 1 4000 t463 _ A11.out).mono ?_); rintro e w' ⟨rfl, ⟨nd, rfl⟩⟩; (try first | exact ⟨rfl, _, World.drewN_drewN _ _ _⟩ | exact ⟨rfl, _, Eq.trans (World.drewN_drewN _ _ _) (congrArg (World.drewN _) (Nat.add_assoc _ _ _))⟩))))
            go_meet
            case rel => exact ⟨_, (t463), (by first | rfl | (simp; done) | (simp [*]; done)), H', ⟨by have := HJ1.out; first | omega | exact Nat.le_refl _⟩, ⟨by (with_reducible repeat (first | refine blk_drewN ?_ _ | refine blk_drew ?_ | refine blk_alloc ?_ _)); exact BK461.out⟩, ⟨by repeat (first | (with_reducible first | exact HB.out | apply below_alloc | apply pw_below_drewN | apply below_drew1 | refine below_set ?_ GE461.out) | exact HB.out)⟩⟩
          · replace c10 := Bool.eq_false_iff.mpr c10
            subst c10
            have H1 : (linkboyref11_CheckProgramme.j1 kj1 false l0_0 l0_1 a0_2 a0_3) = some (r1, r2) := by rw [if_neg (show ¬ (false = true) by decide)] at H; exact H
            clear H
            have H := H1
            clear H1
            have H' := Aside0.mk H
            clear H
            have hcz13_0 : wc.cell? ⟨gb461, 0, none⟩ = some (.slice A0_0 l0_0.length c0_0) := (blk_cell BK461.out 0).trans rfl
            have hcz13_1 : wc.cell? ⟨gb461, 1, none⟩ = some (.slice A0_1 l0_1.length c0_1) := (blk_cell BK461.out 1).trans rfl
            have hcz13_2 : wc.cell? ⟨gb461, 2, none⟩ = some (.int .i64 a0_2) := (blk_cell BK461.out 2).trans rfl
            have hcz13_3 : wc.cell? ⟨gb461, 3, none⟩ = some (.int .i64 a0_3) := (blk_cell BK461.out 3).trans rfl
            have hfz13_0 := blk_frozen BK461.out 0
            have hfz13_1 := blk_frozen BK461.out 1
            have hfz13_2 := blk_frozen BK461.out 2
            have hfz13_3 := blk_frozen BK461.out 3
            go_wp2_with (first | (go_at_call 78; (with_reducible refine (linkboyref11_in.calls a0_2 0 40000 false _ A9.out).mono ?_); rintro e w' ⟨rfl, ⟨nd, rfl⟩⟩; (try first | exact ⟨rfl, _, World.drewN_drewN _ _ _⟩ | exact ⟨rfl, _, Eq.trans (World.drewN_drewN _ _ _) (congrArg (World.drewN _) (Nat.add_assoc _ _ _))⟩)))
            repeat (go_quiet (first | (go_at_call 78; (with_reducible refine (linkboyref11_in.calls a0_2 0 40000 false _ A9.out).mono ?_); rintro e w' ⟨rfl, ⟨nd, rfl⟩⟩; (try first | exact ⟨rfl, _, World.drewN_drewN _ _ _⟩ | exact ⟨rfl, _, Eq.trans (World.drewN_drewN _ _ _) (congrArg (World.drewN _) (Nat.add_assoc _ _ _))⟩))); try go_wp2_with (first | (go_at_call 78; (with_reducible refine (linkboyref11_in.calls a0_2 0 40000 false _ A9.out).mono ?_); rintro e w' ⟨rfl, ⟨nd, rfl⟩⟩; (try first | exact ⟨rfl, _, World.drewN_drewN _ _ _⟩ | exact ⟨rfl, _, Eq.trans (World.drewN_drewN _ _ _) (congrArg (World.drewN _) (Nat.add_assoc _ _ _))⟩))))
            go_meet
            case rel => exact ⟨_, (false), (by first | rfl | (simp; done) | (simp [*]; done)), H', ⟨by have := HJ1.out; first | omega | exact Nat.le_refl _⟩, ⟨by (with_reducible repeat (first | refine blk_drewN ?_ _ | refine blk_drew ?_ | refine blk_alloc ?_ _)); exact BK461.out⟩, ⟨by repeat (first | (with_reducible first | exact HB.out | apply below_alloc | apply pw_below_drewN | apply below_drew1 | refine below_set ?_ GE461.out) | exact HB.out)⟩⟩
        case rest =>
          clear HC8
          try clear c1
          try clear c2
          try clear p2
          try clear c4
          try clear c4b0
          try clear c4b1
          try clear c7
          try clear c10
          try clear hcz12_0
          try clear hcz12_1
          try clear hcz12_2
          try clear hcz12_3
          try clear hcz13_0
          try clear hcz13_1
          try clear hcz13_2
          try clear hcz13_3
          try clear hcz5_0
          try clear hcz5_1
          try clear hcz5_2
          try clear hcz5_3
          try clear hcz6_0
          try clear hcz6_1
          try clear hcz6_2
          try clear hcz6_3
          try clear hfz12_0
          try clear hfz12_1
          try clear hfz12_2
          try clear hfz12_3
          try clear hfz13_0
          try clear hfz13_1
          try clear hfz13_2
          try clear hfz13_3
          try clear hfz5_0
          try clear hfz5_1
          try clear hfz5_2
          try clear hfz5_3
          try clear hfz6_0
          try clear hfz6_1
          try clear hfz6_2
          try clear hfz6_3
          try clear p2
          obtain ⟨kq, x4_7, rfl, HA, HJ7, BK461, HB⟩ := hcut
          cases kq with
          | zero => exact absurd HA.out (by simp [linkboyref11_CheckProgramme.j1])
          | succ kj7 =>
            have H := HA.out
            clear HA
            simp only [linkboyref11_CheckProgramme.j1] at H
            have H' := Aside0.mk H
            clear H
            go_wp2
            repeat (go_quiet (fail); try go_wp2)
            go_loopg [4, 5] kj7 (fun kq v4 v5 w' => ∃ (x4_3 : Bool) (x5_3 : Int), v4 = .bool x4_3 ∧ v5 = .int .i64 x5_3 ∧ Aside0 (linkboyref11_CheckProgramme.l0 kq x4_3 x5_3 l0_0 l0_1 a0_2 a0_3 = some (r1, r2)) ∧ Aside0 (kq ≤ kj7) ∧ Aside0 (w'.heap[gb461]? = some (.cells #[(.slice A0_0 l0_0.length c0_0), (.slice A0_1 l0_1.length c0_1), .int .i64 a0_2, .int .i64 a0_3] 66 (0, 0))) ∧ Aside0 (Below w.heap.size w w'))
            case atStart => exact ⟨(x4_7), (0), (by first | rfl | (simp; done) | (simp [*]; done)), (by first | rfl | (simp; done) | (simp [*]; done)), H', ⟨Nat.le_refl _⟩, ⟨by (with_reducible repeat (first | refine blk_drewN ?_ _ | refine blk_drew ?_ | refine blk_alloc ?_ _)); exact BK461.out⟩, ⟨by repeat (first | (with_reducible first | exact HB.out | apply below_alloc | apply pw_below_drewN | apply below_drew1 | refine below_set ?_ GE461.out) | exact HB.out)⟩⟩
            case round =>
              clear H'
              try clear c1
              try clear c2
              try clear p2
              try clear c4
              try clear c4b0
              try clear c4b1
              try clear c7
              try clear c10
              try clear hcz12_0
              try clear hcz12_1
              try clear hcz12_2
              try clear hcz12_3
              try clear hcz13_0
              try clear hcz13_1
              try clear hcz13_2
              try clear hcz13_3
              try clear hcz5_0
              try clear hcz5_1
              try clear hcz5_2
              try clear hcz5_3
              try clear hcz6_0
              try clear hcz6_1
              try clear hcz6_2
              try clear hcz6_3
              try clear hfz12_0
              try clear hfz12_1
              try clear hfz12_2
              try clear hfz12_3
              try clear hfz13_0
              try clear hfz13_1
              try clear hfz13_2
              try clear hfz13_3
              try clear hfz5_0
              try clear hfz5_1
              try clear hfz5_2
              try clear hfz5_3
              try clear hfz6_0
              try clear hfz6_1
              try clear hfz6_2
              try clear hfz6_3
              try clear p2
              obtain ⟨x4_3, x5_3, rfl, rfl, HA, HK3, BK461, HB⟩ := hrel
              cases gk with
              | zero => exact absurd HA.out (by simp [linkboyref11_CheckProgramme.l0])
              | succ k3 =>
                have H := HA.out
                clear HA
                simp only [linkboyref11_CheckProgramme.l0] at H
                by_cases c14 : x5_3 < (l0_1.length : Int)
                · rw [if_pos c14] at H
                  have c14b0 : decide (x5_3 < (l0_1.length : Int)) = true := decide_eq_true c14
                  clear c14
                  by_cases c15 : x4_3 = true
                  · subst c15
                    have H1 : (if 0 ≤ x5_3 then ((linkboyref11_in.f (rd l0_1 x5_3) 0 10000000).bind fun t465 => (linkboyref11_CheckProgramme.l0 k3 t465 (wrap64 (x5_3 + 1)) l0_0 l0_1 a0_2 a0_3)) else (none)) = some (r1, r2) := by rw [if_pos rfl] at H; exact H
                    clear H
                    have H := H1
                    clear H1
                    by_cases c16 : 0 ≤ x5_3
                    · rw [if_pos c16] at H
                      have c16b0 : decide (0 ≤ x5_3) = true := decide_eq_true c16
                      clear c16
                      replace H := Option.bind_eq_some_iff.mp H
                      obtain ⟨t465, A170, H⟩ := H
                      replace H : (linkboyref11_CheckProgramme.l0 k3 t465 (wrap64 (x5_3 + 1)) l0_0 l0_1 a0_2 a0_3) = some (r1, r2) := H
                      have A17 := Aside0.mk A170
                      clear A170
                      have H' := Aside0.mk H
                      clear H
                      have hcz18_0 : wr.cell? ⟨gb461, 0, none⟩ = some (.slice A0_0 l0_0.length c0_0) := (blk_cell BK461.out 0).trans rfl
                      have hcz18_1 : wr.cell? ⟨gb461, 1, none⟩ = some (.slice A0_1 l0_1.length c0_1) := (blk_cell BK461.out 1).trans rfl
                      have hcz18_2 : wr.cell? ⟨gb461, 2, none⟩ = some (.int .i64 a0_2) := (blk_cell BK461.out 2).trans rfl
                      have hcz18_3 : wr.cell? ⟨gb461, 3, none⟩ = some (.int .i64 a0_3) := (blk_cell BK461.out 3).trans rfl
                      have hfz18_0 := blk_frozen BK461.out 0
                      have hfz18_1 := blk_frozen BK461.out 1
                      have hfz18_2 := blk_frozen BK461.out 2
                      have hfz18_3 := blk_frozen BK461.out 3
                      have p464 : 0 ≤ (x5_3 : Int) := of_decide_eq_true (by first | (with_reducible assumption) | assumption)
                      have q464 : x5_3 < (l0_1.length : Int) := of_decide_eq_true (by first | (with_reducible assumption) | assumption)
                      obtain ⟨ad464, e464, hx464_0⟩ := Kd.at_int HR0_1.out x5_3 p464 q464
                      cases e464
                      replace hx464_0 := (HB.out.cell (World.block_lt_of_cell? w _ hx464_0)).trans hx464_0
                      replace p464 := eq_true p464
                      replace q464 := eq_true q464
                      go_wp2_with (first | (go_at_call 78; (with_reducible refine (linkboyref11_in.calls (rd l0_1 x5_3) 0 10000000 t465 _ A17.out).mono ?_); rintro e w' ⟨rfl, ⟨nd, rfl⟩⟩; (try first | exact ⟨rfl, _, World.drewN_drewN _ _ _⟩ | exact ⟨rfl, _, Eq.trans (World.drewN_drewN _ _ _) (congrArg (World.drewN _) (Nat.add_assoc _ _ _))⟩)))
                      repeat (go_quiet (first | (go_at_call 78; (with_reducible refine (linkboyref11_in.calls (rd l0_1 x5_3) 0 10000000 t465 _ A17.out).mono ?_); rintro e w' ⟨rfl, ⟨nd, rfl⟩⟩; (try first | exact ⟨rfl, _, World.drewN_drewN _ _ _⟩ | exact ⟨rfl, _, Eq.trans (World.drewN_drewN _ _ _) (congrArg (World.drewN _) (Nat.add_assoc _ _ _))⟩))); try go_wp2_with (first | (go_at_call 78; (with_reducible refine (linkboyref11_in.calls (rd l0_1 x5_3) 0 10000000 t465 _ A17.out).mono ?_); rintro e w' ⟨rfl, ⟨nd, rfl⟩⟩; (try first | exact ⟨rfl, _, World.drewN_drewN _ _ _⟩ | exact ⟨rfl, _, Eq.trans (World.drewN_drewN _ _ _) (congrArg (World.drewN _) (Nat.add_assoc _ _ _))⟩))))
                      go_roundg k3
                      case measure => have := HJ1.out; have := HJ7.out; have := HK3.out; omega
                      case rel => exact ⟨(t465), (wrap64 (x5_3 + 1)), (by first | rfl | (simp; done) | (simp [*]; done)), (by first | rfl | (simp; done) | (simp [*]; done)), H', ⟨by have := HJ1.out; have := HJ7.out; have := HK3.out; omega⟩, ⟨by (with_reducible repeat (first | refine blk_drewN ?_ _ | refine blk_drew ?_ | refine blk_alloc ?_ _)); exact BK461.out⟩, ⟨by repeat (first | (with_reducible first | exact HB.out | apply below_alloc | apply pw_below_drewN | apply below_drew1 | refine below_set ?_ GE461.out) | exact HB.out)⟩⟩
                    · rw [if_neg c16] at H
                      exact absurd H (by simp)
                  · replace c15 := Bool.eq_false_iff.mpr c15
                    subst c15
                    have H1 : (linkboyref11_CheckProgramme.l0 k3 false (wrap64 (x5_3 + 1)) l0_0 l0_1 a0_2 a0_3) = some (r1, r2) := by rw [if_neg (show ¬ (false = true) by decide)] at H; exact H
                    clear H
                    have H := H1
                    clear H1
                    have H' := Aside0.mk H
                    clear H
                    have hcz19_0 : wr.cell? ⟨gb461, 0, none⟩ = some (.slice A0_0 l0_0.length c0_0) := (blk_cell BK461.out 0).trans rfl
                    have hcz19_1 : wr.cell? ⟨gb461, 1, none⟩ = some (.slice A0_1 l0_1.length c0_1) := (blk_cell BK461.out 1).trans rfl
                    have hcz19_2 : wr.cell? ⟨gb461, 2, none⟩ = some (.int .i64 a0_2) := (blk_cell BK461.out 2).trans rfl
                    have hcz19_3 : wr.cell? ⟨gb461, 3, none⟩ = some (.int .i64 a0_3) := (blk_cell BK461.out 3).trans rfl
                    have hfz19_0 := blk_frozen BK461.out 0
                    have hfz19_1 := blk_frozen BK461.out 1
                    have hfz19_2 := blk_frozen BK461.out 2
                    have hfz19_3 := blk_frozen BK461.out 3
                    go_wp2
                    repeat (go_quiet (fail); try go_wp2)
                    go_roundg k3
                    case measure => have := HJ1.out; have := HJ7.out; have := HK3.out; omega
                    case rel => exact ⟨(false), (wrap64 (x5_3 + 1)), (by first | rfl | (simp; done) | (simp [*]; done)), (by first | rfl | (simp; done) | (simp [*]; done)), H', ⟨by have := HJ1.out; have := HJ7.out; have := HK3.out; omega⟩, ⟨by (with_reducible repeat (first | refine blk_drewN ?_ _ | refine blk_drew ?_ | refine blk_alloc ?_ _)); exact BK461.out⟩, ⟨by repeat (first | (with_reducible first | exact HB.out | apply below_alloc | apply pw_below_drewN | apply below_drew1 | refine below_set ?_ GE461.out) | exact HB.out)⟩⟩
                · rw [if_neg c14] at H
                  have c14b0 : decide (x5_3 < (l0_1.length : Int)) = false := decide_eq_false c14
                  clear c14
                  by_cases c20 : x4_3 = true
                  · subst c20
                    have H1 : (linkboyref11_CheckProgramme.l1 k3 0 l0_0 l0_1 a0_2 a0_3) = some (r1, r2) := by rw [if_pos rfl] at H; exact H
                    clear H
                    have H := H1
                    clear H1
                    have H' := Aside0.mk H
                    clear H
                    have hcz21_0 : wr.cell? ⟨gb461, 0, none⟩ = some (.slice A0_0 l0_0.length c0_0) := (blk_cell BK461.out 0).trans rfl
                    have hcz21_1 : wr.cell? ⟨gb461, 1, none⟩ = some (.slice A0_1 l0_1.length c0_1) := (blk_cell BK461.out 1).trans rfl
                    have hcz21_2 : wr.cell? ⟨gb461, 2, none⟩ = some (.int .i64 a0_2) := (blk_cell BK461.out 2).trans rfl
                    have hcz21_3 : wr.cell? ⟨gb461, 3, none⟩ = some (.int .i64 a0_3) := (blk_cell BK461.out 3).trans rfl
                    have hfz21_0 := blk_frozen BK461.out 0
                    have hfz21_1 := blk_frozen BK461.out 1
                    have hfz21_2 := blk_frozen BK461.out 2
                    have hfz21_3 := blk_frozen BK461.out 3
                    go_wp2
                    repeat (go_quiet (fail); try go_wp2)
                    go_loopg [6] k3 (fun kq v6 w' => ∃ (x6_4 : Int), v6 = .int .i64 x6_4 ∧ Aside0 (linkboyref11_CheckProgramme.l1 kq x6_4 l0_0 l0_1 a0_2 a0_3 = some (r1, r2)) ∧ Aside0 (kq ≤ k3) ∧ Aside0 (w'.heap[gb461]? = some (.cells #[(.slice A0_0 l0_0.length c0_0), (.slice A0_1 l0_1.length c0_1), .int .i64 a0_2, .int .i64 a0_3] 66 (0, 0))) ∧ Aside0 (Below w.heap.size w w'))
                    case atStart => exact ⟨(0), (by first | rfl | (simp; done) | (simp [*]; done)), H', ⟨Nat.le_refl _⟩, ⟨by (with_reducible repeat (first | refine blk_drewN ?_ _ | refine blk_drew ?_ | refine blk_alloc ?_ _)); exact BK461.out⟩, ⟨by repeat (first | (with_reducible first | exact HB.out | apply below_alloc | apply pw_below_drewN | apply below_drew1 | refine below_set ?_ GE461.out) | exact HB.out)⟩⟩
                    case round =>
                      clear H'
                      try clear c1
                      try clear c2
                      try clear p2
                      try clear c4
                      try clear c4b0
                      try clear c4b1
                      try clear p4
                      try clear q4
                      try clear hx4
                      try clear p6
                      try clear c7
                      try clear c10
                      try clear c14
                      try clear c14b0
                      try clear c15
                      try clear c16
                      try clear c16b0
                      try clear c20
                      try clear hcz12_0
                      try clear hcz12_1
                      try clear hcz12_2
                      try clear hcz12_3
                      try clear hcz13_0
                      try clear hcz13_1
                      try clear hcz13_2
                      try clear hcz13_3
                      try clear hcz18_0
                      try clear hcz18_1
                      try clear hcz18_2
                      try clear hcz18_3
                      try clear hcz19_0
                      try clear hcz19_1
                      try clear hcz19_2
                      try clear hcz19_3
                      try clear hcz21_0
                      try clear hcz21_1
                      try clear hcz21_2
                      try clear hcz21_3
                      try clear hcz5_0
                      try clear hcz5_1
                      try clear hcz5_2
                      try clear hcz5_3
                      try clear hcz6_0
                      try clear hcz6_1
                      try clear hcz6_2
                      try clear hcz6_3
                      try clear hfz12_0
                      try clear hfz12_1
                      try clear hfz12_2
                      try clear hfz12_3
                      try clear hfz13_0
                      try clear hfz13_1
                      try clear hfz13_2
                      try clear hfz13_3
                      try clear hfz18_0
                      try clear hfz18_1
                      try clear hfz18_2
                      try clear hfz18_3
                      try clear hfz19_0
                      try clear hfz19_1
                      try clear hfz19_2
                      try clear hfz19_3
                      try clear hfz21_0
                      try clear hfz21_1
                      try clear hfz21_2
                      try clear hfz21_3
                      try clear hfz5_0
                      try clear hfz5_1
                      try clear hfz5_2
                      try clear hfz5_3
                      try clear hfz6_0
                      try clear hfz6_1
                      try clear hfz6_2
                      try clear hfz6_3
                      try clear hx464_0
                      try clear p2
                      try clear p464
                      try clear q464
                      obtain ⟨x6_4, rfl, HA, HK4, BK461, HB⟩ := hrel
                      cases gk with
                      | zero => exact absurd HA.out (by simp [linkboyref11_CheckProgramme.l1])
                      | succ k4 =>
                        have H := HA.out
                        clear HA
                        simp only [linkboyref11_CheckProgramme.l1] at H
                        by_cases c22 : x6_4 < (l0_0.length : Int)
                        · rw [if_pos c22] at H
                          have c22b0 : decide (x6_4 < (l0_0.length : Int)) = true := decide_eq_true c22
                          clear c22
                          by_cases c23 : 0 ≤ x6_4
                          · rw [if_pos c23] at H
                            have c23b0 : decide (0 ≤ x6_4) = true := decide_eq_true c23
                            clear c23
                            replace H := Option.bind_eq_some_iff.mp H
                            obtain ⟨t468, A240, H⟩ := H
                            replace H : (if t468 = true then (linkboyref11_CheckProgramme.l2 k4 x6_4 0 l0_0 l0_1 a0_2 a0_3 ((rd_T73 l0_0 x6_4).f0) ((rd_T73 l0_0 x6_4).f1) ((rd_T73 l0_0 x6_4).f2) ((rd_T73 l0_0 x6_4).f3) ((rd_T73 l0_0 x6_4).f4)) else (some (x6_4, 6))) = some (r1, r2) := H
                            have A24 := Aside0.mk A240
                            clear A240
                            by_cases c25 : t468 = true
                            · subst c25
                              have H1 : (linkboyref11_CheckProgramme.l2 k4 x6_4 0 l0_0 l0_1 a0_2 a0_3 ((rd_T73 l0_0 x6_4).f0) ((rd_T73 l0_0 x6_4).f1) ((rd_T73 l0_0 x6_4).f2) ((rd_T73 l0_0 x6_4).f3) ((rd_T73 l0_0 x6_4).f4)) = some (r1, r2) := by rw [if_pos rfl] at H; exact H
                              clear H
                              have H := H1
                              clear H1
                              have H' := Aside0.mk H
                              clear H
                              have hcz26_0 : wr.cell? ⟨gb461, 0, none⟩ = some (.slice A0_0 l0_0.length c0_0) := (blk_cell BK461.out 0).trans rfl
                              have hcz26_1 : wr.cell? ⟨gb461, 1, none⟩ = some (.slice A0_1 l0_1.length c0_1) := (blk_cell BK461.out 1).trans rfl
                              have hcz26_2 : wr.cell? ⟨gb461, 2, none⟩ = some (.int .i64 a0_2) := (blk_cell BK461.out 2).trans rfl
                              have hcz26_3 : wr.cell? ⟨gb461, 3, none⟩ = some (.int .i64 a0_3) := (blk_cell BK461.out 3).trans rfl
                              have hfz26_0 := blk_frozen BK461.out 0
                              have hfz26_1 := blk_frozen BK461.out 1
                              have hfz26_2 := blk_frozen BK461.out 2
                              have hfz26_3 := blk_frozen BK461.out 3
                              have p466 : 0 ≤ (x6_4 : Int) := of_decide_eq_true (by first | (with_reducible assumption) | assumption)
                              have q466 : x6_4 < (l0_0.length : Int) := of_decide_eq_true (by first | (with_reducible assumption) | assumption)
                              obtain ⟨ad466, e466, hx466_0, hx466_1, hx466_2, hx466_3, hx466_4⟩ := at_T73 HR0_0.out x6_4 p466 q466
                              cases e466
                              replace hx466_0 := (HB.out.cell (World.block_lt_of_cell? w _ hx466_0)).trans hx466_0
                              replace hx466_1 := (HB.out.cell (World.block_lt_of_cell? w _ hx466_1)).trans hx466_1
                              replace hx466_2 := (HB.out.cell (World.block_lt_of_cell? w _ hx466_2)).trans hx466_2
                              replace hx466_3 := (HB.out.cell (World.block_lt_of_cell? w _ hx466_3)).trans hx466_3
                              replace hx466_4 := (HB.out.cell (World.block_lt_of_cell? w _ hx466_4)).trans hx466_4
                              replace p466 := eq_true p466
                              replace q466 := eq_true q466
                              go_wp2_with (first | ((with_reducible refine gate_dst (N := 7) rfl ?_); (try (refine gate_guard (by rfl) ?_; dsimp only)); refine box_event ?hg (N := 7) ?hd (cs := #[.string (⟨#[]⟩ : ByteArray), .int .i64 0, .int .i64 0, .int .i64 0, .int .i64 0]) (t := 73) ?hr ?_; (case hd => rfl); (case hg => rfl); (case hr => first | (go_simp; done) | (go_simp; rfl)); intro gb467 hg w27 hbox hb; have n0_ := Aside0.mk (blk_below (g := gb461) (o := .cells #[.slice (some ad466) l0_0.length c0_0, .slice A0_1 l0_1.length c0_1, .int .i64 a0_2, .int .i64 a0_3] 66 (0, 0)) (by (with_reducible repeat (first | refine blk_drewN ?_ _ | refine blk_drew ?_ | refine blk_alloc ?_ _)); exact BK461.out) hb); have n1_ := Aside0.mk (below_step (by repeat (first | (with_reducible first | exact HB.out | apply below_alloc | apply pw_below_drewN | apply below_drew1 | refine below_set ?_ GE461.out) | exact HB.out)) hb); have n2_ := Aside0.mk (hbox); have n3_ := Aside0.mk ((by rw [hg]; exact (below_size (by repeat (first | (with_reducible first | exact HB.out | apply below_alloc | apply pw_below_drewN | apply below_drew1 | refine below_set ?_ GE461.out) | exact HB.out))) : w.heap.size ≤ gb467)); have n4_ := Aside0.mk ((by rw [hg]; exact (below_size (by repeat (first | (with_reducible first | exact HB.out | apply below_alloc | apply pw_below_drewN | apply below_drew1 | refine below_set ?_ GE461.out) | exact HB.out))) : w.heap.size ≤ gb467)); have n5_ := Aside0.mk ((by rw [hg]; exact Nat.ne_of_lt (blk_lt (g := gb461) (o := .cells #[.slice (some ad466) l0_0.length c0_0, .slice A0_1 l0_1.length c0_1, .int .i64 a0_2, .int .i64 a0_3] 66 (0, 0)) (by (with_reducible repeat (first | refine blk_drewN ?_ _ | refine blk_drew ?_ | refine blk_alloc ?_ _)); exact BK461.out)) : gb461 ≠ gb467)); have n6_ := Aside0.mk ((by rw [hg]; exact Nat.ne_of_gt (blk_lt (g := gb461) (o := .cells #[.slice (some ad466) l0_0.length c0_0, .slice A0_1 l0_1.length c0_1, .int .i64 a0_2, .int .i64 a0_3] 66 (0, 0)) (by (with_reducible repeat (first | refine blk_drewN ?_ _ | refine blk_drew ?_ | refine blk_alloc ?_ _)); exact BK461.out)) : gb467 ≠ gb461)); clear BK461; clear HB; have BK461 := n0_; have HB := n1_; have BK467 := n2_; have GW467 := n3_; have GE467 := n4_; have NB461_467 := n5_; have NB467_461 := n6_; clear n0_ n1_ n2_ n3_ n4_ n5_ n6_; clear hb hbox hg; have hnb28 := NB467_461.out; have hnc28 := NB461_467.out; have hcz29_0 : w27.cell? ⟨gb467, 0, none⟩ = some (.string (⟨#[]⟩ : ByteArray)) := (blk_cell BK467.out 0).trans rfl; have hcz29_1 : w27.cell? ⟨gb467, 1, none⟩ = some (.int .i64 0) := (blk_cell BK467.out 1).trans rfl; have hcz29_2 : w27.cell? ⟨gb467, 2, none⟩ = some (.int .i64 0) := (blk_cell BK467.out 2).trans rfl; have hcz29_3 : w27.cell? ⟨gb467, 3, none⟩ = some (.int .i64 0) := (blk_cell BK467.out 3).trans rfl; have hcz29_4 : w27.cell? ⟨gb467, 4, none⟩ = some (.int .i64 0) := (blk_cell BK467.out 4).trans rfl; have hfz29_0 := blk_frozen BK467.out 0; have hfz29_1 := blk_frozen BK467.out 1; have hfz29_2 := blk_frozen BK467.out 2; have hfz29_3 := blk_frozen BK467.out 3; have hfz29_4 := blk_frozen BK467.out 4) | (go_at_call 79; (with_reducible refine (linkboyref02_Name.calls k4 ((rd_T73 l0_0 x6_4).f0) true _ A24.out).mono ?_); rintro e w' ⟨rfl, ⟨nd, rfl⟩⟩; (try first | exact ⟨rfl, _, World.drewN_drewN _ _ _⟩ | exact ⟨rfl, _, Eq.trans (World.drewN_drewN _ _ _) (congrArg (World.drewN _) (Nat.add_assoc _ _ _))⟩)))
                              repeat (go_quiet (first | ((with_reducible refine gate_dst (N := 7) rfl ?_); (try (refine gate_guard (by rfl) ?_; dsimp only)); refine box_event ?hg (N := 7) ?hd (cs := #[.string (⟨#[]⟩ : ByteArray), .int .i64 0, .int .i64 0, .int .i64 0, .int .i64 0]) (t := 73) ?hr ?_; (case hd => rfl); (case hg => rfl); (case hr => first | (go_simp; done) | (go_simp; rfl)); intro gb467 hg w27 hbox hb; have n0_ := Aside0.mk (blk_below (g := gb461) (o := .cells #[.slice (some ad466) l0_0.length c0_0, .slice A0_1 l0_1.length c0_1, .int .i64 a0_2, .int .i64 a0_3] 66 (0, 0)) (by (with_reducible repeat (first | refine blk_drewN ?_ _ | refine blk_drew ?_ | refine blk_alloc ?_ _)); exact BK461.out) hb); have n1_ := Aside0.mk (below_step (by repeat (first | (with_reducible first | exact HB.out | apply below_alloc | apply pw_below_drewN | apply below_drew1 | refine below_set ?_ GE461.out) | exact HB.out)) hb); have n2_ := Aside0.mk (hbox); have n3_ := Aside0.mk ((by rw [hg]; exact (below_size (by repeat (first | (with_reducible first | exact HB.out | apply below_alloc | apply pw_below_drewN | apply below_drew1 | refine below_set ?_ GE461.out) | exact HB.out))) : w.heap.size ≤ gb467)); have n4_ := Aside0.mk ((by rw [hg]; exact (below_size (by repeat (first | (with_reducible first | exact HB.out | apply below_alloc | apply pw_below_drewN | apply below_drew1 | refine below_set ?_ GE461.out) | exact HB.out))) : w.heap.size ≤ gb467)); have n5_ := Aside0.mk ((by rw [hg]; exact Nat.ne_of_lt (blk_lt (g := gb461) (o := .cells #[.slice (some ad466) l0_0.length c0_0, .slice A0_1 l0_1.length c0_1, .int .i64 a0_2, .int .i64 a0_3] 66 (0, 0)) (by (with_reducible repeat (first | refine blk_drewN ?_ _ | refine blk_drew ?_ | refine blk_alloc ?_ _)); exact BK461.out)) : gb461 ≠ gb467)); have n6_ := Aside0.mk ((by rw [hg]; exact Nat.ne_of_gt (blk_lt (g := gb461) (o := .cells #[.slice (some ad466) l0_0.length c0_0, .slice A0_1 l0_1.length c0_1, .int .i64 a0_2, .int .i64 a0_3] 66 (0, 0)) (by (with_reducible repeat (first | refine blk_drewN ?_ _ | refine blk_drew ?_ | refine blk_alloc ?_ _)); exact BK461.out)) : gb467 ≠ gb461)); clear BK461; clear HB; have BK461 := n0_; have HB := n1_; have BK467 := n2_; have GW467 := n3_; have GE467 := n4_; have NB461_467 := n5_; have NB467_461 := n6_; clear n0_ n1_ n2_ n3_ n4_ n5_ n6_; clear hb hbox hg; have hnb28 := NB467_461.out; have hnc28 := NB461_467.out; have hcz29_0 : w27.cell? ⟨gb467, 0, none⟩ = some (.string (⟨#[]⟩ : ByteArray)) := (blk_cell BK467.out 0).trans rfl; have hcz29_1 : w27.cell? ⟨gb467, 1, none⟩ = some (.int .i64 0) := (blk_cell BK467.out 1).trans rfl; have hcz29_2 : w27.cell? ⟨gb467, 2, none⟩ = some (.int .i64 0) := (blk_cell BK467.out 2).trans rfl; have hcz29_3 : w27.cell? ⟨gb467, 3, none⟩ = some (.int .i64 0) := (blk_cell BK467.out 3).trans rfl; have hcz29_4 : w27.cell? ⟨gb467, 4, none⟩ = some (.int .i64 0) := (blk_cell BK467.out 4).trans rfl; have hfz29_0 := blk_frozen BK467.out 0; have hfz29_1 := blk_frozen BK467.out 1; have hfz29_2 := blk_frozen BK467.out 2; have hfz29_3 := blk_frozen BK467.out 3; have hfz29_4 := blk_frozen BK467.out 4) | (go_at_call 79; (with_reducible refine (linkboyref02_Name.calls k4 ((rd_T73 l0_0 x6_4).f0) true _ A24.out).mono ?_); rintro e w' ⟨rfl, ⟨nd, rfl⟩⟩; (try first | exact ⟨rfl, _, World.drewN_drewN _ _ _⟩ | exact ⟨rfl, _, Eq.trans (World.drewN_drewN _ _ _) (congrArg (World.drewN _) (Nat.add_assoc _ _ _))⟩))); try go_wp2_with (first | ((with_reducible refine gate_dst (N := 7) rfl ?_); (try (refine gate_guard (by rfl) ?_; dsimp only)); refine box_event ?hg (N := 7) ?hd (cs := #[.string (⟨#[]⟩ : ByteArray), .int .i64 0, .int .i64 0, .int .i64 0, .int .i64 0]) (t := 73) ?hr ?_; (case hd => rfl); (case hg => rfl); (case hr => first | (go_simp; done) | (go_simp; rfl)); intro gb467 hg w27 hbox hb; have n0_ := Aside0.mk (blk_below (g := gb461) (o := .cells #[.slice (some ad466) l0_0.length c0_0, .slice A0_1 l0_1.length c0_1, .int .i64 a0_2, .int .i64 a0_3] 66 (0, 0)) (by (with_reducible repeat (first | refine blk_drewN ?_ _ | refine blk_drew ?_ | refine blk_alloc ?_ _)); exact BK461.out) hb); have n1_ := Aside0.mk (below_step (by repeat (first | (with_reducible first | exact HB.out | apply below_alloc | apply pw_below_drewN | apply below_drew1 | refine below_set ?_ GE461.out) | exact HB.out)) hb); have n2_ := Aside0.mk (hbox); have n3_ := Aside0.mk ((by rw [hg]; exact (below_size (by repeat (first | (with_reducible first | exact HB.out | apply below_alloc | apply pw_below_drewN | apply below_drew1 | refine below_set ?_ GE461.out) | exact HB.out))) : w.heap.size ≤ gb467)); have n4_ := Aside0.mk ((by rw [hg]; exact (below_size (by repeat (first | (with_reducible first | exact HB.out | apply below_alloc | apply pw_below_drewN | apply below_drew1 | refine below_set ?_ GE461.out) | exact HB.out))) : w.heap.size ≤ gb467)); have n5_ := Aside0.mk ((by rw [hg]; exact Nat.ne_of_lt (blk_lt (g := gb461) (o := .cells #[.slice (some ad466) l0_0.length c0_0, .slice A0_1 l0_1.length c0_1, .int .i64 a0_2, .int .i64 a0_3] 66 (0, 0)) (by (with_reducible repeat (first | refine blk_drewN ?_ _ | refine blk_drew ?_ | refine blk_alloc ?_ _)); exact BK461.out)) : gb461 ≠ gb467)); have n6_ := Aside0.mk ((by rw [hg]; exact Nat.ne_of_gt (blk_lt (g := gb461) (o := .cells #[.slice (some ad466) l0_0.length c0_0, .slice A0_1 l0_1.length c0_1, .int .i64 a0_2, .int .i64 a0_3] 66 (0, 0)) (by (with_reducible repeat (first | refine blk_drewN ?_ _ | refine blk_drew ?_ | refine blk_alloc ?_ _)); exact BK461.out)) : gb467 ≠ gb461)); clear BK461; clear HB; have BK461 := n0_; have HB := n1_; have BK467 := n2_; have GW467 := n3_; have GE467 := n4_; have NB461_467 := n5_; have NB467_461 := n6_; clear n0_ n1_ n2_ n3_ n4_ n5_ n6_; clear hb hbox hg; have hnb28 := NB467_461.out; have hnc28 := NB461_467.out; have hcz29_0 : w27.cell? ⟨gb467, 0, none⟩ = some (.string (⟨#[]⟩ : ByteArray)) := (blk_cell BK467.out 0).trans rfl; have hcz29_1 : w27.cell? ⟨gb467, 1, none⟩ = some (.int .i64 0) := (blk_cell BK467.out 1).trans rfl; have hcz29_2 : w27.cell? ⟨gb467, 2, none⟩ = some (.int .i64 0) := (blk_cell BK467.out 2).trans rfl; have hcz29_3 : w27.cell? ⟨gb467, 3, none⟩ = some (.int .i64 0) := (blk_cell BK467.out 3).trans rfl; have hcz29_4 : w27.cell? ⟨gb467, 4, none⟩ = some (.int .i64 0) := (blk_cell BK467.out 4).trans rfl; have hfz29_0 := blk_frozen BK467.out 0; have hfz29_1 := blk_frozen BK467.out 1; have hfz29_2 := blk_frozen BK467.out 2; have hfz29_3 := blk_frozen BK467.out 3; have hfz29_4 := blk_frozen BK467.out 4) | (go_at_call 79; (with_reducible refine (linkboyref02_Name.calls k4 ((rd_T73 l0_0 x6_4).f0) true _ A24.out).mono ?_); rintro e w' ⟨rfl, ⟨nd, rfl⟩⟩; (try first | exact ⟨rfl, _, World.drewN_drewN _ _ _⟩ | exact ⟨rfl, _, Eq.trans (World.drewN_drewN _ _ _) (congrArg (World.drewN _) (Nat.add_assoc _ _ _))⟩))))
                              go_loopg [8] k4 (fun kq v8 w' => ∃ (x8_5 : Int), v8 = .int .i64 x8_5 ∧ Aside0 (linkboyref11_CheckProgramme.l2 kq x6_4 x8_5 l0_0 l0_1 a0_2 a0_3 ((rd_T73 l0_0 x6_4).f0) ((rd_T73 l0_0 x6_4).f1) ((rd_T73 l0_0 x6_4).f2) ((rd_T73 l0_0 x6_4).f3) ((rd_T73 l0_0 x6_4).f4) = some (r1, r2)) ∧ Aside0 (kq ≤ k4) ∧ Aside0 (w'.heap[gb461]? = some (.cells #[(.slice (some ad466) l0_0.length c0_0), (.slice A0_1 l0_1.length c0_1), .int .i64 a0_2, .int .i64 a0_3] 66 (0, 0))) ∧ Aside0 (w'.heap[gb467]? = some (.cells #[.string ((rd_T73 l0_0 x6_4).f0), .int .i64 ((rd_T73 l0_0 x6_4).f1), .int .i64 ((rd_T73 l0_0 x6_4).f2), .int .i64 ((rd_T73 l0_0 x6_4).f3), .int .i64 ((rd_T73 l0_0 x6_4).f4)] 73 (0, 0))) ∧ Aside0 (Below w.heap.size w w'))
                              case atStart => exact ⟨(0), (by first | rfl | (simp; done) | (simp [*]; done)), H', ⟨Nat.le_refl _⟩, ⟨by (with_reducible repeat (first | refine blk_drewN ?_ _ | refine blk_drew ?_ | refine blk_alloc ?_ _)); refine blk_far ?_ NB461_467.out _; (with_reducible repeat (first | refine blk_drewN ?_ _ | refine blk_drew ?_ | refine blk_alloc ?_ _)); refine blk_far ?_ NB461_467.out _; (with_reducible repeat (first | refine blk_drewN ?_ _ | refine blk_drew ?_ | refine blk_alloc ?_ _)); refine blk_far ?_ NB461_467.out _; (with_reducible repeat (first | refine blk_drewN ?_ _ | refine blk_drew ?_ | refine blk_alloc ?_ _)); refine blk_far ?_ NB461_467.out _; (with_reducible repeat (first | refine blk_drewN ?_ _ | refine blk_drew ?_ | refine blk_alloc ?_ _)); refine blk_far ?_ NB461_467.out _; (with_reducible repeat (first | refine blk_drewN ?_ _ | refine blk_drew ?_ | refine blk_alloc ?_ _)); exact BK461.out⟩, ⟨by (with_reducible repeat (first | refine blk_drewN ?_ _ | refine blk_drew ?_ | refine blk_alloc ?_ _)); refine blk_put (cs := #[.string ((rd_T73 l0_0 x6_4).f0), .int .i64 ((rd_T73 l0_0 x6_4).f1), .int .i64 ((rd_T73 l0_0 x6_4).f2), .int .i64 ((rd_T73 l0_0 x6_4).f3), .int .i64 0]) ?_ 4 _ rfl; (with_reducible repeat (first | refine blk_drewN ?_ _ | refine blk_drew ?_ | refine blk_alloc ?_ _)); refine blk_put (cs := #[.string ((rd_T73 l0_0 x6_4).f0), .int .i64 ((rd_T73 l0_0 x6_4).f1), .int .i64 ((rd_T73 l0_0 x6_4).f2), .int .i64 0, .int .i64 0]) ?_ 3 _ rfl; (with_reducible repeat (first | refine blk_drewN ?_ _ | refine blk_drew ?_ | refine blk_alloc ?_ _)); refine blk_put (cs := #[.string ((rd_T73 l0_0 x6_4).f0), .int .i64 ((rd_T73 l0_0 x6_4).f1), .int .i64 0, .int .i64 0, .int .i64 0]) ?_ 2 _ rfl; (with_reducible repeat (first | refine blk_drewN ?_ _ | refine blk_drew ?_ | refine blk_alloc ?_ _)); refine blk_put (cs := #[.string ((rd_T73 l0_0 x6_4).f0), .int .i64 0, .int .i64 0, .int .i64 0, .int .i64 0]) ?_ 1 _ rfl; (with_reducible repeat (first | refine blk_drewN ?_ _ | refine blk_drew ?_ | refine blk_alloc ?_ _)); refine blk_put (cs := #[.string (⟨#[]⟩ : ByteArray), .int .i64 0, .int .i64 0, .int .i64 0, .int .i64 0]) ?_ 0 _ rfl; (with_reducible repeat (first | refine blk_drewN ?_ _ | refine blk_drew ?_ | refine blk_alloc ?_ _)); exact BK467.out⟩, ⟨by repeat (first | (with_reducible first | exact HB.out | apply below_alloc | apply pw_below_drewN | apply below_drew1 | refine below_set ?_ GE461.out | refine below_set ?_ GE467.out) | exact HB.out)⟩⟩
                              case round =>
                                clear H'
                                try clear c1
                                try clear c2
                                try clear p2
                                try clear c4
                                try clear c4b0
                                try clear c4b1
                                try clear p4
                                try clear q4
                                try clear hx4
                                try clear p6
                                try clear c7
                                try clear c10
                                try clear c14
                                try clear c14b0
                                try clear c15
                                try clear c16
                                try clear c16b0
                                try clear c20
                                try clear c22
                                try clear c22b0
                                try clear c23
                                try clear c23b0
                                try clear c24
                                try clear c25
                                try clear c28
                                try clear hcz12_0
                                try clear hcz12_1
                                try clear hcz12_2
                                try clear hcz12_3
                                try clear hcz13_0
                                try clear hcz13_1
                                try clear hcz13_2
                                try clear hcz13_3
                                try clear hcz18_0
                                try clear hcz18_1
                                try clear hcz18_2
                                try clear hcz18_3
                                try clear hcz19_0
                                try clear hcz19_1
                                try clear hcz19_2
                                try clear hcz19_3
                                try clear hcz21_0
                                try clear hcz21_1
                                try clear hcz21_2
                                try clear hcz21_3
                                try clear hcz26_0
                                try clear hcz26_1
                                try clear hcz26_2
                                try clear hcz26_3
                                try clear hcz29_0
                                try clear hcz29_1
                                try clear hcz29_2
                                try clear hcz29_3
                                try clear hcz29_4
                                try clear hcz5_0
                                try clear hcz5_1
                                try clear hcz5_2
                                try clear hcz5_3
                                try clear hcz6_0
                                try clear hcz6_1
                                try clear hcz6_2
                                try clear hcz6_3
                                try clear hfz12_0
                                try clear hfz12_1
                                try clear hfz12_2
                                try clear hfz12_3
                                try clear hfz13_0
                                try clear hfz13_1
                                try clear hfz13_2
                                try clear hfz13_3
                                try clear hfz18_0
                                try clear hfz18_1
                                try clear hfz18_2
                                try clear hfz18_3
                                try clear hfz19_0
                                try clear hfz19_1
                                try clear hfz19_2
                                try clear hfz19_3
                                try clear hfz21_0
                                try clear hfz21_1
                                try clear hfz21_2
                                try clear hfz21_3
                                try clear hfz26_0
                                try clear hfz26_1
                                try clear hfz26_2
                                try clear hfz26_3
                                try clear hfz29_0
                                try clear hfz29_1
                                try clear hfz29_2
                                try clear hfz29_3
                                try clear hfz29_4
                                try clear hfz5_0
                                try clear hfz5_1
                                try clear hfz5_2
                                try clear hfz5_3
                                try clear hfz6_0
                                try clear hfz6_1
                                try clear hfz6_2
                                try clear hfz6_3
                                try clear hx464_0
                                try clear hx466_0
                                try clear hx466_1
                                try clear hx466_2
                                try clear hx466_3
                                try clear hx466_4
                                try clear p2
                                try clear p4
                                try clear p464
                                try clear p466
                                try clear p6
                                try clear q4
                                try clear q464
                                try clear q466
                                obtain ⟨x8_5, rfl, HA, HK5, BK461, BK467, HB⟩ := hrel
                                cases gk with
                                | zero => exact absurd HA.out (by simp [linkboyref11_CheckProgramme.l2])
                                | succ k5 =>
                                  have H := HA.out
                                  clear HA
                                  simp only [linkboyref11_CheckProgramme.l2] at H
                                  by_cases c30 : x8_5 < x6_4
                                  · rw [if_pos c30] at H
                                    have c30b0 : decide (x8_5 < x6_4) = true := decide_eq_true c30
                                    clear c30
                                    by_cases c31 : 0 ≤ x8_5
                                    · rw [if_pos c31] at H
                                      have c31b0 : decide (0 ≤ x8_5) = true := decide_eq_true c31
                                      clear c31
                                      by_cases c32 : x8_5 < (l0_0.length : Int)
                                      · rw [if_pos c32] at H
                                        have c32b0 : decide (x8_5 < (l0_0.length : Int)) = true := decide_eq_true c32
                                        clear c32
                                        by_cases c33 : ((rd_T73 l0_0 x8_5).f0).toList = ((rd_T73 l0_0 x6_4).f0).toList
                                        · rw [if_pos c33] at H
                                          have c33b0 : (((rd_T73 l0_0 x8_5).f0).toList == ((rd_T73 l0_0 x6_4).f0).toList) = true := beq_iff_eq.mpr c33
                                          have c33b1 : (((rd_T73 l0_0 x8_5).f0).toList != ((rd_T73 l0_0 x6_4).f0).toList) = false := bne_eq_false_iff_eq.mpr c33
                                          clear c33
                                          simp only [Option.some.injEq, Prod.mk.injEq] at H
                                          obtain ⟨rfl, rfl⟩ := H
                                          have hnb34 := NB461_467.out
                                          have hnc34 := NB467_461.out
                                          have hcz35_0 : wr.cell? ⟨gb461, 0, none⟩ = some (.slice (some ad466) l0_0.length c0_0) := (blk_cell BK461.out 0).trans rfl
                                          have hcz35_1 : wr.cell? ⟨gb461, 1, none⟩ = some (.slice A0_1 l0_1.length c0_1) := (blk_cell BK461.out 1).trans rfl
                                          have hcz35_2 : wr.cell? ⟨gb461, 2, none⟩ = some (.int .i64 a0_2) := (blk_cell BK461.out 2).trans rfl
                                          have hcz35_3 : wr.cell? ⟨gb461, 3, none⟩ = some (.int .i64 a0_3) := (blk_cell BK461.out 3).trans rfl
                                          have hfz35_0 := blk_frozen BK461.out 0
                                          have hfz35_1 := blk_frozen BK461.out 1
                                          have hfz35_2 := blk_frozen BK461.out 2
                                          have hfz35_3 := blk_frozen BK461.out 3
                                          have p469 : 0 ≤ (x8_5 : Int) := of_decide_eq_true (by first | (with_reducible assumption) | assumption)
                                          have q469 : x8_5 < (l0_0.length : Int) := of_decide_eq_true (by first | (with_reducible assumption) | assumption)
                                          obtain ⟨ad469, e469, hx469_0, hx469_1, hx469_2, hx469_3, hx469_4⟩ := at_T73 HR0_0.out x8_5 p469 q469
                                          obtain rfl : ad466 = ad469 := (by injection e469)
                                          replace hx469_0 := (HB.out.cell (World.block_lt_of_cell? w _ hx469_0)).trans hx469_0
                                          replace hx469_1 := (HB.out.cell (World.block_lt_of_cell? w _ hx469_1)).trans hx469_1
                                          replace hx469_2 := (HB.out.cell (World.block_lt_of_cell? w _ hx469_2)).trans hx469_2
                                          replace hx469_3 := (HB.out.cell (World.block_lt_of_cell? w _ hx469_3)).trans hx469_3
                                          replace hx469_4 := (HB.out.cell (World.block_lt_of_cell? w _ hx469_4)).trans hx469_4
                                          replace p469 := eq_true p469
                                          replace q469 := eq_true q469
                                          have hcz36_0 : wr.cell? ⟨gb467, 0, none⟩ = some (.string ((rd_T73 l0_0 x6_4).f0)) := (blk_cell BK467.out 0).trans rfl
                                          have hcz36_1 : wr.cell? ⟨gb467, 1, none⟩ = some (.int .i64 ((rd_T73 l0_0 x6_4).f1)) := (blk_cell BK467.out 1).trans rfl
                                          have hcz36_2 : wr.cell? ⟨gb467, 2, none⟩ = some (.int .i64 ((rd_T73 l0_0 x6_4).f2)) := (blk_cell BK467.out 2).trans rfl
                                          have hcz36_3 : wr.cell? ⟨gb467, 3, none⟩ = some (.int .i64 ((rd_T73 l0_0 x6_4).f3)) := (blk_cell BK467.out 3).trans rfl
                                          have hcz36_4 : wr.cell? ⟨gb467, 4, none⟩ = some (.int .i64 ((rd_T73 l0_0 x6_4).f4)) := (blk_cell BK467.out 4).trans rfl
                                          have hfz36_0 := blk_frozen BK467.out 0
                                          have hfz36_1 := blk_frozen BK467.out 1
                                          have hfz36_2 := blk_frozen BK467.out 2
                                          have hfz36_3 := blk_frozen BK467.out 3
                                          have hfz36_4 := blk_frozen BK467.out 4
                                          go_wp2
                                          repeat (go_quiet (fail); try go_wp2)
                                          go_ret2
                                          exact ⟨by first | rfl | (simp [errW_none, errW_some] <;> rfl) | (simp [*, errW_none, errW_some] <;> rfl), by repeat (first | (with_reducible first | exact HB.out | apply below_alloc | apply pw_below_drewN | apply below_drew1 | refine below_set ?_ GE461.out | refine below_set ?_ GE467.out) | exact HB.out)⟩
                                        · rw [if_neg c33] at H
                                          have c33b0 : (((rd_T73 l0_0 x8_5).f0).toList == ((rd_T73 l0_0 x6_4).f0).toList) = false := beq_eq_false_iff_ne.mpr c33
                                          have c33b1 : (((rd_T73 l0_0 x8_5).f0).toList != ((rd_T73 l0_0 x6_4).f0).toList) = true := bne_iff_ne.mpr c33
                                          have H' := Aside0.mk H
                                          clear H
                                          have hnb37 := NB461_467.out
                                          have hnc37 := NB467_461.out
                                          have hcz38_0 : wr.cell? ⟨gb461, 0, none⟩ = some (.slice (some ad466) l0_0.length c0_0) := (blk_cell BK461.out 0).trans rfl
                                          have hcz38_1 : wr.cell? ⟨gb461, 1, none⟩ = some (.slice A0_1 l0_1.length c0_1) := (blk_cell BK461.out 1).trans rfl
                                          have hcz38_2 : wr.cell? ⟨gb461, 2, none⟩ = some (.int .i64 a0_2) := (blk_cell BK461.out 2).trans rfl
                                          have hcz38_3 : wr.cell? ⟨gb461, 3, none⟩ = some (.int .i64 a0_3) := (blk_cell BK461.out 3).trans rfl
                                          have hfz38_0 := blk_frozen BK461.out 0
                                          have hfz38_1 := blk_frozen BK461.out 1
                                          have hfz38_2 := blk_frozen BK461.out 2
                                          have hfz38_3 := blk_frozen BK461.out 3
                                          have p469 : 0 ≤ (x8_5 : Int) := of_decide_eq_true (by first | (with_reducible assumption) | assumption)
                                          have q469 : x8_5 < (l0_0.length : Int) := of_decide_eq_true (by first | (with_reducible assumption) | assumption)
                                          obtain ⟨ad469, e469, hx469_0, hx469_1, hx469_2, hx469_3, hx469_4⟩ := at_T73 HR0_0.out x8_5 p469 q469
                                          obtain rfl : ad466 = ad469 := (by injection e469)
                                          replace hx469_0 := (HB.out.cell (World.block_lt_of_cell? w _ hx469_0)).trans hx469_0
                                          replace hx469_1 := (HB.out.cell (World.block_lt_of_cell? w _ hx469_1)).trans hx469_1
                                          replace hx469_2 := (HB.out.cell (World.block_lt_of_cell? w _ hx469_2)).trans hx469_2
                                          replace hx469_3 := (HB.out.cell (World.block_lt_of_cell? w _ hx469_3)).trans hx469_3
                                          replace hx469_4 := (HB.out.cell (World.block_lt_of_cell? w _ hx469_4)).trans hx469_4
                                          replace p469 := eq_true p469
                                          replace q469 := eq_true q469
                                          have hcz39_0 : wr.cell? ⟨gb467, 0, none⟩ = some (.string ((rd_T73 l0_0 x6_4).f0)) := (blk_cell BK467.out 0).trans rfl
                                          have hcz39_1 : wr.cell? ⟨gb467, 1, none⟩ = some (.int .i64 ((rd_T73 l0_0 x6_4).f1)) := (blk_cell BK467.out 1).trans rfl
                                          have hcz39_2 : wr.cell? ⟨gb467, 2, none⟩ = some (.int .i64 ((rd_T73 l0_0 x6_4).f2)) := (blk_cell BK467.out 2).trans rfl
                                          have hcz39_3 : wr.cell? ⟨gb467, 3, none⟩ = some (.int .i64 ((rd_T73 l0_0 x6_4).f3)) := (blk_cell BK467.out 3).trans rfl
                                          have hcz39_4 : wr.cell? ⟨gb467, 4, none⟩ = some (.int .i64 ((rd_T73 l0_0 x6_4).f4)) := (blk_cell BK467.out 4).trans rfl
                                          have hfz39_0 := blk_frozen BK467.out 0
                                          have hfz39_1 := blk_frozen BK467.out 1
                                          have hfz39_2 := blk_frozen BK467.out 2
                                          have hfz39_3 := blk_frozen BK467.out 3
                                          have hfz39_4 := blk_frozen BK467.out 4
                                          go_wp2
                                          repeat (go_quiet (fail); try go_wp2)
                                          go_roundg k5
                                          case measure => have := HJ1.out; have := HJ7.out; have := HK3.out; have := HK4.out; have := HK5.out; omega
                                          case rel => exact ⟨(wrap64 (x8_5 + 1)), (by first | rfl | (simp; done) | (simp [*]; done)), H', ⟨by have := HJ1.out; have := HJ7.out; have := HK3.out; have := HK4.out; have := HK5.out; omega⟩, ⟨by (with_reducible repeat (first | refine blk_drewN ?_ _ | refine blk_drew ?_ | refine blk_alloc ?_ _)); exact BK461.out⟩, ⟨by (with_reducible repeat (first | refine blk_drewN ?_ _ | refine blk_drew ?_ | refine blk_alloc ?_ _)); exact BK467.out⟩, ⟨by repeat (first | (with_reducible first | exact HB.out | apply below_alloc | apply pw_below_drewN | apply below_drew1 | refine below_set ?_ GE461.out | refine below_set ?_ GE467.out) | exact HB.out)⟩⟩
                                      · rw [if_neg c32] at H
                                        exact absurd H (by simp)
                                    · rw [if_neg c31] at H
                                      exact absurd H (by simp)
                                  · rw [if_neg c30] at H
                                    have c30b0 : decide (x8_5 < x6_4) = false := decide_eq_false c30
                                    clear c30
                                    replace H := Option.bind_eq_some_iff.mp H
                                    obtain ⟨t470, A400, H⟩ := H
                                    replace H : (if t470 = true then ((linkboyref11_in.f ((rd_T73 l0_0 x6_4).f2) 0 1000).bind fun t471 => (if t471 = true then ((linkboyref11_in.f ((rd_T73 l0_0 x6_4).f3) 0 10000000).bind fun t472 => (if t472 = true then ((linkboyref11_in.f ((rd_T73 l0_0 x6_4).f4) 0 a0_2).bind fun t473 => (if t473 = true then (linkboyref11_CheckProgramme.l1 k5 (wrap64 (x6_4 + 1)) l0_0 l0_1 a0_2 a0_3) else (some (x6_4, 7)))) else (some (x6_4, 7)))) else (some (x6_4, 7)))) else (some (x6_4, 7))) = some (r1, r2) := H
                                    have A40 := Aside0.mk A400
                                    clear A400
                                    by_cases c41 : t470 = true
                                    · subst c41
                                      have H1 : ((linkboyref11_in.f ((rd_T73 l0_0 x6_4).f2) 0 1000).bind fun t471 => (if t471 = true then ((linkboyref11_in.f ((rd_T73 l0_0 x6_4).f3) 0 10000000).bind fun t472 => (if t472 = true then ((linkboyref11_in.f ((rd_T73 l0_0 x6_4).f4) 0 a0_2).bind fun t473 => (if t473 = true then (linkboyref11_CheckProgramme.l1 k5 (wrap64 (x6_4 + 1)) l0_0 l0_1 a0_2 a0_3) else (some (x6_4, 7)))) else (some (x6_4, 7)))) else (some (x6_4, 7)))) = some (r1, r2) := by rw [if_pos rfl] at H; exact H
                                      clear H
                                      have H := H1
                                      clear H1
                                      replace H := Option.bind_eq_some_iff.mp H
                                      obtain ⟨t471, A420, H⟩ := H
                                      replace H : (if t471 = true then ((linkboyref11_in.f ((rd_T73 l0_0 x6_4).f3) 0 10000000).bind fun t472 => (if t472 = true then ((linkboyref11_in.f ((rd_T73 l0_0 x6_4).f4) 0 a0_2).bind fun t473 => (if t473 = true then (linkboyref11_CheckProgramme.l1 k5 (wrap64 (x6_4 + 1)) l0_0 l0_1 a0_2 a0_3) else (some (x6_4, 7)))) else (some (x6_4, 7)))) else (some (x6_4, 7))) = some (r1, r2) := H
                                      have A42 := Aside0.mk A420
                                      clear A420
                                      by_cases c43 : t471 = true
                                      · subst c43
                                        have H1 : ((linkboyref11_in.f ((rd_T73 l0_0 x6_4).f3) 0 10000000).bind fun t472 => (if t472 = true then ((linkboyref11_in.f ((rd_T73 l0_0 x6_4).f4) 0 a0_2).bind fun t473 => (if t473 = true then (linkboyref11_CheckProgramme.l1 k5 (wrap64 (x6_4 + 1)) l0_0 l0_1 a0_2 a0_3) else (some (x6_4, 7)))) else (some (x6_4, 7)))) = some (r1, r2) := by rw [if_pos rfl] at H; exact H
                                        clear H
                                        have H := H1
                                        clear H1
                                        replace H := Option.bind_eq_some_iff.mp H
                                        obtain ⟨t472, A440, H⟩ := H
                                        replace H : (if t472 = true then ((linkboyref11_in.f ((rd_T73 l0_0 x6_4).f4) 0 a0_2).bind fun t473 => (if t473 = true then (linkboyref11_CheckProgramme.l1 k5 (wrap64 (x6_4 + 1)) l0_0 l0_1 a0_2 a0_3) else (some (x6_4, 7)))) else (some (x6_4, 7))) = some (r1, r2) := H
                                        have A44 := Aside0.mk A440
                                        clear A440
                                        by_cases c45 : t472 = true
                                        · subst c45
                                          have H1 : ((linkboyref11_in.f ((rd_T73 l0_0 x6_4).f4) 0 a0_2).bind fun t473 => (if t473 = true then (linkboyref11_CheckProgramme.l1 k5 (wrap64 (x6_4 + 1)) l0_0 l0_1 a0_2 a0_3) else (some (x6_4, 7)))) = some (r1, r2) := by rw [if_pos rfl] at H; exact H
                                          clear H
                                          have H := H1
                                          clear H1
                                          replace H := Option.bind_eq_some_iff.mp H
                                          obtain ⟨t473, A460, H⟩ := H
                                          replace H : (if t473 = true then (linkboyref11_CheckProgramme.l1 k5 (wrap64 (x6_4 + 1)) l0_0 l0_1 a0_2 a0_3) else (some (x6_4, 7))) = some (r1, r2) := H
                                          have A46 := Aside0.mk A460
                                          clear A460
                                          by_cases c47 : t473 = true
                                          · subst c47
                                            have H1 : (linkboyref11_CheckProgramme.l1 k5 (wrap64 (x6_4 + 1)) l0_0 l0_1 a0_2 a0_3) = some (r1, r2) := by rw [if_pos rfl] at H; exact H
                                            clear H
                                            have H := H1
                                            clear H1
                                            have H' := Aside0.mk H
                                            clear H
                                            have hnb48 := NB467_461.out
                                            have hnc48 := NB461_467.out
                                            have hcz49_0 : wr.cell? ⟨gb467, 0, none⟩ = some (.string ((rd_T73 l0_0 x6_4).f0)) := (blk_cell BK467.out 0).trans rfl
                                            have hcz49_1 : wr.cell? ⟨gb467, 1, none⟩ = some (.int .i64 ((rd_T73 l0_0 x6_4).f1)) := (blk_cell BK467.out 1).trans rfl
                                            have hcz49_2 : wr.cell? ⟨gb467, 2, none⟩ = some (.int .i64 ((rd_T73 l0_0 x6_4).f2)) := (blk_cell BK467.out 2).trans rfl
                                            have hcz49_3 : wr.cell? ⟨gb467, 3, none⟩ = some (.int .i64 ((rd_T73 l0_0 x6_4).f3)) := (blk_cell BK467.out 3).trans rfl
                                            have hcz49_4 : wr.cell? ⟨gb467, 4, none⟩ = some (.int .i64 ((rd_T73 l0_0 x6_4).f4)) := (blk_cell BK467.out 4).trans rfl
                                            have hfz49_0 := blk_frozen BK467.out 0
                                            have hfz49_1 := blk_frozen BK467.out 1
                                            have hfz49_2 := blk_frozen BK467.out 2
                                            have hfz49_3 := blk_frozen BK467.out 3
                                            have hfz49_4 := blk_frozen BK467.out 4
                                            go_wp2_with (first | (go_at_call 78; (with_reducible refine (linkboyref11_in.calls ((rd_T73 l0_0 x6_4).f1) 0 1000000 true _ A40.out).mono ?_); rintro e w' ⟨rfl, ⟨nd, rfl⟩⟩; (try first | exact ⟨rfl, _, World.drewN_drewN _ _ _⟩ | exact ⟨rfl, _, Eq.trans (World.drewN_drewN _ _ _) (congrArg (World.drewN _) (Nat.add_assoc _ _ _))⟩)) | (go_at_call 78; (with_reducible refine (linkboyref11_in.calls ((rd_T73 l0_0 x6_4).f2) 0 1000 true _ A42.out).mono ?_); rintro e w' ⟨rfl, ⟨nd, rfl⟩⟩; (try first | exact ⟨rfl, _, World.drewN_drewN _ _ _⟩ | exact ⟨rfl, _, Eq.trans (World.drewN_drewN _ _ _) (congrArg (World.drewN _) (Nat.add_assoc _ _ _))⟩)) | (go_at_call 78; (with_reducible refine (linkboyref11_in.calls ((rd_T73 l0_0 x6_4).f3) 0 10000000 true _ A44.out).mono ?_); rintro e w' ⟨rfl, ⟨nd, rfl⟩⟩; (try first | exact ⟨rfl, _, World.drewN_drewN _ _ _⟩ | exact ⟨rfl, _, Eq.trans (World.drewN_drewN _ _ _) (congrArg (World.drewN _) (Nat.add_assoc _ _ _))⟩); have hcz50_0 : wr.cell? ⟨gb461, 0, none⟩ = some (.slice (some ad466) l0_0.length c0_0) := (blk_cell BK461.out 0).trans rfl; have hcz50_1 : wr.cell? ⟨gb461, 1, none⟩ = some (.slice A0_1 l0_1.length c0_1) := (blk_cell BK461.out 1).trans rfl; have hcz50_2 : wr.cell? ⟨gb461, 2, none⟩ = some (.int .i64 a0_2) := (blk_cell BK461.out 2).trans rfl; have hcz50_3 : wr.cell? ⟨gb461, 3, none⟩ = some (.int .i64 a0_3) := (blk_cell BK461.out 3).trans rfl; have hfz50_0 := blk_frozen BK461.out 0; have hfz50_1 := blk_frozen BK461.out 1; have hfz50_2 := blk_frozen BK461.out 2; have hfz50_3 := blk_frozen BK461.out 3) | (go_at_call 78; (with_reducible refine (linkboyref11_in.calls ((rd_T73 l0_0 x6_4).f4) 0 a0_2 true _ A46.out).mono ?_); rintro e w' ⟨rfl, ⟨nd, rfl⟩⟩; (try first | exact ⟨rfl, _, World.drewN_drewN _ _ _⟩ | exact ⟨rfl, _, Eq.trans (World.drewN_drewN _ _ _) (congrArg (World.drewN _) (Nat.add_assoc _ _ _))⟩)))
                                            repeat (go_quiet (first | (go_at_call 78; (with_reducible refine (linkboyref11_in.calls ((rd_T73 l0_0 x6_4).f1) 0 1000000 true _ A40.out).mono ?_); rintro e w' ⟨rfl, ⟨nd, rfl⟩⟩; (try first | exact ⟨rfl, _, World.drewN_drewN _ _ _⟩ | exact ⟨rfl, _, Eq.trans (World.drewN_drewN _ _ _) (congrArg (World.drewN _) (Nat.add_assoc _ _ _))⟩)) | (go_at_call 78; (with_reducible refine (linkboyref11_in.calls ((rd_T73 l0_0 x6_4).f2) 0 1000 true _ A42.out).mono ?_); rintro e w' ⟨rfl, ⟨nd, rfl⟩⟩; (try first | exact ⟨rfl, _, World.drewN_drewN _ _ _⟩ | exact ⟨rfl, _, Eq.trans (World.drewN_drewN _ _ _) (congrArg (World.drewN _) (Nat.add_assoc _ _ _))⟩)) | (go_at_call 78; (with_reducible refine (linkboyref11_in.calls ((rd_T73 l0_0 x6_4).f3) 0 10000000 true _ A44.out).mono ?_); rintro e w' ⟨rfl, ⟨nd, rfl⟩⟩; (try first | exact ⟨rfl, _, World.drewN_drewN _ _ _⟩ | exact ⟨rfl, _, Eq.trans (World.drewN_drewN _ _ _) (congrArg (World.drewN _) (Nat.add_assoc _ _ _))⟩); have hcz50_0 : wr.cell? ⟨gb461, 0, none⟩ = some (.slice (some ad466) l0_0.length c0_0) := (blk_cell BK461.out 0).trans rfl; have hcz50_1 : wr.cell? ⟨gb461, 1, none⟩ = some (.slice A0_1 l0_1.length c0_1) := (blk_cell BK461.out 1).trans rfl; have hcz50_2 : wr.cell? ⟨gb461, 2, none⟩ = some (.int .i64 a0_2) := (blk_cell BK461.out 2).trans rfl; have hcz50_3 : wr.cell? ⟨gb461, 3, none⟩ = some (.int .i64 a0_3) := (blk_cell BK461.out 3).trans rfl; have hfz50_0 := blk_frozen BK461.out 0; have hfz50_1 := blk_frozen BK461.out 1; have hfz50_2 := blk_frozen BK461.out 2; have hfz50_3 := blk_frozen BK461.out 3) | (go_at_call 78; (with_reducible refine (linkboyref11_in.calls ((rd_T73 l0_0 x6_4).f4) 0 a0_2 true _ A46.out).mono ?_); rintro e w' ⟨rfl, ⟨nd, rfl⟩⟩; (try first | exact ⟨rfl, _, World.drewN_drewN _ _ _⟩ | exact ⟨rfl, _, Eq.trans (World.drewN_drewN _ _ _) (congrArg (World.drewN _) (Nat.add_assoc _ _ _))⟩))); try go_wp2_with (first | (go_at_call 78; (with_reducible refine (linkboyref11_in.calls ((rd_T73 l0_0 x6_4).f1) 0 1000000 true _ A40.out).mono ?_); rintro e w' ⟨rfl, ⟨nd, rfl⟩⟩; (try first | exact ⟨rfl, _, World.drewN_drewN _ _ _⟩ | exact ⟨rfl, _, Eq.trans (World.drewN_drewN _ _ _) (congrArg (World.drewN _) (Nat.add_assoc _ _ _))⟩)) | (go_at_call 78; (with_reducible refine (linkboyref11_in.calls ((rd_T73 l0_0 x6_4).f2) 0 1000 true _ A42.out).mono ?_); rintro e w' ⟨rfl, ⟨nd, rfl⟩⟩; (try first | exact ⟨rfl, _, World.drewN_drewN _ _ _⟩ | exact ⟨rfl, _, Eq.trans (World.drewN_drewN _ _ _) (congrArg (World.drewN _) (Nat.add_assoc _ _ _))⟩)) | (go_at_call 78; (with_reducible refine (linkboyref11_in.calls ((rd_T73 l0_0 x6_4).f3) 0 10000000 true _ A44.out).mono ?_); rintro e w' ⟨rfl, ⟨nd, rfl⟩⟩; (try first | exact ⟨rfl, _, World.drewN_drewN _ _ _⟩ | exact ⟨rfl, _, Eq.trans (World.drewN_drewN _ _ _) (congrArg (World.drewN _) (Nat.add_assoc _ _ _))⟩); have hcz50_0 : wr.cell? ⟨gb461, 0, none⟩ = some (.slice (some ad466) l0_0.length c0_0) := (blk_cell BK461.out 0).trans rfl; have hcz50_1 : wr.cell? ⟨gb461, 1, none⟩ = some (.slice A0_1 l0_1.length c0_1) := (blk_cell BK461.out 1).trans rfl; have hcz50_2 : wr.cell? ⟨gb461, 2, none⟩ = some (.int .i64 a0_2) := (blk_cell BK461.out 2).trans rfl; have hcz50_3 : wr.cell? ⟨gb461, 3, none⟩ = some (.int .i64 a0_3) := (blk_cell BK461.out 3).trans rfl; have hfz50_0 := blk_frozen BK461.out 0; have hfz50_1 := blk_frozen BK461.out 1; have hfz50_2 := blk_frozen BK461.out 2; have hfz50_3 := blk_frozen BK461.out 3) | (go_at_call 78; (with_reducible refine (linkboyref11_in.calls ((rd_T73 l0_0 x6_4).f4) 0 a0_2 true _ A46.out).mono ?_); rintro e w' ⟨rfl, ⟨nd, rfl⟩⟩; (try first | exact ⟨rfl, _, World.drewN_drewN _ _ _⟩ | exact ⟨rfl, _, Eq.trans (World.drewN_drewN _ _ _) (congrArg (World.drewN _) (Nat.add_assoc _ _ _))⟩))))
                                            go_roundg k5
                                            case measure => have := HJ1.out; have := HJ7.out; have := HK3.out; have := HK4.out; have := HK5.out; omega
                                            case rel => exact ⟨(wrap64 (x6_4 + 1)), (by first | rfl | (simp; done) | (simp [*]; done)), H', ⟨by have := HJ1.out; have := HJ7.out; have := HK3.out; have := HK4.out; have := HK5.out; omega⟩, ⟨by (with_reducible repeat (first | refine blk_drewN ?_ _ | refine blk_drew ?_ | refine blk_alloc ?_ _)); exact BK461.out⟩, ⟨by repeat (first | (with_reducible first | exact HB.out | apply below_alloc | apply pw_below_drewN | apply below_drew1 | refine below_set ?_ GE461.out | refine below_set ?_ GE467.out) | exact HB.out)⟩⟩
                                          · replace c47 := Bool.eq_false_iff.mpr c47
                                            subst c47
                                            have H1 : (some (x6_4, 7)) = some (r1, r2) := by rw [if_neg (show ¬ (false = true) by decide)] at H; exact H
                                            clear H
                                            have H := H1
                                            clear H1
                                            simp only [Option.some.injEq, Prod.mk.injEq] at H
                                            obtain ⟨rfl, rfl⟩ := H
                                            have hnb51 := NB467_461.out
                                            have hnc51 := NB461_467.out
                                            have hcz52_0 : wr.cell? ⟨gb467, 0, none⟩ = some (.string ((rd_T73 l0_0 x6_4).f0)) := (blk_cell BK467.out 0).trans rfl
                                            have hcz52_1 : wr.cell? ⟨gb467, 1, none⟩ = some (.int .i64 ((rd_T73 l0_0 x6_4).f1)) := (blk_cell BK467.out 1).trans rfl
                                            have hcz52_2 : wr.cell? ⟨gb467, 2, none⟩ = some (.int .i64 ((rd_T73 l0_0 x6_4).f2)) := (blk_cell BK467.out 2).trans rfl
                                            have hcz52_3 : wr.cell? ⟨gb467, 3, none⟩ = some (.int .i64 ((rd_T73 l0_0 x6_4).f3)) := (blk_cell BK467.out 3).trans rfl
                                            have hcz52_4 : wr.cell? ⟨gb467, 4, none⟩ = some (.int .i64 ((rd_T73 l0_0 x6_4).f4)) := (blk_cell BK467.out 4).trans rfl
                                            have hfz52_0 := blk_frozen BK467.out 0
                                            have hfz52_1 := blk_frozen BK467.out 1
                                            have hfz52_2 := blk_frozen BK467.out 2
                                            have hfz52_3 := blk_frozen BK467.out 3
                                            have hfz52_4 := blk_frozen BK467.out 4
                                            go_wp2_with (first | (go_at_call 78; (with_reducible refine (linkboyref11_in.calls ((rd_T73 l0_0 x6_4).f1) 0 1000000 true _ A40.out).mono ?_); rintro e w' ⟨rfl, ⟨nd, rfl⟩⟩; (try first | exact ⟨rfl, _, World.drewN_drewN _ _ _⟩ | exact ⟨rfl, _, Eq.trans (World.drewN_drewN _ _ _) (congrArg (World.drewN _) (Nat.add_assoc _ _ _))⟩)) | (go_at_call 78; (with_reducible refine (linkboyref11_in.calls ((rd_T73 l0_0 x6_4).f2) 0 1000 true _ A42.out).mono ?_); rintro e w' ⟨rfl, ⟨nd, rfl⟩⟩; (try first | exact ⟨rfl, _, World.drewN_drewN _ _ _⟩ | exact ⟨rfl, _, Eq.trans (World.drewN_drewN _ _ _) (congrArg (World.drewN _) (Nat.add_assoc _ _ _))⟩)) | (go_at_call 78; (with_reducible refine (linkboyref11_in.calls ((rd_T73 l0_0 x6_4).f3) 0 10000000 true _ A44.out).mono ?_); rintro e w' ⟨rfl, ⟨nd, rfl⟩⟩; (try first | exact ⟨rfl, _, World.drewN_drewN _ _ _⟩ | exact ⟨rfl, _, Eq.trans (World.drewN_drewN _ _ _) (congrArg (World.drewN _) (Nat.add_assoc _ _ _))⟩); have hcz53_0 : wr.cell? ⟨gb461, 0, none⟩ = some (.slice (some ad466) l0_0.length c0_0) := (blk_cell BK461.out 0).trans rfl; have hcz53_1 : wr.cell? ⟨gb461, 1, none⟩ = some (.slice A0_1 l0_1.length c0_1) := (blk_cell BK461.out 1).trans rfl; have hcz53_2 : wr.cell? ⟨gb461, 2, none⟩ = some (.int .i64 a0_2) := (blk_cell BK461.out 2).trans rfl; have hcz53_3 : wr.cell? ⟨gb461, 3, none⟩ = some (.int .i64 a0_3) := (blk_cell BK461.out 3).trans rfl; have hfz53_0 := blk_frozen BK461.out 0; have hfz53_1 := blk_frozen BK461.out 1; have hfz53_2 := blk_frozen BK461.out 2; have hfz53_3 := blk_frozen BK461.out 3) | (go_at_call 78; (with_reducible refine (linkboyref11_in.calls ((rd_T73 l0_0 x6_4).f4) 0 a0_2 false _ A46.out).mono ?_); rintro e w' ⟨rfl, ⟨nd, rfl⟩⟩; (try first | exact ⟨rfl, _, World.drewN_drewN _ _ _⟩ | exact ⟨rfl, _, Eq.trans (World.drewN_drewN _ _ _) (congrArg (World.drewN _) (Nat.add_assoc _ _ _))⟩)))
                                            repeat (go_quiet (first | (go_at_call 78; (with_reducible refine (linkboyref11_in.calls ((rd_T73 l0_0 x6_4).f1) 0 1000000 true _ A40.out).mono ?_); rintro e w' ⟨rfl, ⟨nd, rfl⟩⟩; (try first | exact ⟨rfl, _, World.drewN_drewN _ _ _⟩ | exact ⟨rfl, _, Eq.trans (World.drewN_drewN _ _ _) (congrArg (World.drewN _) (Nat.add_assoc _ _ _))⟩)) | (go_at_call 78; (with_reducible refine (linkboyref11_in.calls ((rd_T73 l0_0 x6_4).f2) 0 1000 true _ A42.out).mono ?_); rintro e w' ⟨rfl, ⟨nd, rfl⟩⟩; (try first | exact ⟨rfl, _, World.drewN_drewN _ _ _⟩ | exact ⟨rfl, _, Eq.trans (World.drewN_drewN _ _ _) (congrArg (World.drewN _) (Nat.add_assoc _ _ _))⟩)) | (go_at_call 78; (with_reducible refine (linkboyref11_in.calls ((rd_T73 l0_0 x6_4).f3) 0 10000000 true _ A44.out).mono ?_); rintro e w' ⟨rfl, ⟨nd, rfl⟩⟩; (try first | exact ⟨rfl, _, World.drewN_drewN _ _ _⟩ | exact ⟨rfl, _, Eq.trans (World.drewN_drewN _ _ _) (congrArg (World.drewN _) (Nat.add_assoc _ _ _))⟩); have hcz53_0 : wr.cell? ⟨gb461, 0, none⟩ = some (.slice (some ad466) l0_0.length c0_0) := (blk_cell BK461.out 0).trans rfl; have hcz53_1 : wr.cell? ⟨gb461, 1, none⟩ = some (.slice A0_1 l0_1.length c0_1) := (blk_cell BK461.out 1).trans rfl; have hcz53_2 : wr.cell? ⟨gb461, 2, none⟩ = some (.int .i64 a0_2) := (blk_cell BK461.out 2).trans rfl; have hcz53_3 : wr.cell? ⟨gb461, 3, none⟩ = some (.int .i64 a0_3) := (blk_cell BK461.out 3).trans rfl; have hfz53_0 := blk_frozen BK461.out 0; have hfz53_1 := blk_frozen BK461.out 1; have hfz53_2 := blk_frozen BK461.out 2; have hfz53_3 := blk_frozen BK461.out 3) | (go_at_call 78; (with_reducible refine (linkboyref11_in.calls ((rd_T73 l0_0 x6_4).f4) 0 a0_2 false _ A46.out).mono ?_); rintro e w' ⟨rfl, ⟨nd, rfl⟩⟩; (try first | exact ⟨rfl, _, World.drewN_drewN _ _ _⟩ | exact ⟨rfl, _, Eq.trans (World.drewN_drewN _ _ _) (congrArg (World.drewN _) (Nat.add_assoc _ _ _))⟩))); try go_wp2_with (first | (go_at_call 78; (with_reducible refine (linkboyref11_in.calls ((rd_T73 l0_0 x6_4).f1) 0 1000000 true _ A40.out).mono ?_); rintro e w' ⟨rfl, ⟨nd, rfl⟩⟩; (try first | exact ⟨rfl, _, World.drewN_drewN _ _ _⟩ | exact ⟨rfl, _, Eq.trans (World.drewN_drewN _ _ _) (congrArg (World.drewN _) (Nat.add_assoc _ _ _))⟩)) | (go_at_call 78; (with_reducible refine (linkboyref11_in.calls ((rd_T73 l0_0 x6_4).f2) 0 1000 true _ A42.out).mono ?_); rintro e w' ⟨rfl, ⟨nd, rfl⟩⟩; (try first | exact ⟨rfl, _, World.drewN_drewN _ _ _⟩ | exact ⟨rfl, _, Eq.trans (World.drewN_drewN _ _ _) (congrArg (World.drewN _) (Nat.add_assoc _ _ _))⟩)) | (go_at_call 78; (with_reducible refine (linkboyref11_in.calls ((rd_T73 l0_0 x6_4).f3) 0 10000000 true _ A44.out).mono ?_); rintro e w' ⟨rfl, ⟨nd, rfl⟩⟩; (try first | exact ⟨rfl, _, World.drewN_drewN _ _ _⟩ | exact ⟨rfl, _, Eq.trans (World.drewN_drewN _ _ _) (congrArg (World.drewN _) (Nat.add_assoc _ _ _))⟩); have hcz53_0 : wr.cell? ⟨gb461, 0, none⟩ = some (.slice (some ad466) l0_0.length c0_0) := (blk_cell BK461.out 0).trans rfl; have hcz53_1 : wr.cell? ⟨gb461, 1, none⟩ = some (.slice A0_1 l0_1.length c0_1) := (blk_cell BK461.out 1).trans rfl; have hcz53_2 : wr.cell? ⟨gb461, 2, none⟩ = some (.int .i64 a0_2) := (blk_cell BK461.out 2).trans rfl; have hcz53_3 : wr.cell? ⟨gb461, 3, none⟩ = some (.int .i64 a0_3) := (blk_cell BK461.out 3).trans rfl; have hfz53_0 := blk_frozen BK461.out 0; have hfz53_1 := blk_frozen BK461.out 1; have hfz53_2 := blk_frozen BK461.out 2; have hfz53_3 := blk_frozen BK461.out 3) | (go_at_call 78; (with_reducible refine (linkboyref11_in.calls ((rd_T73 l0_0 x6_4).f4) 0 a0_2 false _ A46.out).mono ?_); rintro e w' ⟨rfl, ⟨nd, rfl⟩⟩; (try first | exact ⟨rfl, _, World.drewN_drewN _ _ _⟩ | exact ⟨rfl, _, Eq.trans (World.drewN_drewN _ _ _) (congrArg (World.drewN _) (Nat.add_assoc _ _ _))⟩))))
                                            go_ret2
                                            exact ⟨by first | rfl | (simp [errW_none, errW_some] <;> rfl) | (simp [*, errW_none, errW_some] <;> rfl), by repeat (first | (with_reducible first | exact HB.out | apply below_alloc | apply pw_below_drewN | apply below_drew1 | refine below_set ?_ GE461.out | refine below_set ?_ GE467.out) | exact HB.out)⟩
                                        · replace c45 := Bool.eq_false_iff.mpr c45
                                          subst c45
                                          have H1 : (some (x6_4, 7)) = some (r1, r2) := by rw [if_neg (show ¬ (false = true) by decide)] at H; exact H
                                          clear H
                                          have H := H1
                                          clear H1
                                          simp only [Option.some.injEq, Prod.mk.injEq] at H
                                          obtain ⟨rfl, rfl⟩ := H
                                          have hnb54 := NB467_461.out
                                          have hnc54 := NB461_467.out
                                          have hcz55_0 : wr.cell? ⟨gb467, 0, none⟩ = some (.string ((rd_T73 l0_0 x6_4).f0)) := (blk_cell BK467.out 0).trans rfl
                                          have hcz55_1 : wr.cell? ⟨gb467, 1, none⟩ = some (.int .i64 ((rd_T73 l0_0 x6_4).f1)) := (blk_cell BK467.out 1).trans rfl
                                          have hcz55_2 : wr.cell? ⟨gb467, 2, none⟩ = some (.int .i64 ((rd_T73 l0_0 x6_4).f2)) := (blk_cell BK467.out 2).trans rfl
                                          have hcz55_3 : wr.cell? ⟨gb467, 3, none⟩ = some (.int .i64 ((rd_T73 l0_0 x6_4).f3)) := (blk_cell BK467.out 3).trans rfl
                                          have hcz55_4 : wr.cell? ⟨gb467, 4, none⟩ = some (.int .i64 ((rd_T73 l0_0 x6_4).f4)) := (blk_cell BK467.out 4).trans rfl
                                          have hfz55_0 := blk_frozen BK467.out 0
                                          have hfz55_1 := blk_frozen BK467.out 1
                                          have hfz55_2 := blk_frozen BK467.out 2
                                          have hfz55_3 := blk_frozen BK467.out 3
                                          have hfz55_4 := blk_frozen BK467.out 4
                                          go_wp2_with (first | (go_at_call 78; (with_reducible refine (linkboyref11_in.calls ((rd_T73 l0_0 x6_4).f1) 0 1000000 true _ A40.out).mono ?_); rintro e w' ⟨rfl, ⟨nd, rfl⟩⟩; (try first | exact ⟨rfl, _, World.drewN_drewN _ _ _⟩ | exact ⟨rfl, _, Eq.trans (World.drewN_drewN _ _ _) (congrArg (World.drewN _) (Nat.add_assoc _ _ _))⟩)) | (go_at_call 78; (with_reducible refine (linkboyref11_in.calls ((rd_T73 l0_0 x6_4).f2) 0 1000 true _ A42.out).mono ?_); rintro e w' ⟨rfl, ⟨nd, rfl⟩⟩; (try first | exact ⟨rfl, _, World.drewN_drewN _ _ _⟩ | exact ⟨rfl, _, Eq.trans (World.drewN_drewN _ _ _) (congrArg (World.drewN _) (Nat.add_assoc _ _ _))⟩)) | (go_at_call 78; (with_reducible refine (linkboyref11_in.calls ((rd_T73 l0_0 x6_4).f3) 0 10000000 false _ A44.out).mono ?_); rintro e w' ⟨rfl, ⟨nd, rfl⟩⟩; (try first | exact ⟨rfl, _, World.drewN_drewN _ _ _⟩ | exact ⟨rfl, _, Eq.trans (World.drewN_drewN _ _ _) (congrArg (World.drewN _) (Nat.add_assoc _ _ _))⟩)))
                                          repeat (go_quiet (first | (go_at_call 78; (with_reducible refine (linkboyref11_in.calls ((rd_T73 l0_0 x6_4).f1) 0 1000000 true _ A40.out).mono ?_); rintro e w' ⟨rfl, ⟨nd, rfl⟩⟩; (try first | exact ⟨rfl, _, World.drewN_drewN _ _ _⟩ | exact ⟨rfl, _, Eq.trans (World.drewN_drewN _ _ _) (congrArg (World.drewN _) (Nat.add_assoc _ _ _))⟩)) | (go_at_call 78; (with_reducible refine (linkboyref11_in.calls ((rd_T73 l0_0 x6_4).f2) 0 1000 true _ A42.out).mono ?_); rintro e w' ⟨rfl, ⟨nd, rfl⟩⟩; (try first | exact ⟨rfl, _, World.drewN_drewN _ _ _⟩ | exact ⟨rfl, _, Eq.trans (World.drewN_drewN _ _ _) (congrArg (World.drewN _) (Nat.add_assoc _ _ _))⟩)) | (go_at_call 78; (with_reducible refine (linkboyref11_in.calls ((rd_T73 l0_0 x6_4).f3) 0 10000000 false _ A44.out).mono ?_); rintro e w' ⟨rfl, ⟨nd, rfl⟩⟩; (try first | exact ⟨rfl, _, World.drewN_drewN _ _ _⟩ | exact ⟨rfl, _, Eq.trans (World.drewN_drewN _ _ _) (congrArg (World.drewN _) (Nat.add_assoc _ _ _))⟩))); try go_wp2_with (first | (go_at_call 78; (with_reducible refine (linkboyref11_in.calls ((rd_T73 l0_0 x6_4).f1) 0 1000000 true _ A40.out).mono ?_); rintro e w' ⟨rfl, ⟨nd, rfl⟩⟩; (try first | exact ⟨rfl, _, World.drewN_drewN _ _ _⟩ | exact ⟨rfl, _, Eq.trans (World.drewN_drewN _ _ _) (congrArg (World.drewN _) (Nat.add_assoc _ _ _))⟩)) | (go_at_call 78; (with_reducible refine (linkboyref11_in.calls ((rd_T73 l0_0 x6_4).f2) 0 1000 true _ A42.out).mono ?_); rintro e w' ⟨rfl, ⟨nd, rfl⟩⟩; (try first | exact ⟨rfl, _, World.drewN_drewN _ _ _⟩ | exact ⟨rfl, _, Eq.trans (World.drewN_drewN _ _ _) (congrArg (World.drewN _) (Nat.add_assoc _ _ _))⟩)) | (go_at_call 78; (with_reducible refine (linkboyref11_in.calls ((rd_T73 l0_0 x6_4).f3) 0 10000000 false _ A44.out).mono ?_); rintro e w' ⟨rfl, ⟨nd, rfl⟩⟩; (try first | exact ⟨rfl, _, World.drewN_drewN _ _ _⟩ | exact ⟨rfl, _, Eq.trans (World.drewN_drewN _ _ _) (congrArg (World.drewN _) (Nat.add_assoc _ _ _))⟩))))
                                          go_ret2
                                          exact ⟨by first | rfl | (simp [errW_none, errW_some] <;> rfl) | (simp [*, errW_none, errW_some] <;> rfl), by repeat (first | (with_reducible first | exact HB.out | apply below_alloc | apply pw_below_drewN | apply below_drew1 | refine below_set ?_ GE461.out | refine below_set ?_ GE467.out) | exact HB.out)⟩
                                      · replace c43 := Bool.eq_false_iff.mpr c43
                                        subst c43
                                        have H1 : (some (x6_4, 7)) = some (r1, r2) := by rw [if_neg (show ¬ (false = true) by decide)] at H; exact H
                                        clear H
                                        have H := H1
                                        clear H1
                                        simp only [Option.some.injEq, Prod.mk.injEq] at H
                                        obtain ⟨rfl, rfl⟩ := H
                                        have hnb56 := NB467_461.out
                                        have hnc56 := NB461_467.out
                                        have hcz57_0 : wr.cell? ⟨gb467, 0, none⟩ = some (.string ((rd_T73 l0_0 x6_4).f0)) := (blk_cell BK467.out 0).trans rfl
                                        have hcz57_1 : wr.cell? ⟨gb467, 1, none⟩ = some (.int .i64 ((rd_T73 l0_0 x6_4).f1)) := (blk_cell BK467.out 1).trans rfl
                                        have hcz57_2 : wr.cell? ⟨gb467, 2, none⟩ = some (.int .i64 ((rd_T73 l0_0 x6_4).f2)) := (blk_cell BK467.out 2).trans rfl
                                        have hcz57_3 : wr.cell? ⟨gb467, 3, none⟩ = some (.int .i64 ((rd_T73 l0_0 x6_4).f3)) := (blk_cell BK467.out 3).trans rfl
                                        have hcz57_4 : wr.cell? ⟨gb467, 4, none⟩ = some (.int .i64 ((rd_T73 l0_0 x6_4).f4)) := (blk_cell BK467.out 4).trans rfl
                                        have hfz57_0 := blk_frozen BK467.out 0
                                        have hfz57_1 := blk_frozen BK467.out 1
                                        have hfz57_2 := blk_frozen BK467.out 2
                                        have hfz57_3 := blk_frozen BK467.out 3
                                        have hfz57_4 := blk_frozen BK467.out 4
                                        go_wp2_with (first | (go_at_call 78; (with_reducible refine (linkboyref11_in.calls ((rd_T73 l0_0 x6_4).f1) 0 1000000 true _ A40.out).mono ?_); rintro e w' ⟨rfl, ⟨nd, rfl⟩⟩; (try first | exact ⟨rfl, _, World.drewN_drewN _ _ _⟩ | exact ⟨rfl, _, Eq.trans (World.drewN_drewN _ _ _) (congrArg (World.drewN _) (Nat.add_assoc _ _ _))⟩)) | (go_at_call 78; (with_reducible refine (linkboyref11_in.calls ((rd_T73 l0_0 x6_4).f2) 0 1000 false _ A42.out).mono ?_); rintro e w' ⟨rfl, ⟨nd, rfl⟩⟩; (try first | exact ⟨rfl, _, World.drewN_drewN _ _ _⟩ | exact ⟨rfl, _, Eq.trans (World.drewN_drewN _ _ _) (congrArg (World.drewN _) (Nat.add_assoc _ _ _))⟩)))
                                        repeat (go_quiet (first | (go_at_call 78; (with_reducible refine (linkboyref11_in.calls ((rd_T73 l0_0 x6_4).f1) 0 1000000 true _ A40.out).mono ?_); rintro e w' ⟨rfl, ⟨nd, rfl⟩⟩; (try first | exact ⟨rfl, _, World.drewN_drewN _ _ _⟩ | exact ⟨rfl, _, Eq.trans (World.drewN_drewN _ _ _) (congrArg (World.drewN _) (Nat.add_assoc _ _ _))⟩)) | (go_at_call 78; (with_reducible refine (linkboyref11_in.calls ((rd_T73 l0_0 x6_4).f2) 0 1000 false _ A42.out).mono ?_); rintro e w' ⟨rfl, ⟨nd, rfl⟩⟩; (try first | exact ⟨rfl, _, World.drewN_drewN _ _ _⟩ | exact ⟨rfl, _, Eq.trans (World.drewN_drewN _ _ _) (congrArg (World.drewN _) (Nat.add_assoc _ _ _))⟩))); try go_wp2_with (first | (go_at_call 78; (with_reducible refine (linkboyref11_in.calls ((rd_T73 l0_0 x6_4).f1) 0 1000000 true _ A40.out).mono ?_); rintro e w' ⟨rfl, ⟨nd, rfl⟩⟩; (try first | exact ⟨rfl, _, World.drewN_drewN _ _ _⟩ | exact ⟨rfl, _, Eq.trans (World.drewN_drewN _ _ _) (congrArg (World.drewN _) (Nat.add_assoc _ _ _))⟩)) | (go_at_call 78; (with_reducible refine (linkboyref11_in.calls ((rd_T73 l0_0 x6_4).f2) 0 1000 false _ A42.out).mono ?_); rintro e w' ⟨rfl, ⟨nd, rfl⟩⟩; (try first | exact ⟨rfl, _, World.drewN_drewN _ _ _⟩ | exact ⟨rfl, _, Eq.trans (World.drewN_drewN _ _ _) (congrArg (World.drewN _) (Nat.add_assoc _ _ _))⟩))))
                                        go_ret2
                                        exact ⟨by first | rfl | (simp [errW_none, errW_some] <;> rfl) | (simp [*, errW_none, errW_some] <;> rfl), by repeat (first | (with_reducible first | exact HB.out | apply below_alloc | apply pw_below_drewN | apply below_drew1 | refine below_set ?_ GE461.out | refine below_set ?_ GE467.out) | exact HB.out)⟩
                                    · replace c41 := Bool.eq_false_iff.mpr c41
                                      subst c41
                                      have H1 : (some (x6_4, 7)) = some (r1, r2) := by rw [if_neg (show ¬ (false = true) by decide)] at H; exact H
                                      clear H
                                      have H := H1
                                      clear H1
                                      simp only [Option.some.injEq, Prod.mk.injEq] at H
                                      obtain ⟨rfl, rfl⟩ := H
                                      have hnb58 := NB467_461.out
                                      have hnc58 := NB461_467.out
                                      have hcz59_0 : wr.cell? ⟨gb467, 0, none⟩ = some (.string ((rd_T73 l0_0 x6_4).f0)) := (blk_cell BK467.out 0).trans rfl
                                      have hcz59_1 : wr.cell? ⟨gb467, 1, none⟩ = some (.int .i64 ((rd_T73 l0_0 x6_4).f1)) := (blk_cell BK467.out 1).trans rfl
                                      have hcz59_2 : wr.cell? ⟨gb467, 2, none⟩ = some (.int .i64 ((rd_T73 l0_0 x6_4).f2)) := (blk_cell BK467.out 2).trans rfl
                                      have hcz59_3 : wr.cell? ⟨gb467, 3, none⟩ = some (.int .i64 ((rd_T73 l0_0 x6_4).f3)) := (blk_cell BK467.out 3).trans rfl
                                      have hcz59_4 : wr.cell? ⟨gb467, 4, none⟩ = some (.int .i64 ((rd_T73 l0_0 x6_4).f4)) := (blk_cell BK467.out 4).trans rfl
                                      have hfz59_0 := blk_frozen BK467.out 0
                                      have hfz59_1 := blk_frozen BK467.out 1
                                      have hfz59_2 := blk_frozen BK467.out 2
                                      have hfz59_3 := blk_frozen BK467.out 3
                                      have hfz59_4 := blk_frozen BK467.out 4
                                      go_wp2_with (first | (go_at_call 78; (with_reducible refine (linkboyref11_in.calls ((rd_T73 l0_0 x6_4).f1) 0 1000000 false _ A40.out).mono ?_); rintro e w' ⟨rfl, ⟨nd, rfl⟩⟩; (try first | exact ⟨rfl, _, World.drewN_drewN _ _ _⟩ | exact ⟨rfl, _, Eq.trans (World.drewN_drewN _ _ _) (congrArg (World.drewN _) (Nat.add_assoc _ _ _))⟩)))
                                      repeat (go_quiet (first | (go_at_call 78; (with_reducible refine (linkboyref11_in.calls ((rd_T73 l0_0 x6_4).f1) 0 1000000 false _ A40.out).mono ?_); rintro e w' ⟨rfl, ⟨nd, rfl⟩⟩; (try first | exact ⟨rfl, _, World.drewN_drewN _ _ _⟩ | exact ⟨rfl, _, Eq.trans (World.drewN_drewN _ _ _) (congrArg (World.drewN _) (Nat.add_assoc _ _ _))⟩))); try go_wp2_with (first | (go_at_call 78; (with_reducible refine (linkboyref11_in.calls ((rd_T73 l0_0 x6_4).f1) 0 1000000 false _ A40.out).mono ?_); rintro e w' ⟨rfl, ⟨nd, rfl⟩⟩; (try first | exact ⟨rfl, _, World.drewN_drewN _ _ _⟩ | exact ⟨rfl, _, Eq.trans (World.drewN_drewN _ _ _) (congrArg (World.drewN _) (Nat.add_assoc _ _ _))⟩))))
                                      go_ret2
                                      exact ⟨by first | rfl | (simp [errW_none, errW_some] <;> rfl) | (simp [*, errW_none, errW_some] <;> rfl), by repeat (first | (with_reducible first | exact HB.out | apply below_alloc | apply pw_below_drewN | apply below_drew1 | refine below_set ?_ GE461.out | refine below_set ?_ GE467.out) | exact HB.out)⟩
                            · replace c25 := Bool.eq_false_iff.mpr c25
                              subst c25
                              have H1 : (some (x6_4, 6)) = some (r1, r2) := by rw [if_neg (show ¬ (false = true) by decide)] at H; exact H
                              clear H
                              have H := H1
                              clear H1
                              simp only [Option.some.injEq, Prod.mk.injEq] at H
                              obtain ⟨rfl, rfl⟩ := H
                              have hcz60_0 : wr.cell? ⟨gb461, 0, none⟩ = some (.slice A0_0 l0_0.length c0_0) := (blk_cell BK461.out 0).trans rfl
                              have hcz60_1 : wr.cell? ⟨gb461, 1, none⟩ = some (.slice A0_1 l0_1.length c0_1) := (blk_cell BK461.out 1).trans rfl
                              have hcz60_2 : wr.cell? ⟨gb461, 2, none⟩ = some (.int .i64 a0_2) := (blk_cell BK461.out 2).trans rfl
                              have hcz60_3 : wr.cell? ⟨gb461, 3, none⟩ = some (.int .i64 a0_3) := (blk_cell BK461.out 3).trans rfl
                              have hfz60_0 := blk_frozen BK461.out 0
                              have hfz60_1 := blk_frozen BK461.out 1
                              have hfz60_2 := blk_frozen BK461.out 2
                              have hfz60_3 := blk_frozen BK461.out 3
                              have p466 : 0 ≤ (x6_4 : Int) := of_decide_eq_true (by first | (with_reducible assumption) | assumption)
                              have q466 : x6_4 < (l0_0.length : Int) := of_decide_eq_true (by first | (with_reducible assumption) | assumption)
                              obtain ⟨ad466, e466, hx466_0, hx466_1, hx466_2, hx466_3, hx466_4⟩ := at_T73 HR0_0.out x6_4 p466 q466
                              cases e466
                              replace hx466_0 := (HB.out.cell (World.block_lt_of_cell? w _ hx466_0)).trans hx466_0
                              replace hx466_1 := (HB.out.cell (World.block_lt_of_cell? w _ hx466_1)).trans hx466_1
                              replace hx466_2 := (HB.out.cell (World.block_lt_of_cell? w _ hx466_2)).trans hx466_2
                              replace hx466_3 := (HB.out.cell (World.block_lt_of_cell? w _ hx466_3)).trans hx466_3
                              replace hx466_4 := (HB.out.cell (World.block_lt_of_cell? w _ hx466_4)).trans hx466_4
                              replace p466 := eq_true p466
                              replace q466 := eq_true q466
                              go_wp2_with (first | ((with_reducible refine gate_dst (N := 7) rfl ?_); (try (refine gate_guard (by rfl) ?_; dsimp only)); refine box_event ?hg (N := 7) ?hd (cs := #[.string (⟨#[]⟩ : ByteArray), .int .i64 0, .int .i64 0, .int .i64 0, .int .i64 0]) (t := 73) ?hr ?_; (case hd => rfl); (case hg => rfl); (case hr => first | (go_simp; done) | (go_simp; rfl)); intro gb467 hg w61 hbox hb; have n0_ := Aside0.mk (blk_below (g := gb461) (o := .cells #[.slice (some ad466) l0_0.length c0_0, .slice A0_1 l0_1.length c0_1, .int .i64 a0_2, .int .i64 a0_3] 66 (0, 0)) (by (with_reducible repeat (first | refine blk_drewN ?_ _ | refine blk_drew ?_ | refine blk_alloc ?_ _)); exact BK461.out) hb); have n1_ := Aside0.mk (below_step (by repeat (first | (with_reducible first | exact HB.out | apply below_alloc | apply pw_below_drewN | apply below_drew1 | refine below_set ?_ GE461.out) | exact HB.out)) hb); have n2_ := Aside0.mk (hbox); have n3_ := Aside0.mk ((by rw [hg]; exact (below_size (by repeat (first | (with_reducible first | exact HB.out | apply below_alloc | apply pw_below_drewN | apply below_drew1 | refine below_set ?_ GE461.out) | exact HB.out))) : w.heap.size ≤ gb467)); have n4_ := Aside0.mk ((by rw [hg]; exact (below_size (by repeat (first | (with_reducible first | exact HB.out | apply below_alloc | apply pw_below_drewN | apply below_drew1 | refine below_set ?_ GE461.out) | exact HB.out))) : w.heap.size ≤ gb467)); have n5_ := Aside0.mk ((by rw [hg]; exact Nat.ne_of_lt (blk_lt (g := gb461) (o := .cells #[.slice (some ad466) l0_0.length c0_0, .slice A0_1 l0_1.length c0_1, .int .i64 a0_2, .int .i64 a0_3] 66 (0, 0)) (by (with_reducible repeat (first | refine blk_drewN ?_ _ | refine blk_drew ?_ | refine blk_alloc ?_ _)); exact BK461.out)) : gb461 ≠ gb467)); have n6_ := Aside0.mk ((by rw [hg]; exact Nat.ne_of_gt (blk_lt (g := gb461) (o := .cells #[.slice (some ad466) l0_0.length c0_0, .slice A0_1 l0_1.length c0_1, .int .i64 a0_2, .int .i64 a0_3] 66 (0, 0)) (by (with_reducible repeat (first | refine blk_drewN ?_ _ | refine blk_drew ?_ | refine blk_alloc ?_ _)); exact BK461.out)) : gb467 ≠ gb461)); clear BK461; clear HB; have BK461 := n0_; have HB := n1_; have BK467 := n2_; have GW467 := n3_; have GE467 := n4_; have NB461_467 := n5_; have NB467_461 := n6_; clear n0_ n1_ n2_ n3_ n4_ n5_ n6_; clear hb hbox hg; have hnb62 := NB467_461.out; have hnc62 := NB461_467.out; have hcz63_0 : w61.cell? ⟨gb467, 0, none⟩ = some (.string (⟨#[]⟩ : ByteArray)) := (blk_cell BK467.out 0).trans rfl; have hcz63_1 : w61.cell? ⟨gb467, 1, none⟩ = some (.int .i64 0) := (blk_cell BK467.out 1).trans rfl; have hcz63_2 : w61.cell? ⟨gb467, 2, none⟩ = some (.int .i64 0) := (blk_cell BK467.out 2).trans rfl; have hcz63_3 : w61.cell? ⟨gb467, 3, none⟩ = some (.int .i64 0) := (blk_cell BK467.out 3).trans rfl; have hcz63_4 : w61.cell? ⟨gb467, 4, none⟩ = some (.int .i64 0) := (blk_cell BK467.out 4).trans rfl; have hfz63_0 := blk_frozen BK467.out 0; have hfz63_1 := blk_frozen BK467.out 1; have hfz63_2 := blk_frozen BK467.out 2; have hfz63_3 := blk_frozen BK467.out 3; have hfz63_4 := blk_frozen BK467.out 4) | (go_at_call 79; (with_reducible refine (linkboyref02_Name.calls k4 ((rd_T73 l0_0 x6_4).f0) false _ A24.out).mono ?_); rintro e w' ⟨rfl, ⟨nd, rfl⟩⟩; (try first | exact ⟨rfl, _, World.drewN_drewN _ _ _⟩ | exact ⟨rfl, _, Eq.trans (World.drewN_drewN _ _ _) (congrArg (World.drewN _) (Nat.add_assoc _ _ _))⟩)))
                              repeat (go_quiet (first | ((with_reducible refine gate_dst (N := 7) rfl ?_); (try (refine gate_guard (by rfl) ?_; dsimp only)); refine box_event ?hg (N := 7) ?hd (cs := #[.string (⟨#[]⟩ : ByteArray), .int .i64 0, .int .i64 0, .int .i64 0, .int .i64 0]) (t := 73) ?hr ?_; (case hd => rfl); (case hg => rfl); (case hr => first | (go_simp; done) | (go_simp; rfl)); intro gb467 hg w61 hbox hb; have n0_ := Aside0.mk (blk_below (g := gb461) (o := .cells #[.slice (some ad466) l0_0.length c0_0, .slice A0_1 l0_1.length c0_1, .int .i64 a0_2, .int .i64 a0_3] 66 (0, 0)) (by (with_reducible repeat (first | refine blk_drewN ?_ _ | refine blk_drew ?_ | refine blk_alloc ?_ _)); exact BK461.out) hb); have n1_ := Aside0.mk (below_step (by repeat (first | (with_reducible first | exact HB.out | apply below_alloc | apply pw_below_drewN | apply below_drew1 | refine below_set ?_ GE461.out) | exact HB.out)) hb); have n2_ := Aside0.mk (hbox); have n3_ := Aside0.mk ((by rw [hg]; exact (below_size (by repeat (first | (with_reducible first | exact HB.out | apply below_alloc | apply pw_below_drewN | apply below_drew1 | refine below_set ?_ GE461.out) | exact HB.out))) : w.heap.size ≤ gb467)); have n4_ := Aside0.mk ((by rw [hg]; exact (below_size (by repeat (first | (with_reducible first | exact HB.out | apply below_alloc | apply pw_below_drewN | apply below_drew1 | refine below_set ?_ GE461.out) | exact HB.out))) : w.heap.size ≤ gb467)); have n5_ := Aside0.mk ((by rw [hg]; exact Nat.ne_of_lt (blk_lt (g := gb461) (o := .cells #[.slice (some ad466) l0_0.length c0_0, .slice A0_1 l0_1.length c0_1, .int .i64 a0_2, .int .i64 a0_3] 66 (0, 0)) (by (with_reducible repeat (first | refine blk_drewN ?_ _ | refine blk_drew ?_ | refine blk_alloc ?_ _)); exact BK461.out)) : gb461 ≠ gb467)); have n6_ := Aside0.mk ((by rw [hg]; exact Nat.ne_of_gt (blk_lt (g := gb461) (o := .cells #[.slice (some ad466) l0_0.length c0_0, .slice A0_1 l0_1.length c0_1, .int .i64 a0_2, .int .i64 a0_3] 66 (0, 0)) (by (with_reducible repeat (first | refine blk_drewN ?_ _ | refine blk_drew ?_ | refine blk_alloc ?_ _)); exact BK461.out)) : gb467 ≠ gb461)); clear BK461; clear HB; have BK461 := n0_; have HB := n1_; have BK467 := n2_; have GW467 := n3_; have GE467 := n4_; have NB461_467 := n5_; have NB467_461 := n6_; clear n0_ n1_ n2_ n3_ n4_ n5_ n6_; clear hb hbox hg; have hnb62 := NB467_461.out; have hnc62 := NB461_467.out; have hcz63_0 : w61.cell? ⟨gb467, 0, none⟩ = some (.string (⟨#[]⟩ : ByteArray)) := (blk_cell BK467.out 0).trans rfl; have hcz63_1 : w61.cell? ⟨gb467, 1, none⟩ = some (.int .i64 0) := (blk_cell BK467.out 1).trans rfl; have hcz63_2 : w61.cell? ⟨gb467, 2, none⟩ = some (.int .i64 0) := (blk_cell BK467.out 2).trans rfl; have hcz63_3 : w61.cell? ⟨gb467, 3, none⟩ = some (.int .i64 0) := (blk_cell BK467.out 3).trans rfl; have hcz63_4 : w61.cell? ⟨gb467, 4, none⟩ = some (.int .i64 0) := (blk_cell BK467.out 4).trans rfl; have hfz63_0 := blk_frozen BK467.out 0; have hfz63_1 := blk_frozen BK467.out 1; have hfz63_2 := blk_frozen BK467.out 2; have hfz63_3 := blk_frozen BK467.out 3; have hfz63_4 := blk_frozen BK467.out 4) | (go_at_call 79; (with_reducible refine (linkboyref02_Name.calls k4 ((rd_T73 l0_0 x6_4).f0) false _ A24.out).mono ?_); rintro e w' ⟨rfl, ⟨nd, rfl⟩⟩; (try first | exact ⟨rfl, _, World.drewN_drewN _ _ _⟩ | exact ⟨rfl, _, Eq.trans (World.drewN_drewN _ _ _) (congrArg (World.drewN _) (Nat.add_assoc _ _ _))⟩))); try go_wp2_with (first | ((with_reducible refine gate_dst (N := 7) rfl ?_); (try (refine gate_guard (by rfl) ?_; dsimp only)); refine box_event ?hg (N := 7) ?hd (cs := #[.string (⟨#[]⟩ : ByteArray), .int .i64 0, .int .i64 0, .int .i64 0, .int .i64 0]) (t := 73) ?hr ?_; (case hd => rfl); (case hg => rfl); (case hr => first | (go_simp; done) | (go_simp; rfl)); intro gb467 hg w61 hbox hb; have n0_ := Aside0.mk (blk_below (g := gb461) (o := .cells #[.slice (some ad466) l0_0.length c0_0, .slice A0_1 l0_1.length c0_1, .int .i64 a0_2, .int .i64 a0_3] 66 (0, 0)) (by (with_reducible repeat (first | refine blk_drewN ?_ _ | refine blk_drew ?_ | refine blk_alloc ?_ _)); exact BK461.out) hb); have n1_ := Aside0.mk (below_step (by repeat (first | (with_reducible first | exact HB.out | apply below_alloc | apply pw_below_drewN | apply below_drew1 | refine below_set ?_ GE461.out) | exact HB.out)) hb); have n2_ := Aside0.mk (hbox); have n3_ := Aside0.mk ((by rw [hg]; exact (below_size (by repeat (first | (with_reducible first | exact HB.out | apply below_alloc | apply pw_below_drewN | apply below_drew1 | refine below_set ?_ GE461.out) | exact HB.out))) : w.heap.size ≤ gb467)); have n4_ := Aside0.mk ((by rw [hg]; exact (below_size (by repeat (first | (with_reducible first | exact HB.out | apply below_alloc | apply pw_below_drewN | apply below_drew1 | refine below_set ?_ GE461.out) | exact HB.out))) : w.heap.size ≤ gb467)); have n5_ := Aside0.mk ((by rw [hg]; exact Nat.ne_of_lt (blk_lt (g := gb461) (o := .cells #[.slice (some ad466) l0_0.length c0_0, .slice A0_1 l0_1.length c0_1, .int .i64 a0_2, .int .i64 a0_3] 66 (0, 0)) (by (with_reducible repeat (first | refine blk_drewN ?_ _ | refine blk_drew ?_ | refine blk_alloc ?_ _)); exact BK461.out)) : gb461 ≠ gb467)); have n6_ := Aside0.mk ((by rw [hg]; exact Nat.ne_of_gt (blk_lt (g := gb461) (o := .cells #[.slice (some ad466) l0_0.length c0_0, .slice A0_1 l0_1.length c0_1, .int .i64 a0_2, .int .i64 a0_3] 66 (0, 0)) (by (with_reducible repeat (first | refine blk_drewN ?_ _ | refine blk_drew ?_ | refine blk_alloc ?_ _)); exact BK461.out)) : gb467 ≠ gb461)); clear BK461; clear HB; have BK461 := n0_; have HB := n1_; have BK467 := n2_; have GW467 := n3_; have GE467 := n4_; have NB461_467 := n5_; have NB467_461 := n6_; clear n0_ n1_ n2_ n3_ n4_ n5_ n6_; clear hb hbox hg; have hnb62 := NB467_461.out; have hnc62 := NB461_467.out; have hcz63_0 : w61.cell? ⟨gb467, 0, none⟩ = some (.string (⟨#[]⟩ : ByteArray)) := (blk_cell BK467.out 0).trans rfl; have hcz63_1 : w61.cell? ⟨gb467, 1, none⟩ = some (.int .i64 0) := (blk_cell BK467.out 1).trans rfl; have hcz63_2 : w61.cell? ⟨gb467, 2, none⟩ = some (.int .i64 0) := (blk_cell BK467.out 2).trans rfl; have hcz63_3 : w61.cell? ⟨gb467, 3, none⟩ = some (.int .i64 0) := (blk_cell BK467.out 3).trans rfl; have hcz63_4 : w61.cell? ⟨gb467, 4, none⟩ = some (.int .i64 0) := (blk_cell BK467.out 4).trans rfl; have hfz63_0 := blk_frozen BK467.out 0; have hfz63_1 := blk_frozen BK467.out 1; have hfz63_2 := blk_frozen BK467.out 2; have hfz63_3 := blk_frozen BK467.out 3; have hfz63_4 := blk_frozen BK467.out 4) | (go_at_call 79; (with_reducible refine (linkboyref02_Name.calls k4 ((rd_T73 l0_0 x6_4).f0) false _ A24.out).mono ?_); rintro e w' ⟨rfl, ⟨nd, rfl⟩⟩; (try first | exact ⟨rfl, _, World.drewN_drewN _ _ _⟩ | exact ⟨rfl, _, Eq.trans (World.drewN_drewN _ _ _) (congrArg (World.drewN _) (Nat.add_assoc _ _ _))⟩))))
                              go_ret2
                              exact ⟨by first | rfl | (simp [errW_none, errW_some] <;> rfl) | (simp [*, errW_none, errW_some] <;> rfl), by repeat (first | (with_reducible first | exact HB.out | apply below_alloc | apply pw_below_drewN | apply below_drew1 | refine below_set ?_ GE461.out | refine below_set ?_ GE467.out) | exact HB.out)⟩
                          · rw [if_neg c23] at H
                            exact absurd H (by simp)
                        · rw [if_neg c22] at H
                          have c22b0 : decide (x6_4 < (l0_0.length : Int)) = false := decide_eq_false c22
                          clear c22
                          simp only [Option.some.injEq, Prod.mk.injEq] at H
                          obtain ⟨rfl, rfl⟩ := H
                          have hcz64_0 : wr.cell? ⟨gb461, 0, none⟩ = some (.slice A0_0 l0_0.length c0_0) := (blk_cell BK461.out 0).trans rfl
                          have hcz64_1 : wr.cell? ⟨gb461, 1, none⟩ = some (.slice A0_1 l0_1.length c0_1) := (blk_cell BK461.out 1).trans rfl
                          have hcz64_2 : wr.cell? ⟨gb461, 2, none⟩ = some (.int .i64 a0_2) := (blk_cell BK461.out 2).trans rfl
                          have hcz64_3 : wr.cell? ⟨gb461, 3, none⟩ = some (.int .i64 a0_3) := (blk_cell BK461.out 3).trans rfl
                          have hfz64_0 := blk_frozen BK461.out 0
                          have hfz64_1 := blk_frozen BK461.out 1
                          have hfz64_2 := blk_frozen BK461.out 2
                          have hfz64_3 := blk_frozen BK461.out 3
                          go_wp2
                          repeat (go_quiet (fail); try go_wp2)
                          go_ret2
                          exact ⟨by first | rfl | (simp [errW_none, errW_some] <;> rfl) | (simp [*, errW_none, errW_some] <;> rfl), by repeat (first | (with_reducible first | exact HB.out | apply below_alloc | apply pw_below_drewN | apply below_drew1 | refine below_set ?_ GE461.out) | exact HB.out)⟩
                  · replace c20 := Bool.eq_false_iff.mpr c20
                    subst c20
                    have H1 : (some ((-1), 7)) = some (r1, r2) := by rw [if_neg (show ¬ (false = true) by decide)] at H; exact H
                    clear H
                    have H := H1
                    clear H1
                    simp only [Option.some.injEq, Prod.mk.injEq] at H
                    obtain ⟨rfl, rfl⟩ := H
                    have hcz65_0 : wr.cell? ⟨gb461, 0, none⟩ = some (.slice A0_0 l0_0.length c0_0) := (blk_cell BK461.out 0).trans rfl
                    have hcz65_1 : wr.cell? ⟨gb461, 1, none⟩ = some (.slice A0_1 l0_1.length c0_1) := (blk_cell BK461.out 1).trans rfl
                    have hcz65_2 : wr.cell? ⟨gb461, 2, none⟩ = some (.int .i64 a0_2) := (blk_cell BK461.out 2).trans rfl
                    have hcz65_3 : wr.cell? ⟨gb461, 3, none⟩ = some (.int .i64 a0_3) := (blk_cell BK461.out 3).trans rfl
                    have hfz65_0 := blk_frozen BK461.out 0
                    have hfz65_1 := blk_frozen BK461.out 1
                    have hfz65_2 := blk_frozen BK461.out 2
                    have hfz65_3 := blk_frozen BK461.out 3
                    go_wp2
                    repeat (go_quiet (fail); try go_wp2)
                    go_ret2
                    exact ⟨by first | rfl | (simp [errW_none, errW_some] <;> rfl) | (simp [*, errW_none, errW_some] <;> rfl), by repeat (first | (with_reducible first | exact HB.out | apply below_alloc | apply pw_below_drewN | apply below_drew1 | refine below_set ?_ GE461.out) | exact HB.out)⟩

end Go.Proofs.YtfoaglfnnomdkaaGreatDoor.C

/- A programme that is valid: its bounds; its benefits without the wraps. -/
set_option linter.all false
namespace Go.Proofs.YtfoaglfnnomdkaaGreatDoor.C
open Go.RowKit Go.Proofs.YtfoaglfnnomdkaaGreatDoorW.PrintWords Go.Proofs.YtfoaglfnnomdkaaGreatDoorW.PrintMore

theorem wrap_id {x : Int} (h0 : -9223372036854775808 ≤ x) (h1 : x ≤ 9223372036854775807) : wrap64 x = x := by
  unfold wrap64
  omega
theorem mul_bd {a b A B : Int} (a0 : 0 ≤ a) (a1 : a ≤ A) (b0 : 0 ≤ b) (b1 : b ≤ B) : 0 ≤ a * b ∧ a * b ≤ A * B :=
  ⟨Int.mul_nonneg a0 b0, Int.mul_le_mul a1 b1 b0 (Int.le_trans a0 a1)⟩
theorem namedF_ok {α : Type} [Inhabited α] {nm : α → ByteArray} {rest : α → Int} {l : List α} : ∀ k i, i + k = l.length → (namedF nm rest l k i).2 = 0 → ∀ j, i ≤ j → j < l.length → errAt nm rest l j l[j]! = 0 := by
  intro k
  induction k with
  | zero => intro i hi _ j h1 h2; omega
  | succ k ih =>
    intro i hi h j h1 h2
    rw [namedF] at h
    split at h
    · rename_i h0
      by_cases e : j = i
      · subst e; exact h0
      · exact ih (i + 1) (by omega) h j (by omega) h2
    · rename_i h0
      exact absurd h h0
theorem errAt_rest {α : Type} {nm : α → ByteArray} {rest : α → Int} {l : List α} {i : Nat} {x : α} (h : errAt nm rest l i x = 0) : rest x = 0 := by
  unfold errAt at h
  split at h
  · omega
  · split at h
    · omega
    · exact h
/-- A programme that is valid. -/
structure ProgOk (l0 : List S73) (l1 : List Int) (first days : Int) : Prop where
  len0 : l0.length ≤ 6
  len1 : l1.length ≤ 3
  f0 : 0 ≤ first
  f1 : first ≤ 40000
  d0 : 1 ≤ days
  d1 : days ≤ 4000
  bud : ∀ n ∈ l1, 0 ≤ n ∧ n ≤ 10000000
  err : ∀ j, j < l0.length → errAt S73.f0 (restProg first) l0 j l0[j]! = 0
theorem progOk {l0 : List S73} {l1 : List Int} {first days : Int} (h : (progF l0 l1 first days).2 = 0) : ProgOk l0 l1 first days := by
  unfold progF at h
  split at h
  · cases h
  split at h
  · cases h
  split at h
  · cases h
  split at h
  · cases h
  split at h
  · cases h
  rename_i h1 h2 h3 h4 h5
  obtain ⟨a0, a1⟩ := outB_false (by simpa using h3)
  obtain ⟨b0, b1⟩ := outB_false (by simpa using h4)
  refine ⟨by omega, by omega, a0, a1, b0, b1, fun n hn => ?_, fun j hj => namedF_ok _ _ (by omega) h j (by omega) hj⟩
  simp only [List.any_eq_true, not_exists, not_and] at h5
  have := h5 n hn
  exact outB_false (by simpa using this)
structure AssetOk (first : Int) (x : S73) : Prop where
  c0 : 0 ≤ x.f1
  c1 : x.f1 ≤ 1000000
  r0 : 0 ≤ x.f2
  r1 : x.f2 ≤ 1000
  h0 : 0 ≤ x.f3
  h1 : x.f3 ≤ 10000000
  l0 : 0 ≤ x.f4
  l1 : x.f4 ≤ first
theorem ProgOk.asset {l0 : List S73} {l1 : List Int} {first days : Int} (h : ProgOk l0 l1 first days) {j : Nat} (hj : j < l0.length) : AssetOk first l0[j]! := by
  have hr := errAt_rest (h.err j hj)
  generalize l0[j]! = x at hr
  unfold restProg at hr
  split at hr
  · cases hr
  rename_i hn
  simp only [Bool.or_eq_true, not_or, Bool.not_eq_true] at hn
  obtain ⟨⟨⟨h1, h2⟩, h3⟩, h4⟩ := hn
  have h1 := outB_false h1
  have h2 := outB_false h2
  have h3 := outB_false h3
  have h4 := outB_false h4
  exact ⟨h1.1, h1.2, h2.1, h2.2, h3.1, h3.2, h4.1, h4.2⟩
/-- The benefit, without the wraps. -/
theorem benV_eq {l0 : List S73} {l1 : List Int} {first days : Int} (h : ProgOk l0 l1 first days) {x : S73} (hx : AssetOk first x) {p : Int} (p0 : 0 ≤ p) (p1 : p ≤ (l1.length : Int) - 1) :
    benV l0 l1 first days x p = Int.tdiv (((l1.length : Int) - p) * days * (first + p * days - x.f4) * (x.f2 * x.f3)) 1000000000 ∧
    0 ≤ ((l1.length : Int) - p) * days ∧ ((l1.length : Int) - p) * days ≤ 12000 ∧ 0 ≤ p * days ∧ p * days ≤ 8000 ∧ 0 ≤ x.f2 * x.f3 ∧ x.f2 * x.f3 ≤ 10000000000 ∧
    0 ≤ ((l1.length : Int) - p) * days * (first + p * days - x.f4) ∧ ((l1.length : Int) - p) * days * (first + p * days - x.f4) ≤ 576000000 ∧
    0 ≤ ((l1.length : Int) - p) * days * (first + p * days - x.f4) * (x.f2 * x.f3) ∧ ((l1.length : Int) - p) * days * (first + p * days - x.f4) * (x.f2 * x.f3) ≤ 5760000000000000000 := by
  have hl := h.len1
  have hd0 := h.d0; have hd1 := h.d1; have hf0 := h.f0; have hf1 := h.f1
  have hr0 := hx.r0; have hr1 := hx.r1; have hh0 := hx.h0; have hh1 := hx.h1; have hl0 := hx.l0; have hl1 := hx.l1
  have m1 := mul_bd (a := (l1.length : Int) - p) (b := days) (A := 3) (B := 4000) (by omega) (by omega) (by omega) hd1
  have m2 := mul_bd (a := p) (b := days) (A := 2) (B := 4000) p0 (by omega) (by omega) hd1
  have m3 := mul_bd (a := x.f2) (b := x.f3) (A := 1000) (B := 10000000) hr0 hr1 hh0 hh1
  have m4 := mul_bd (a := ((l1.length : Int) - p) * days) (b := first + p * days - x.f4) (A := 12000) (B := 48000) m1.1 (by omega) (by omega) (by omega)
  have m5 := mul_bd (a := ((l1.length : Int) - p) * days * (first + p * days - x.f4)) (b := x.f2 * x.f3) (A := 576000000) (B := 10000000000) m4.1 (by omega) m3.1 (by omega)
  refine ⟨?_, m1.1, by omega, m2.1, by omega, m3.1, by omega, m4.1, by omega, m5.1, by omega⟩
  show wrap64 _ = _
  rw [wrap_id (x := (l1.length : Int) - p) (by omega) (by omega), wrap_id (x := ((l1.length : Int) - p) * days) (by omega) (by omega), wrap_id (x := p * days) (by omega) (by omega), wrap_id (x := first + p * days) (by omega) (by omega),
    wrap_id (x := first + p * days - x.f4) (by omega) (by omega), wrap_id (x := ((l1.length : Int) - p) * days * (first + p * days - x.f4)) (by omega) (by omega), wrap_id (x := x.f2 * x.f3) (by omega) (by omega),
    wrap_id (x := ((l1.length : Int) - p) * days * (first + p * days - x.f4) * (x.f2 * x.f3)) (by omega) (by omega)]
  have m5' := m5
  generalize ((l1.length : Int) - p) * days * (first + p * days - x.f4) * (x.f2 * x.f3) = z at m5'
  rw [Int.tdiv_eq_ediv_of_nonneg m5'.1]
  exact wrap_id (by omega) (by omega)
end Go.Proofs.YtfoaglfnnomdkaaGreatDoor.C

/- RoundBenefits: the plain law: the reference's CheckProgramme and benefit are the program's. -/
set_option linter.all false
namespace Go.Proofs.YtfoaglfnnomdkaaGreatDoor.C
open Go.RowKit Go.Proofs.YtfoaglfnnomdkaaGreatDoorW.PrintWords Go.Proofs.YtfoaglfnnomdkaaGreatDoorW.PrintMore

theorem ref_in (n lo hi : Int) : linkboyref11_in.f n lo hi = some (!outB n lo hi) := by
  unfold linkboyref11_in.f outB
  by_cases h : n ≥ lo
  · rw [if_pos h]
    have h1 : ¬ n < lo := by omega
    by_cases h2 : n ≤ hi
    · have h3 : ¬ hi < n := by omega
      simp [h1, h2, h3]
    · have h3 : hi < n := by omega
      simp [h2, h3]
  · rw [if_neg h]
    have h1 : n < lo := by omega
    simp [h1]
theorem bt_at (s : ByteArray) (i : Nat) (h : i < s.size) : bt s (i : Int) = ((s.data.toList.getD i 0).toNat : Int) := by
  unfold bt
  rw [dif_pos (by simpa using h)]
  have hl : i < s.data.toList.length := by simpa using h
  simp only [Int.toNat_natCast]
  rw [List.getD_eq_getElem?_getD, List.getElem?_eq_getElem hl]
  rfl
theorem drop_at (s : ByteArray) (i : Nat) (h : i < s.size) : s.data.toList.drop i = s.data.toList.getD i 0 :: s.data.toList.drop (i + 1) := by
  have : i < s.data.toList.length := by simpa using h
  rw [List.drop_eq_getElem_cons this]
  simp [List.getD, List.getElem?_eq_getElem this]
/-- The bytes behind the first one. -/
theorem ref_name_loop (s : ByteArray) (hs : s.size ≤ 24) : ∀ (d i k : Nat), s.size - i = d → 1 ≤ i → i ≤ s.size → d < k → linkboyref02_Name.l0 k s (i : Int) = some (nameB i (s.data.toList.drop i)) := by
  intro d
  induction d with
  | zero =>
    intro i k hd h1 h2 hk
    obtain ⟨k, rfl⟩ : ∃ m, k = m + 1 := ⟨k - 1, by omega⟩
    obtain rfl : i = s.size := by omega
    simp only [linkboyref02_Name.l0]
    rw [if_neg (by omega), List.drop_of_length_le (by simp)]
    rfl
  | succ d ih =>
    intro i k hd h1 h2 hk
    obtain ⟨k, rfl⟩ : ∃ m, k = m + 1 := ⟨k - 1, by omega⟩
    have hlt : i < s.size := by omega
    have hi0 : (i == 0) = false := by simp; omega
    have hn := ih (i + 1) k (by omega) (by omega) (by omega) (by omega)
    have hw : wrap64 ((i : Int) + 1) = ((i + 1 : Nat) : Int) := by unfold wrap64; omega
    simp only [linkboyref02_Name.l0]
    rw [if_pos (by omega), if_pos (by omega), hw, hn, bt_at s i hlt, drop_at s i hlt, nameB, hi0]
    generalize s.data.toList.getD i 0 = c
    generalize nameB (i + 1) (s.data.toList.drop (i + 1)) = r
    by_cases a1 : 97 ≤ c.toNat <;> by_cases a2 : c.toNat ≤ 122 <;> by_cases a3 : 48 ≤ c.toNat <;> by_cases a4 : c.toNat ≤ 57 <;> by_cases a5 : c.toNat = 45
    all_goals
      first
        | (exfalso; omega)
        | (have b1 : ((c.toNat : Int) ≥ 97) ↔ 97 ≤ c.toNat := by omega
           have b2 : ((c.toNat : Int) ≤ 122) ↔ c.toNat ≤ 122 := by omega
           have b3 : ((c.toNat : Int) ≥ 48) ↔ 48 ≤ c.toNat := by omega
           have b4 : ((c.toNat : Int) ≤ 57) ↔ c.toNat ≤ 57 := by omega
           have b5 : ((c.toNat : Int) = 45) ↔ c.toNat = 45 := by omega
           simp [b1, b2, b3, b4, b5, a1, a2, a3, a4, a5])
theorem ref_name (s : ByteArray) (k : Nat) (hk : 30 ≤ k) : linkboyref02_Name.f k s = some (nameOf s) := by
  obtain ⟨k, rfl⟩ : ∃ m, k = m + 1 := ⟨k - 1, by omega⟩
  unfold linkboyref02_Name.f
  by_cases h0 : s.size = 0
  · rw [if_pos (by omega)]
    simp only [linkboyref02_Name.j0]
    rw [if_pos trivial]
    have he : s.toList = [] := by
      have : s = ByteArray.empty := by
        apply ByteArray.ext
        apply Array.eq_empty_of_size_eq_zero
        exact h0
      rw [this, ByteArray.toList_eq]; rfl
    unfold nameOf
    simp [he]
  rw [if_neg (by omega)]
  by_cases h24 : (s.size : Int) > 24
  · rw [if_pos h24]
    simp only [linkboyref02_Name.j0]
    rw [if_pos trivial]
    unfold nameOf
    have : ¬ (s.size : Int) ≤ 24 := by omega
    simp [this]
  rw [if_neg h24, if_pos (by omega)]
  have hne : s.toList.isEmpty = false := by
    cases hl : s.toList with
    | nil =>
      exfalso
      have : s.toList.length = s.size := by rw [ByteArray.toList_eq, Array.length_toList]; rfl
      rw [hl] at this
      simp at this
      omega
    | cons a l => rfl
  have hb := bt_at s 0 (by omega)
  have hd := drop_at s 0 (by omega)
  rw [List.drop_zero] at hd
  have hnm : nameOf s = nameB 0 s.data.toList := by
    unfold nameOf
    have : (s.size : Int) ≤ 24 := by omega
    simp [hne, this]
  rw [hnm, hd]
  rw [show ((0 : Nat) : Int) = (0 : Int) from rfl] at hb
  rw [hb]
  generalize hc : s.data.toList.getD 0 0 = c at *
  have hloop := ref_name_loop s (by omega)
  have hrest : ∀ k, 28 ≤ k → linkboyref02_Name.l0 k s 0 = if (97 ≤ c.toNat ∧ c.toNat ≤ 122) ∨ (48 ≤ c.toNat ∧ c.toNat ≤ 57) ∨ c.toNat = 45 then some (nameB 1 (s.data.toList.drop 1)) else some false := by
    intro k hk
    obtain ⟨k, rfl⟩ : ∃ m, k = m + 1 := ⟨k - 1, by omega⟩
    have hn := hloop (s.size - 1) 1 k rfl (by omega) (by omega) (by omega)
    have hw : wrap64 ((0 : Int) + 1) = ((1 : Nat) : Int) := by unfold wrap64; omega
    simp only [linkboyref02_Name.l0]
    rw [if_pos (by omega), if_pos (by omega), hw, hn, hb]
    generalize nameB 1 (s.data.toList.drop 1) = r
    by_cases a1 : 97 ≤ c.toNat <;> by_cases a2 : c.toNat ≤ 122 <;> by_cases a3 : 48 ≤ c.toNat <;> by_cases a4 : c.toNat ≤ 57 <;> by_cases a5 : c.toNat = 45
    all_goals
      first
        | (exfalso; omega)
        | (have b1 : ((c.toNat : Int) ≥ 97) ↔ 97 ≤ c.toNat := by omega
           have b2 : ((c.toNat : Int) ≤ 122) ↔ c.toNat ≤ 122 := by omega
           have b3 : ((c.toNat : Int) ≥ 48) ↔ 48 ≤ c.toNat := by omega
           have b4 : ((c.toNat : Int) ≤ 57) ↔ c.toNat ≤ 57 := by omega
           have b5 : ((c.toNat : Int) = 45) ↔ c.toNat = 45 := by omega
           simp [b1, b2, b3, b4, b5, a1, a2, a3, a4, a5])
  rw [nameB]
  by_cases a1 : 97 ≤ c.toNat
  · by_cases a2 : c.toNat ≤ 122
    · rw [if_neg (by omega)]
      have : decide ((c.toNat : Int) > 122) = false := by simp; omega
      rw [this]
      simp only [linkboyref02_Name.j0]
      rw [if_neg (by simp), hrest k (by omega), if_pos (by omega)]
      simp [a1, a2]
    · rw [if_neg (by omega)]
      have : decide ((c.toNat : Int) > 122) = true := by simp; omega
      rw [this]
      simp only [linkboyref02_Name.j0]
      rw [if_pos trivial]
      simp [a2]
  · rw [if_pos (by omega)]
    simp only [linkboyref02_Name.j0]
    rw [if_pos trivial]
    simp [a1]

/-! ### CheckProgramme -/
theorem rd_asset (l : List S73) (i : Nat) : rd_T73 l (i : Int) = l[i]! := by
  unfold rd_T73
  rw [Int.toNat_natCast, List.getElem!_eq_getElem?_getD]
  rfl
theorem rest_of (first : Int) (x : S73) {α : Type} (A B : Option α) :
    ((linkboyref11_in.f x.f1 0 1000000).bind fun t470 => (if t470 = true then ((linkboyref11_in.f x.f2 0 1000).bind fun t471 => (if t471 = true then ((linkboyref11_in.f x.f3 0 10000000).bind fun t472 => (if t472 = true then ((linkboyref11_in.f x.f4 0 first).bind fun t473 => (if t473 = true then A else B)) else B)) else B)) else B)) =
      if restProg first x = 0 then A else B := by
  rw [ref_in, ref_in, ref_in, ref_in]
  unfold restProg
  simp only [Option.bind_some]
  cases outB x.f1 0 1000000 <;> cases outB x.f2 0 1000 <;> cases outB x.f3 0 10000000 <;> cases outB x.f4 0 first <;> simp
theorem restProg_01 (first : Int) (x : S73) : restProg first x = 0 ∨ restProg first x = 7 := by
  unfold restProg; split <;> simp
section
variable (l0 : List S73) (l1 : List Int) (first days : Int)
theorem ref_twins (h6 : l0.length ≤ 6) (i : Nat) (hi : i < l0.length) (x : S73) (R : Int × Int) (hR : ∀ k, 40 ≤ k → True) (N : Nat) (hN : ∀ k, N ≤ k → linkboyref11_CheckProgramme.l1 k ((i + 1 : Nat) : Int) l0 l1 first days = some R) :
    ∀ (d j k : Nat), i - j = d → j ≤ i → N + d < k → linkboyref11_CheckProgramme.l2 k (i : Int) (j : Int) l0 l1 first days x.f0 x.f1 x.f2 x.f3 x.f4 =
      if ((l0.take i).drop j).any (fun y => y.f0.toList == x.f0.toList) = true then some ((i : Int), 5) else if restProg first x = 0 then some R else some ((i : Int), 7) := by
  intro d
  induction d with
  | zero =>
    intro j k hd hj hk
    obtain ⟨k, rfl⟩ : ∃ m, k = m + 1 := ⟨k - 1, by omega⟩
    obtain rfl : j = i := by omega
    have hw : wrap64 ((j : Int) + 1) = ((j + 1 : Nat) : Int) := by unfold wrap64; omega
    simp only [linkboyref11_CheckProgramme.l2]
    rw [if_neg (by omega), rest_of, hw, hN k (by omega), List.drop_of_length_le (by simp; omega)]
    rfl
  | succ d ih =>
    intro j k hd hj hk
    obtain ⟨k, rfl⟩ : ∃ m, k = m + 1 := ⟨k - 1, by omega⟩
    have hw : wrap64 ((j : Int) + 1) = ((j + 1 : Nat) : Int) := by unfold wrap64; omega
    have hlt : j < (l0.take i).length := by simp; omega
    have he : (l0.take i)[j] = l0[j]! := by
      rw [List.getElem_take, List.getElem!_eq_getElem?_getD, List.getElem?_eq_getElem (by omega)]
      rfl
    simp only [linkboyref11_CheckProgramme.l2]
    rw [if_pos (by omega), if_pos (by omega), if_pos (by omega), rd_asset, hw, ih (j + 1) k (by omega) (by omega) (by omega), List.drop_eq_getElem_cons hlt, List.any_cons, he]
    generalize ((l0.take i).drop (j + 1)).any (fun y => y.f0.toList == x.f0.toList) = r
    generalize l0[j]! = y
    by_cases h : y.f0.toList = x.f0.toList
    · rw [if_pos h]; simp [h]
    · rw [if_neg h]; simp [h]
theorem ref_assets (h6 : l0.length ≤ 6) : ∀ (d i k : Nat), i + d = l0.length → 50 * d + 50 ≤ k →
    linkboyref11_CheckProgramme.l1 k (i : Int) l0 l1 first days = some (namedF S73.f0 (restProg first) l0 d i) := by
  intro d
  induction d with
  | zero =>
    intro i k hd hk
    obtain ⟨k, rfl⟩ : ∃ m, k = m + 1 := ⟨k - 1, by omega⟩
    simp only [linkboyref11_CheckProgramme.l1]
    rw [if_neg (by omega)]
    rfl
  | succ d ih =>
    intro i k hd hk
    obtain ⟨k, rfl⟩ : ∃ m, k = m + 1 := ⟨k - 1, by omega⟩
    simp only [linkboyref11_CheckProgramme.l1]
    rw [if_pos (by omega), if_pos (by omega), rd_asset, ref_name _ k (by omega), Option.bind_some, namedF]
    generalize hx : l0[i]! = x
    have hr := restProg_01 first x
    cases hn : nameOf x.f0
    · rw [if_neg (by simp)]
      have he : errAt S73.f0 (restProg first) l0 i x = 6 := by unfold errAt; rw [hn]; rfl
      rw [he]
      rfl
    · rw [if_pos rfl]
      have ht := ref_twins l0 l1 first days h6 i (by omega) x _ (fun _ _ => trivial) (50 * d + 50) (fun k hk => ih (i + 1) k (by omega) hk) i 0 k (by omega) (by omega) (by omega)
      rw [show ((0 : Nat) : Int) = (0 : Int) from rfl, List.drop_zero] at ht
      rw [ht]
      by_cases ha : (l0.take i).any (fun y => y.f0.toList == x.f0.toList) = true
      · have he : errAt S73.f0 (restProg first) l0 i x = 5 := by unfold errAt; rw [hn, if_neg (by simp), if_pos ha]
        rw [if_pos ha, he]
        rfl
      · have he : errAt S73.f0 (restProg first) l0 i x = restProg first x := by unfold errAt; rw [hn, if_neg (by simp), if_neg ha]
        rw [if_neg ha, he]
        by_cases hz : restProg first x = 0
        · rw [if_pos hz, if_pos hz]
        · rw [if_neg hz, if_neg hz]
          rcases hr with hr | hr
          · exact absurd hr hz
          · rw [hr]
theorem ref_budgets (h3 : l1.length ≤ 3) (R : Int × Int) (N : Nat) (hN : ∀ k, N ≤ k → linkboyref11_CheckProgramme.l1 k 0 l0 l1 first days = some R) : ∀ (d i k : Nat) (good : Bool), i + d = l1.length → N + d < k →
    linkboyref11_CheckProgramme.l0 k good (i : Int) l0 l1 first days = if good = true ∧ (l1.drop i).any (fun n => outB n 0 10000000) = false then some R else some (-1, 7) := by
  intro d
  induction d with
  | zero =>
    intro i k good hd hk
    obtain ⟨k, rfl⟩ : ∃ m, k = m + 1 := ⟨k - 1, by omega⟩
    simp only [linkboyref11_CheckProgramme.l0]
    rw [if_neg (by omega), hN k (by omega), List.drop_of_length_le (by omega)]
    cases good <;> simp
  | succ d ih =>
    intro i k good hd hk
    obtain ⟨k, rfl⟩ : ∃ m, k = m + 1 := ⟨k - 1, by omega⟩
    have hw : wrap64 ((i : Int) + 1) = ((i + 1 : Nat) : Int) := by unfold wrap64; omega
    have hlt : i < l1.length := by omega
    have hrd : rd l1 (i : Int) = l1[i] := by
      unfold rd
      rw [Int.toNat_natCast, List.getD_eq_getElem?_getD, List.getElem?_eq_getElem hlt]
      rfl
    rw [List.drop_eq_getElem_cons hlt, List.any_cons]
    cases good
    · simp only [linkboyref11_CheckProgramme.l0]
      rw [if_pos (by omega), if_neg (by simp), hw, ih (i + 1) k _ (by omega) (by omega)]
      simp
    · simp only [linkboyref11_CheckProgramme.l0]
      rw [if_pos (by omega), if_pos trivial, if_pos (by omega), ref_in, Option.bind_some, hw, ih (i + 1) k _ (by omega) (by omega), hrd]
      cases outB l1[i] 0 10000000 <;> simp
theorem ref_check (k : Nat) (hk : 400 ≤ k) : linkboyref11_CheckProgramme.f k l0 l1 first days = some (progF l0 l1 first days) := by
  obtain ⟨k, rfl⟩ : ∃ m, k = m + 2 := ⟨k - 2, by omega⟩
  unfold linkboyref11_CheckProgramme.f progF
  by_cases h6 : 6 < l0.length
  · rw [if_pos (by omega), if_pos h6]
    simp only [linkboyref11_CheckProgramme.j0]
    rw [if_pos trivial]
  rw [if_neg (by omega), if_neg h6]
  by_cases h3 : 3 < l1.length
  · rw [if_pos h3, decide_eq_true (by omega)]
    simp only [linkboyref11_CheckProgramme.j0]
    rw [if_pos trivial]
  rw [if_neg h3, decide_eq_false (by omega)]
  have hA := fun k hk => ref_assets l0 l1 first days (by omega) l0.length 0 k (by omega) hk
  have hB := ref_budgets l0 l1 first days (by omega) (namedF S73.f0 (restProg first) l0 l0.length 0) 350 (fun k hk => hA k (by omega)) l1.length 0
  simp only [linkboyref11_CheckProgramme.j0, linkboyref11_CheckProgramme.j1]
  rw [if_neg (by simp), ref_in, ref_in, Option.bind_some, Option.bind_some]
  have hB1 := hB k
  rw [show ((0 : Nat) : Int) = (0 : Int) from rfl] at hB1
  rw [hB1 _ (by omega) (by omega), hB1 _ (by omega) (by omega), List.drop_zero]
  cases outB first 0 40000 <;> cases outB days 1 4000 <;> cases l1.any (fun n => outB n 0 10000000) <;> simp
theorem ref_benefit (h : (progF l0 l1 first days).2 = 0) (i : Nat) (hi : i < l0.length) (x1 : Int) (p0 : 0 ≤ x1) (p1 : x1 ≤ (l1.length : Int) - 1) : linkboyref11_benefit.f l0 l1 first days (i : Int) x1 = some (benV l0 l1 first days l0[i]! x1) := by
  have ok := progOk h
  have hx := ok.asset hi
  obtain ⟨hben, b1, b2, b3, b4, b5, b6, b7, b8, b9, b10⟩ := benV_eq ok hx p0 p1
  have f0 := ok.f0; have f1 := ok.f1; have d0 := ok.d0; have d1 := ok.d1
  unfold linkboyref11_benefit.f
  rw [if_pos (by omega), if_pos (by omega), rd_asset, hben]
  generalize l0[i]! = x at *
  have hx0 := hx.l0; have hx1 := hx.l1; have hr0 := hx.r0; have hr1 := hx.r1
  have hen : (l1.length : Int) * days = ((l1.length : Int) - x1) * days + x1 * days := by rw [← Int.add_mul]; congr 1; omega
  have m6 := mul_bd (a := ((l1.length : Int) - x1) * days * (first + x1 * days - x.f4)) (b := x.f2) (A := 576000000) (B := 1000) b7 b8 hr0 hr1
  rw [wrap_id (x := x1 * days) (by omega) (by omega), wrap_id (x := first + x1 * days) (by omega) (by omega), wrap_id (x := (l1.length : Int) * days) (by omega) (by omega), wrap_id (x := first + (l1.length : Int) * days) (by omega) (by omega),
    show first + (l1.length : Int) * days - (first + x1 * days) = ((l1.length : Int) - x1) * days by omega, wrap_id (x := ((l1.length : Int) - x1) * days) (by omega) (by omega), wrap_id (x := first + x1 * days - x.f4) (by omega) (by omega),
    wrap_id (x := ((l1.length : Int) - x1) * days * (first + x1 * days - x.f4)) (by omega) (by omega), wrap_id (x := ((l1.length : Int) - x1) * days * (first + x1 * days - x.f4) * x.f2) (by omega) (by omega), Int.mul_assoc (((l1.length : Int) - x1) * days * (first + x1 * days - x.f4)) x.f2 x.f3]
  generalize ((l1.length : Int) - x1) * days * (first + x1 * days - x.f4) * (x.f2 * x.f3) = z at *
  rw [wrap_id (x := z) (by omega) (by omega), Int.tdiv_eq_ediv_of_nonneg b9, wrap_id (by omega) (by omega)]
end
end Go.Proofs.YtfoaglfnnomdkaaGreatDoor.C

/- RoundBenefits: the walk of the law. -/
set_option linter.all false
namespace Go.Proofs.YtfoaglfnnomdkaaGreatDoor.C
open Go.RowKit Go.Shelf Go.Proofs.YtfoaglfnnomdkaaGreatDoorW.PrintWords Go.Proofs.YtfoaglfnnomdkaaGreatDoorW.PrintMore

theorem in_calls (n lo hi : Int) (w : World) : Calls Tryz.prog 78 #[.int .i64 n, .int .i64 lo, .int .i64 hi] w fun e w' => e = .returned (.bool (!outB n lo hi)) ∧ Below w.heap.size w w' :=
  (linkboyref11_in.calls n lo hi (!outB n lo hi) w (ref_in n lo hi)).mono fun _ _ ⟨he, hd⟩ => ⟨he, hd.below⟩
set_option maxRecDepth 100000 in
set_option maxHeartbeats 1000000 in
theorem refBenefit_walk {A0 : Option Addr} {c0 : Nat} {l0 : List S73} {A1 : Option Addr} {c1 : Nat} {l1 : List Int} {first days asset period : Int} {w : World}
    (hr0 : Kd.C k73 w A0 l0.length l0) (hc0 : l0.length ≤ c0) (hr1 : Kd.C (Kd.int .i64) w A1 l1.length l1) (hc1 : l1.length ≤ c1) :
    Calls Tryz.prog 26 #[.agg #[.slice A0 l0.length c0, .slice A1 l1.length c1, .int .i64 first, .int .i64 days], .int .i64 asset, .int .i64 period] w fun e w' =>
      e = .returned (.tuple #[.int .i64 (benefitF l0 l1 first days asset period).1, .int .i64 (benefitF l0 l1 first days asset period).2]) ∧ Below w.heap.size w w' := by
  have hk1 := ref_check l0 l1 first days 400 (by omega)
  generalize hR : benefitF l0 l1 first days asset period = R
  have HR := Lib.hid hR
  have H0 := Lib.hid hr0
  have H1 := Lib.hid hr1
  have hl0 := hr0.2.1
  have hl1 := hr1.2.1
  clear hr0 hr1 hR
  generalize hP : progF l0 l1 first days = P at hk1
  obtain ⟨at_, er⟩ := P
  have HP := Lib.hid hP
  have HK1 := Lib.hid hk1
  clear hP hk1
  go_enter Tryz.func26, Tryz.ntmps26
  go_wp2_with fail
  refine (linkboyref11_CheckProgramme.calls 400 A0 c0 l0 A1 c1 l1 first days at_ er _ (Kd.C_below H0.out ((Below.refl _ _).alloc (Nat.le_refl _) _)) hc0 (Kd.C_below H1.out ((Below.refl _ _).alloc (Nat.le_refl _) _)) hc1 HK1.out).mono ?_
  rintro e w1 ⟨rfl, hb1⟩
  have p0 : w1.cell? ⟨w.heap.size, 0, none⟩ = some (.slice A0 l0.length c0) := keep_cell hb1 (by simp [go_sem])
  have p1 : w1.cell? ⟨w.heap.size, 1, none⟩ = some (.slice A1 l1.length c1) := keep_cell hb1 (by simp [go_sem])
  have p2 : w1.cell? ⟨w.heap.size, 2, none⟩ = some (.int .i64 first) := keep_cell hb1 (by simp [go_sem])
  have p3 : w1.cell? ⟨w.heap.size, 3, none⟩ = some (.int .i64 days) := keep_cell hb1 (by simp [go_sem])
  have HB1 : Hid (Below w.heap.size w w1) := Lib.hid (after ((Below.refl _ _).alloc (Nat.le_refl _) _) hb1)
  clear hb1
  by_cases he : er = 0
  · subst he
    go_wp2_with fail
    refine (in_calls _ _ _ _).mono ?_
    rintro e w2 ⟨rfl, hb2⟩
    replace p0 := keep_cell hb2 p0
    replace p1 := keep_cell hb2 p1
    replace p2 := keep_cell hb2 p2
    replace p3 := keep_cell hb2 p3
    have HB2 : Hid (Below w.heap.size w w2) := Lib.hid (after HB1.out hb2)
    clear hb2 HB1
    cases ho1 : outB asset 0 ((l0.length : Int) - 1)
    · obtain ⟨ha0, ha1⟩ := outB_false ho1
      have HO1 := Lib.hid ho1
      clear ho1
      simp only [Bool.not_false]
      go_wp2_with fail
      refine (in_calls _ _ _ _).mono ?_
      rintro e w3 ⟨rfl, hb3⟩
      replace p0 := keep_cell hb3 p0
      replace p1 := keep_cell hb3 p1
      replace p2 := keep_cell hb3 p2
      replace p3 := keep_cell hb3 p3
      have HB3 : Hid (Below w.heap.size w w3) := Lib.hid (after HB2.out hb3)
      clear hb3 HB2
      cases ho2 : outB period 0 ((l1.length : Int) - 1)
      · obtain ⟨hp0, hp1⟩ := outB_false ho2
        have HO2 := Lib.hid ho2
        clear ho2
        simp only [Bool.not_false]
        obtain ⟨i, rfl⟩ : ∃ i : Nat, asset = (i : Int) := ⟨asset.toNat, by omega⟩
        have hben := ref_benefit l0 l1 first days (by rw [HP.out]) i (by omega) period hp0 hp1
        generalize hbv : benV l0 l1 first days l0[i]! period = bv at hben
        have HBEN := Lib.hid hben
        have HBV := Lib.hid hbv
        clear hben hbv
        go_wp2_with fail
        refine (linkboyref11_benefit.calls A0 c0 l0 A1 c1 l1 first days (i : Int) period _ w3 (Kd.C_below H0.out HB3.out) hc0 (Kd.C_below H1.out HB3.out) hc1 HBEN.out).mono ?_
        rintro e w4 ⟨rfl, hb4⟩
        have HB4 : Hid (Below w.heap.size w w4) := Lib.hid (after HB3.out hb4)
        clear hb4 HB3
        go_wp2_with fail
        go_ret2
        refine ⟨?_, HB4.out⟩
        rw [← HR.out]
        unfold benefitF
        rw [HP.out, if_pos rfl, if_neg (by rw [HO1.out]; simp), if_neg (by rw [HO2.out]; simp), Int.toNat_natCast, HBV.out]
        rfl
      · have HO2 := Lib.hid ho2
        clear ho2
        simp only [Bool.not_true]
        go_wp2_with fail
        go_ret2
        refine ⟨?_, HB3.out⟩
        rw [← HR.out]
        unfold benefitF
        rw [HP.out, if_pos rfl, if_neg (by rw [HO1.out]; simp), if_pos HO2.out]
        rfl
    · have HO1 := Lib.hid ho1
      clear ho1
      simp only [Bool.not_true]
      go_wp2_with fail
      go_ret2
      refine ⟨?_, HB2.out⟩
      rw [← HR.out]
      unfold benefitF
      rw [HP.out, if_pos rfl, if_pos HO1.out]
      rfl
  · go_wp2_with fail
    go_ret2
    refine ⟨?_, HB1.out⟩
    rw [← HR.out]
    unfold benefitF
    rw [HP.out, if_neg he]
    rfl
set_option maxRecDepth 100000 in
set_option maxHeartbeats 1000000 in
theorem benefits_walk {A0 : Option Addr} {c0 : Nat} {l0 : List S73} {A1 : Option Addr} {c1 : Nat} {l1 : List Int} {first days x0 x1 : Int} {w : World} (hG : Glob w)
    (hr0 : Kd.C k73 w A0 l0.length l0) (hc0 : l0.length ≤ c0) (hr1 : Kd.C (Kd.int .i64) w A1 l1.length l1) (hc1 : l1.length ≤ c1) (hs : ∀ x ∈ l0, x.f0.size ≤ 9223372036854775807) :
    Calls Tryz.prog 6 #[.agg #[.slice A0 l0.length c0, .slice A1 l1.length c1, .int .i64 first, .int .i64 days], .agg #[.int .i64 x0, .int .i64 x1]] w fun e w' => e = .returned (.bool true) ∧ Below w.heap.size w w' := by
  have hk1 := ref_check l0 l1 first days 400 (by omega)
  generalize hP : progF l0 l1 first days = P at hk1
  generalize hQ : benefitF l0 l1 first days x0 x1 = Q
  obtain ⟨p, q⟩ := P
  obtain ⟨r, s⟩ := Q
  have HP := Lib.hid hP
  have HQ := Lib.hid hQ
  have H0 := Lib.hid hr0
  have H1 := Lib.hid hr1
  have HS := Lib.hid hs
  have HK1 := Lib.hid hk1
  have HG := Lib.hid hG
  clear hr0 hr1 hs hP hQ hk1 hG
  go_enter Tryz.func6, Tryz.ntmps6
  go_wp2_with fail
  have HB0 : Hid (Below w.heap.size w ((w.alloc (.cells #[.slice A0 l0.length c0, .slice A1 l1.length c1, .int .i64 first, .int .i64 days] 66)).alloc (.cells #[.int .i64 x0, .int .i64 x1] 67))) := Lib.hid (by (repeat (first | (with_reducible exact Below.refl _ _) | (with_reducible assumption) | (with_reducible exact Hid.out (by assumption)) | (with_reducible refine Below.setCell ?_ (by first | (simp; done) | omega | (simp; omega)) _) | (with_reducible refine Below.alloc ?_ (by first | (simp; done) | omega | (simp; omega)) _) | (with_reducible refine Below.drew ?_) | (with_reducible refine pw_below_drewN ?_ _))))
  refine (checkProg_calls (Kd.C_below H0.out HB0.out) hc0 (Kd.C_below H1.out HB0.out) HS.out).mono ?_
  rw [HP.out]
  rintro e w1 ⟨rfl, hb1⟩
  have p0 : w1.cell? ⟨w.heap.size, 0, none⟩ = some (.slice A0 l0.length c0) := keep_cell hb1 (by simp [go_sem])
  have p1 : w1.cell? ⟨w.heap.size, 1, none⟩ = some (.slice A1 l1.length c1) := keep_cell hb1 (by simp [go_sem])
  have p2 : w1.cell? ⟨w.heap.size, 2, none⟩ = some (.int .i64 first) := keep_cell hb1 (by simp [go_sem])
  have p3 : w1.cell? ⟨w.heap.size, 3, none⟩ = some (.int .i64 days) := keep_cell hb1 (by simp [go_sem])
  have y0 : w1.cell? ⟨w.heap.size + 1, 0, none⟩ = some (.int .i64 x0) := keep_cell hb1 (by simp [go_sem])
  have y1 : w1.cell? ⟨w.heap.size + 1, 1, none⟩ = some (.int .i64 x1) := keep_cell hb1 (by simp [go_sem])
  have HB1 : Hid (Below w.heap.size w w1) := Lib.hid (after HB0.out hb1)
  clear hb1 HB0
  go_wp2_with fail
  refine (linkboyref11_CheckProgramme.calls 400 A0 c0 l0 A1 c1 l1 first days p q w1 (Kd.C_below H0.out HB1.out) hc0 (Kd.C_below H1.out HB1.out) hc1 HK1.out).mono ?_
  rintro e w2 ⟨rfl, hb2⟩
  replace p0 := keep_cell hb2 p0
  replace p1 := keep_cell hb2 p1
  replace p2 := keep_cell hb2 p2
  replace p3 := keep_cell hb2 p3
  replace y0 := keep_cell hb2 y0
  replace y1 := keep_cell hb2 y1
  have HB2 : Hid (Below w.heap.size w w2) := Lib.hid (after HB1.out hb2)
  clear hb2 HB1
  have e1 : (p == p) = true := by simp
  have e2 : (q == q) = true := by simp
  go_wp2_with fail
  refine (benefit_walk (Kd.C_below H0.out HB2.out) hc0 (Kd.C_below H1.out HB2.out) hc1 HS.out).mono ?_
  rw [HQ.out]
  rintro e w3 ⟨rfl, hb3⟩
  replace p0 := keep_cell hb3 p0
  replace p1 := keep_cell hb3 p1
  replace p2 := keep_cell hb3 p2
  replace p3 := keep_cell hb3 p3
  replace y0 := keep_cell hb3 y0
  replace y1 := keep_cell hb3 y1
  have HB3 : Hid (Below w.heap.size w w3) := Lib.hid (after HB2.out hb3)
  clear hb3 HB2
  go_wp2_with fail
  refine (refBenefit_walk (Kd.C_below H0.out HB3.out) hc0 (Kd.C_below H1.out HB3.out) hc1).mono ?_
  rw [HQ.out]
  rintro e w4 ⟨rfl, hb4⟩
  have HB4 : Hid (Below w.heap.size w w4) := Lib.hid (after HB3.out hb4)
  clear hb4 HB3 p0 p1 p2 p3 y0 y1
  go_wp2_with fail
  refine (awake_calls _ (glob_below HG.out HB4.out)).mono ?_
  rintro e w5 ⟨rfl, hb5⟩
  have HB5 : Hid (Below w.heap.size w w5) := Lib.hid (after HB4.out hb5)
  clear hb5 HB4
  go_wp2_with fail
  go_ret
  exact ⟨rfl, HB5.out⟩
end Go.Proofs.YtfoaglfnnomdkaaGreatDoor.C
