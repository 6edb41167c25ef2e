/- lamp.Name: whether a string is a name. -/
import Derived.Test.YtfoaglfnnomdkaaGreatDoorHandKit
import Derived.Shelf.Abstract
import Derived.LoopTactic
import Derived.Lib.ConvBytes
set_option linter.all false
namespace Go.Proofs.YtfoaglfnnomdkaaGreatDoor.C
open Go.RowKit Go.Shelf Go.Proofs.YtfoaglfnnomdkaaGreatDoorW.PrintWords Go.Proofs.YtfoaglfnnomdkaaGreatDoorW.PrintMore

/-- No byte of the row tells against a name; the first of them stands at i. -/
def nameB : Nat → List UInt8 → Bool
  | _, [] => true
  | i, c :: l => (decide (97 ≤ c.toNat ∧ c.toNat ≤ 122) || (!(i == 0) && (decide (48 ≤ c.toNat ∧ c.toNat ≤ 57) || c.toNat == 45))) && nameB (i + 1) l
def nameOf (s : ByteArray) : Bool := nameB 0 s.data.toList && (!s.toList.isEmpty && decide ((s.size : Int) ≤ 24))

set_option maxRecDepth 100000 in
set_option maxHeartbeats 400000 in
theorem name_walk (s : ByteArray) (w : World) (hs : s.size ≤ 9223372036854775807) :
    Calls Tryz.prog 110 #[.string s] w fun e w' => e = .returned (.bool (nameOf s)) ∧ Below w.heap.size w w' := by
  go_enter Tryz.func110, Tryz.ntmps110
  go_wp2_with fail
  rw [Go.Lib.run_convert_string_bytes w 9 196 5 s Tryz.underlying9 Tryz.underlying196 Tryz.underlying5]
  have HB : Below w.heap.size w (Go.Lib.bytesWorld w 5 s) := ⟨rfl, rfl, rfl, by rw [Go.Lib.bytesWorld_size]; omega, fun k hk => Go.Lib.bytesWorld_at_old w 5 s k hk⟩
  have HC := Go.Lib.bytesWorld_cell w 5 s
  have HZ := Go.Lib.bytesWorld_size w 5 s
  generalize Go.Lib.bytesWorld w 5 s = W1 at *
  generalize grownCap w s.size 0 5 = cp at *
  replace HB := Lib.hid HB
  replace HC := Lib.hid HC
  go_wp2_with fail
  go_loopw [9] (fun v wr => ∃ i : Nat, i ≤ s.size ∧ v = .int .i64 (i : Int) ∧ Hid (nameB i (s.data.toList.drop i) = nameB 0 s.data.toList) ∧ wr = W1) (fun v _ => s.size - (intOf v).toNat)
  case atStart => exact ⟨0, Nat.zero_le _, rfl, Lib.hid (by simp), rfl⟩
  case round =>
    obtain ⟨i, hi, rfl, hN, rfl⟩ := hrel
    by_cases hlt : i < s.size
    · have hc := HC.out i hlt
      have hl : (i : Int) < (s.size : Int) := by omega
      have hdrop : s.data.toList.drop i = s.data.toList.getD i 0 :: s.data.toList.drop (i + 1) := by
        have : i < s.data.toList.length := by simpa using hlt
        rw [List.drop_eq_getElem_cons this]
        simp [List.getD, List.getElem?_eq_getElem this]
      have hn := hN.out
      rw [hdrop, nameB] at hn
      have HN := Lib.hid hn
      clear hn hN hdrop
      generalize s.data.toList.getD i 0 = c at *
      go_wp2_with fail
      all_goals (try simp only [Bool.not_eq_true', Bool.not_eq_false', decide_eq_true_eq, decide_eq_false_iff_not, beq_iff_eq, bne_iff_ne, ne_eq, beq_eq_false_iff_ne, bne_eq_false_iff_eq] at *)
      all_goals first
        | (exfalso; omega)
        | (go_ret; refine ⟨?_, HB.out⟩
           have hg : (decide (97 ≤ c.toNat ∧ c.toNat ≤ 122) || !i == 0 && (decide (48 ≤ c.toNat ∧ c.toNat ≤ 57) || c.toNat == 45)) = false := by
             simp only [Bool.or_eq_false_iff, Bool.and_eq_false_iff, decide_eq_false_iff_not, Bool.not_eq_false', beq_iff_eq, beq_eq_false_iff_ne, ne_eq]; omega
           have hn := HN.out
           rw [hg, Bool.false_and] at hn
           unfold nameOf; rw [← hn]; rfl)
        | (have hg : (decide (97 ≤ c.toNat ∧ c.toNat ≤ 122) || !i == 0 && (decide (48 ≤ c.toNat ∧ c.toNat ≤ 57) || c.toNat == 45)) = true := by
             simp only [Bool.or_eq_true, Bool.and_eq_true, decide_eq_true_eq, Bool.not_eq_true', beq_iff_eq, beq_eq_false_iff_ne, ne_eq]; omega
           have hn := HN.out
           rw [hg, Bool.true_and] at hn
           exact ⟨⟨i + 1, by omega, by first | rfl | (simp; done) | (simp; omega), Lib.hid hn, trivial⟩, by simp [intOf]; omega⟩)
    · have hie : i = s.size := by omega
      subst hie
      have hn := hN.out
      rw [List.drop_of_length_le (by simp)] at hn
      have HN := Lib.hid hn
      clear hn hN
      go_wp2_with fail
      all_goals
        rename_i he
        go_ret
        refine ⟨?_, HB.out⟩
        have hn := HN.out
        unfold nameOf
        rw [← hn]
        simp [nameB, he]
def lamp_Name.f (s : ByteArray) : Option Bool := if s.size ≤ 9223372036854775807 then some (nameOf s) else none
theorem lamp_Name.calls (a0 : ByteArray) (r : Bool) (w : World) (h : lamp_Name.f a0 = some r) :
    Calls Tryz.prog 110 #[.string a0] w fun e w' => e = .returned (.bool r) ∧ Below w.heap.size w w' := by
  unfold lamp_Name.f at h
  split at h
  · rename_i hs
    cases h
    exact name_walk a0 w hs
  · cases h
end Go.Proofs.YtfoaglfnnomdkaaGreatDoor.C
