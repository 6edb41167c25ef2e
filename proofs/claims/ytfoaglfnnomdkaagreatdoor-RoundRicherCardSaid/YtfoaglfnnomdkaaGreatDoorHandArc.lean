/- The sun of the examples: angle.Arccos, reckoned out. (The numbers are printed by wip/tools/sunprint: suncalc.py.) -/
import Derived.Test.YtfoaglfnnomdkaaGreatDoorHandSine
import Derived.Test.YtfoaglfnnomdkaaGreatDoorPackB
set_option linter.all false
namespace Go.Proofs.YtfoaglfnnomdkaaGreatDoor.C
open Go.RowKit Go.Ev Go.Proofs.YtfoaglfnnomdkaaGreatDoorW.PrintWords Go.Proofs.YtfoaglfnnomdkaaGreatDoorW.PrintMore

theorem mixed_prog : Tryz.prog.follows .mixedOrders = true := by kernel_rfl
noncomputable def sineV (args : List Value) : Option Value :=
  match args with
  | [.int .i64 a] => match angle_sine.f a with
    | some p => some (.agg #[.int .i64 p.1, .int .i64 p.2])
    | none => none
  | _ => none
noncomputable def sineI : Intr := putIntr 179 sineV noIntr
theorem sineI_ok : IntrOK Tryz.prog sineI := putIntr_ok (noIntr_ok _) fun args v h => by
  unfold sineV at h
  split at h
  · rename_i a
    cases hf : angle_sine.f a with
    | none => rw [hf] at h; cases h
    | some p =>
      rw [hf] at h
      cases h
      exact ⟨rfl, rfl, fun w => angle_sine.calls a p.1 p.2 w hf⟩
  · cases h
theorem arc0 : closedB Tryz.prog sineI 50000 157 [.agg #[.int .i64 (-231098), .int .i64 147249]] (.tuple #[.agg #[.int .i64 89915632, .int .i64 90132410], .int .i64 0]) = true := by kernel_rfl
theorem arc1 : closedB Tryz.prog sineI 50000 157 [.agg #[.int .i64 (-1570737), .int .i64 (-1396218)]] (.tuple #[.agg #[.int .i64 90799999, .int .i64 90900004], .int .i64 0]) = true := by kernel_rfl
theorem arc2 : closedB Tryz.prog sineI 50000 157 [.agg #[.int .i64 (-47084), .int .i64 (-32851)]] (.tuple #[.agg #[.int .i64 90018822, .int .i64 90026978], .int .i64 0]) = true := by kernel_rfl
theorem arc3 : closedB Tryz.prog sineI 50000 157 [.agg #[.int .i64 (-1570733), .int .i64 (-1396218)]] (.tuple #[.agg #[.int .i64 90799999, .int .i64 90900001], .int .i64 0]) = true := by kernel_rfl
theorem arc4 : closedB Tryz.prog sineI 50000 157 [.agg #[.int .i64 (-47027), .int .i64 (-32899)]] (.tuple #[.agg #[.int .i64 90018849, .int .i64 90026945], .int .i64 0]) = true := by kernel_rfl
end Go.Proofs.YtfoaglfnnomdkaaGreatDoor.C
