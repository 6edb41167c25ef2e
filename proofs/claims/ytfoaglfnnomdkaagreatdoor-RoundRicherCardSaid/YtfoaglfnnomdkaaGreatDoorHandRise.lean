/- sun.Rise and sun.Set at the city and the day of the examples. -/
import Derived.Test.YtfoaglfnnomdkaaGreatDoorHandSky2
set_option linter.all false
namespace Go.Proofs.YtfoaglfnnomdkaaGreatDoor.C
open Go.RowKit Go.Ev Go.Proofs.YtfoaglfnnomdkaaGreatDoorW.PrintWords Go.Proofs.YtfoaglfnnomdkaaGreatDoorW.PrintMore
theorem sun0 : closedB Tryz.prog skyI 50000 83 [.agg #[.int .i64 0, .int .i64 0, .int .i64 0, .int .i64 (-900000), .int .i64 (-800000)], .int .i64 79] (.tuple #[.int .i64 0, .agg #[.int .i64 21829, .int .i64 21859], .int .i64 0]) = true := by kernel_rfl
theorem sun1 : closedB Tryz.prog skyI 50000 84 [.agg #[.int .i64 0, .int .i64 0, .int .i64 0, .int .i64 (-900000), .int .i64 (-800000)], .int .i64 79] (.tuple #[.int .i64 0, .agg #[.int .i64 65428, .int .i64 65458], .int .i64 0]) = true := by kernel_rfl
noncomputable def sunI : Intr := (addIntr 84 [.agg #[.int .i64 0, .int .i64 0, .int .i64 0, .int .i64 (-900000), .int .i64 (-800000)], .int .i64 79] (.tuple #[.int .i64 0, .agg #[.int .i64 65428, .int .i64 65458], .int .i64 0]) (addIntr 83 [.agg #[.int .i64 0, .int .i64 0, .int .i64 0, .int .i64 (-900000), .int .i64 (-800000)], .int .i64 79] (.tuple #[.int .i64 0, .agg #[.int .i64 21829, .int .i64 21859], .int .i64 0]) noIntr))
theorem sunI_ok : IntrOK Tryz.prog sunI := (addIntr_ok mixed_prog (addIntr_ok mixed_prog (noIntr_ok _) skyI_ok sun0) skyI_ok sun1)
end Go.Proofs.YtfoaglfnnomdkaaGreatDoor.C
