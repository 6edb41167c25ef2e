/- sun.skyOf at the spans of the examples. -/
import Derived.Test.YtfoaglfnnomdkaaGreatDoorHandArc2
set_option linter.all false
namespace Go.Proofs.YtfoaglfnnomdkaaGreatDoor.C
open Go.RowKit Go.Ev Go.Proofs.YtfoaglfnnomdkaaGreatDoorW.PrintWords Go.Proofs.YtfoaglfnnomdkaaGreatDoorW.PrintMore
theorem sky0 : closedB Tryz.prog arcI 50000 150 [.agg #[.int .i64 6781200, .int .i64 6826800]] (.agg #[.int .i64 (-231098), .int .i64 147249, .int .i64 99999732, .int .i64 100000000, .int .i64 (-1902708), .int .i64 (-1829004)]) = true := by kernel_rfl
theorem sky1 : closedB Tryz.prog arcI 50000 150 [.agg #[.int .i64 6804222, .int .i64 6804265]] (.agg #[.int .i64 (-47084), .int .i64 (-32851), .int .i64 99999988, .int .i64 99999995, .int .i64 (-1876589), .int .i64 (-1854741)]) = true := by kernel_rfl
theorem sky2 : closedB Tryz.prog arcI 50000 150 [.agg #[.int .i64 6804229, .int .i64 6804259]] (.agg #[.int .i64 (-47027), .int .i64 (-32899), .int .i64 99999988, .int .i64 99999995, .int .i64 (-1876582), .int .i64 (-1854749)]) = true := by kernel_rfl
end Go.Proofs.YtfoaglfnnomdkaaGreatDoor.C
