/- linkboylaw11.Awake: it returns true wherever the variable round.never reads as laid. -/
import Derived.Test.YtfoaglfnnomdkaaGreatDoorHandRise
set_option linter.all false
namespace Go.Proofs.YtfoaglfnnomdkaaGreatDoor.C
open Go.RowKit Go.Ev Go.Proofs.YtfoaglfnnomdkaaGreatDoorW.PrintWords Go.Proofs.YtfoaglfnnomdkaaGreatDoorW.PrintMore
/-- The variable round.never (global 0) reads as it was laid. -/
def Glob (w : World) : Prop := ∃ fz, w.heap[0]? = some (.cells #[.int .i64 1, .int .i64 0] 60 fz)
theorem glob_below {w w' : World} (h : Glob w) (hb : Below w.heap.size w w') : Glob w' := by
  obtain ⟨fz, h⟩ := h
  have h0 : 0 < w.heap.size := (Array.getElem?_eq_some_iff.1 h).1
  exact ⟨fz, (hb.block 0 h0).trans h⟩
theorem awake_run : closedB0 Tryz.prog 40 sunI 100000 [.int .i64 1, .int .i64 0] 60 17 [] (.bool true) = true := by kernel_rfl
theorem awake_calls (w : World) (hG : Glob w) : Calls Tryz.prog 17 #[] w fun e w' => e = .returned (.bool true) ∧ Below w.heap.size w w' :=
  closedB0_calls mixed_prog sunI_ok awake_run w hG
def linkboylaw11_Awake.f : Option Bool := some true
theorem linkboylaw11_Awake.calls (r : Bool) (w : World) (hG : Glob w) (h : linkboylaw11_Awake.f = some r) :
    Calls Tryz.prog 17 #[] w fun e w' => e = .returned (.bool r) ∧ Below w.heap.size w w' := by
  cases h; exact awake_calls w hG
end Go.Proofs.YtfoaglfnnomdkaaGreatDoor.C
