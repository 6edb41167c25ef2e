/-
  NARROWER THAN 'FOR EVERY INPUT', by the rows' own cells (each row's printed sentence says how): RoundBest: laid · RoundEarlier: laid · RoundMore: laid · RoundBenefits: laid · RoundAvoids: laid · RoundKeeps: laid · RoundChooses: laid · RoundRicher: laid · RoundCarries: laid · RoundEnough: laid · RoundBounds: laid · RoundInserted: laid · RoundKnown: laid.
  DERIVED. THE GIVEN ROWS OF THIS SEAT. 13 by the template 'for every input the law returns true; each argument reads behind the call as it read before'; 0 by the template 'total and deterministic' (their statements: YtfoaglfnnomdkaaGreatDoorTotals.lean).
  GIVEN WITH THE SEED: the statements are not yours to turn. If you find one false, say at which input.
  Laid BY PROGRAM, IN A SANDBOX (cutbox-rows.mjs): the forced cells as the released guide's own fill.sh prints them over the translation aeae353829f38e11… (all of the seat's roots in one cut). By AI agents, Wed Nov 11 2026. No macro, syntax, notation, axiom, sorry.
-/
import Derived.Test.YtfoaglfnnomdkaaGreatDoorChecked
import GoSem.Claim
import GoSem.ClaimJoined
import GoSem.ClaimMapViews
import Derived.JoinedTies
import Derived.KernelRfl
namespace Go.Proofs.YtfoaglfnnomdkaaGreatDoor
/- THE CELL 'sum', in the pinned program and in every row, IS THE sha256 OF THE DUMP (.gsa) THAT YtfoaglfnnomdkaaGreatDoorProg.lean LOADS. Nothing in Lean hashes anything: it is a label: what it is worth is what the hold of that sum in a sandbox is worth. -/
noncomputable def Tryz.pinned : Pinned := { name := "ytfoaglfnnomdkaagreatdoor", sum := "aeae353829f38e11617fa1cea479f499fa242e7aaf2b22bd840f1f0139845ab2", checked := Tryz.checked }
namespace Rows
def none {H : Type} : Left H := { results := [], args := [] }

/- WHAT THE LISTED PACKAGE-LEVEL VARIABLES READ AS WHEN THE CALL BEGINS. Each datum BY PROGRAM (the guide's laid-datum.mjs) off the statement by which the dump's own 'gosem.cut.vars' lays the variable. In a bare row this is a premise. The card (YtfoaglfnnomdkaaGreatDoorCards.lean) ties it to the program's text. -/
def laid_linkboy_round_never {H : Type} : DataW H := .agg [.lit (.int .i64 1), .lit (.int .i64 0)]

/-- 'linkboylaw11.RoundBest': WHATEVER THE INPUT: true; the input reads as it did. -/
def roundBestSpec : ChangeSpec := { name := "roundBest", fn := fun _ => fun
  | [d1, d2] => { results := [.lit (.bool true)], args := [d1, d2] }
  | _ => none }
def roundBestRow : OpenClaim := { program := "ytfoaglfnnomdkaagreatdoor", sum := "aeae353829f38e11617fa1cea479f499fa242e7aaf2b22bd840f1f0139845ab2", func := "linkboy/linkboylaw11.RoundBest", spec := "roundBest", inPlace := ["math/bits.Add64", "math/bits.Sub64"], unfollowed := true, recurses := true, named := ["linkboy/round.never", "math/bits.divideError", "math/bits.overflowError"], plainKeys := false, apart := false, laid := [("linkboy/round.never", laid_linkboy_round_never)] }
def RoundBestSaid : Prop := roundBestRow.holds Tryz.pinned (OpenSpec.ofChange roundBestSpec)

/-- ITS FALSE NEIGHBOUR: 'it returns false'. Refute it at one input. -/
def roundBestWrong : ChangeSpec := { name := "roundBest", fn := fun _ => fun
  | [d1, d2] => { results := [.lit (.bool false)], args := [d1, d2] }
  | _ => none }
def RoundBestWrongFalsely : Prop := roundBestRow.holds Tryz.pinned (OpenSpec.ofChange roundBestWrong)

/-- 'linkboylaw11.RoundEarlier': WHATEVER THE INPUT: true; the input reads as it did. -/
def roundEarlierSpec : ChangeSpec := { name := "roundEarlier", fn := fun _ => fun
  | [d1, d2, d3] => { results := [.lit (.bool true)], args := [d1, d2, d3] }
  | _ => none }
def roundEarlierRow : OpenClaim := { program := "ytfoaglfnnomdkaagreatdoor", sum := "aeae353829f38e11617fa1cea479f499fa242e7aaf2b22bd840f1f0139845ab2", func := "linkboy/linkboylaw11.RoundEarlier", spec := "roundEarlier", inPlace := ["math/bits.Add64", "math/bits.Sub64"], unfollowed := true, recurses := true, named := ["linkboy/round.never", "math/bits.divideError", "math/bits.overflowError"], plainKeys := false, apart := false, laid := [("linkboy/round.never", laid_linkboy_round_never)] }
def RoundEarlierSaid : Prop := roundEarlierRow.holds Tryz.pinned (OpenSpec.ofChange roundEarlierSpec)

/-- ITS FALSE NEIGHBOUR: 'it returns false'. Refute it at one input. -/
def roundEarlierWrong : ChangeSpec := { name := "roundEarlier", fn := fun _ => fun
  | [d1, d2, d3] => { results := [.lit (.bool false)], args := [d1, d2, d3] }
  | _ => none }
def RoundEarlierWrongFalsely : Prop := roundEarlierRow.holds Tryz.pinned (OpenSpec.ofChange roundEarlierWrong)

/-- 'linkboylaw11.RoundMore': WHATEVER THE INPUT: true; the input reads as it did. -/
def roundMoreSpec : ChangeSpec := { name := "roundMore", fn := fun _ => fun
  | [d1, d2] => { results := [.lit (.bool true)], args := [d1, d2] }
  | _ => none }
def roundMoreRow : OpenClaim := { program := "ytfoaglfnnomdkaagreatdoor", sum := "aeae353829f38e11617fa1cea479f499fa242e7aaf2b22bd840f1f0139845ab2", func := "linkboy/linkboylaw11.RoundMore", spec := "roundMore", inPlace := ["math/bits.Add64", "math/bits.Sub64"], unfollowed := true, recurses := true, named := ["linkboy/round.never", "math/bits.divideError", "math/bits.overflowError"], plainKeys := false, apart := false, laid := [("linkboy/round.never", laid_linkboy_round_never)] }
def RoundMoreSaid : Prop := roundMoreRow.holds Tryz.pinned (OpenSpec.ofChange roundMoreSpec)

/-- ITS FALSE NEIGHBOUR: 'it returns false'. Refute it at one input. -/
def roundMoreWrong : ChangeSpec := { name := "roundMore", fn := fun _ => fun
  | [d1, d2] => { results := [.lit (.bool false)], args := [d1, d2] }
  | _ => none }
def RoundMoreWrongFalsely : Prop := roundMoreRow.holds Tryz.pinned (OpenSpec.ofChange roundMoreWrong)

/-- 'linkboylaw11.RoundBenefits': WHATEVER THE INPUT: true; the input reads as it did. -/
def roundBenefitsSpec : ChangeSpec := { name := "roundBenefits", fn := fun _ => fun
  | [d1, d2] => { results := [.lit (.bool true)], args := [d1, d2] }
  | _ => none }
def roundBenefitsRow : OpenClaim := { program := "ytfoaglfnnomdkaagreatdoor", sum := "aeae353829f38e11617fa1cea479f499fa242e7aaf2b22bd840f1f0139845ab2", func := "linkboy/linkboylaw11.RoundBenefits", spec := "roundBenefits", inPlace := ["math/bits.Add64", "math/bits.Sub64"], unfollowed := true, recurses := true, named := ["linkboy/round.never", "math/bits.divideError", "math/bits.overflowError"], plainKeys := false, apart := false, laid := [("linkboy/round.never", laid_linkboy_round_never)] }
def RoundBenefitsSaid : Prop := roundBenefitsRow.holds Tryz.pinned (OpenSpec.ofChange roundBenefitsSpec)

/-- ITS FALSE NEIGHBOUR: 'it returns false'. Refute it at one input. -/
def roundBenefitsWrong : ChangeSpec := { name := "roundBenefits", fn := fun _ => fun
  | [d1, d2] => { results := [.lit (.bool false)], args := [d1, d2] }
  | _ => none }
def RoundBenefitsWrongFalsely : Prop := roundBenefitsRow.holds Tryz.pinned (OpenSpec.ofChange roundBenefitsWrong)

/-- 'linkboylaw11.RoundAvoids': WHATEVER THE INPUT: true; the input reads as it did. -/
def roundAvoidsSpec : ChangeSpec := { name := "roundAvoids", fn := fun _ => fun
  | [d1, d2, d3] => { results := [.lit (.bool true)], args := [d1, d2, d3] }
  | _ => none }
def roundAvoidsRow : OpenClaim := { program := "ytfoaglfnnomdkaagreatdoor", sum := "aeae353829f38e11617fa1cea479f499fa242e7aaf2b22bd840f1f0139845ab2", func := "linkboy/linkboylaw11.RoundAvoids", spec := "roundAvoids", inPlace := ["math/bits.Add64", "math/bits.Sub64"], unfollowed := true, recurses := true, named := ["linkboy/round.never", "math/bits.divideError", "math/bits.overflowError"], plainKeys := false, apart := false, laid := [("linkboy/round.never", laid_linkboy_round_never)] }
def RoundAvoidsSaid : Prop := roundAvoidsRow.holds Tryz.pinned (OpenSpec.ofChange roundAvoidsSpec)

/-- ITS FALSE NEIGHBOUR: 'it returns false'. Refute it at one input. -/
def roundAvoidsWrong : ChangeSpec := { name := "roundAvoids", fn := fun _ => fun
  | [d1, d2, d3] => { results := [.lit (.bool false)], args := [d1, d2, d3] }
  | _ => none }
def RoundAvoidsWrongFalsely : Prop := roundAvoidsRow.holds Tryz.pinned (OpenSpec.ofChange roundAvoidsWrong)

/-- 'linkboylaw11.RoundKeeps': WHATEVER THE INPUT: true; the input reads as it did. -/
def roundKeepsSpec : ChangeSpec := { name := "roundKeeps", fn := fun _ => fun
  | [d1, d2] => { results := [.lit (.bool true)], args := [d1, d2] }
  | _ => none }
def roundKeepsRow : OpenClaim := { program := "ytfoaglfnnomdkaagreatdoor", sum := "aeae353829f38e11617fa1cea479f499fa242e7aaf2b22bd840f1f0139845ab2", func := "linkboy/linkboylaw11.RoundKeeps", spec := "roundKeeps", inPlace := ["math/bits.Add64", "math/bits.Sub64"], unfollowed := true, recurses := true, named := ["linkboy/round.never", "math/bits.divideError", "math/bits.overflowError"], plainKeys := false, apart := false, laid := [("linkboy/round.never", laid_linkboy_round_never)] }
def RoundKeepsSaid : Prop := roundKeepsRow.holds Tryz.pinned (OpenSpec.ofChange roundKeepsSpec)

/-- ITS FALSE NEIGHBOUR: 'it returns false'. Refute it at one input. -/
def roundKeepsWrong : ChangeSpec := { name := "roundKeeps", fn := fun _ => fun
  | [d1, d2] => { results := [.lit (.bool false)], args := [d1, d2] }
  | _ => none }
def RoundKeepsWrongFalsely : Prop := roundKeepsRow.holds Tryz.pinned (OpenSpec.ofChange roundKeepsWrong)

/-- 'linkboylaw11.RoundChooses': WHATEVER THE INPUT: true; the input reads as it did. -/
def roundChoosesSpec : ChangeSpec := { name := "roundChooses", fn := fun _ => fun
  | [d1, d2] => { results := [.lit (.bool true)], args := [d1, d2] }
  | _ => none }
def roundChoosesRow : OpenClaim := { program := "ytfoaglfnnomdkaagreatdoor", sum := "aeae353829f38e11617fa1cea479f499fa242e7aaf2b22bd840f1f0139845ab2", func := "linkboy/linkboylaw11.RoundChooses", spec := "roundChooses", inPlace := ["math/bits.Add64", "math/bits.Sub64"], unfollowed := true, recurses := true, named := ["linkboy/round.never", "math/bits.divideError", "math/bits.overflowError"], plainKeys := false, apart := false, laid := [("linkboy/round.never", laid_linkboy_round_never)] }
def RoundChoosesSaid : Prop := roundChoosesRow.holds Tryz.pinned (OpenSpec.ofChange roundChoosesSpec)

/-- ITS FALSE NEIGHBOUR: 'it returns false'. Refute it at one input. -/
def roundChoosesWrong : ChangeSpec := { name := "roundChooses", fn := fun _ => fun
  | [d1, d2] => { results := [.lit (.bool false)], args := [d1, d2] }
  | _ => none }
def RoundChoosesWrongFalsely : Prop := roundChoosesRow.holds Tryz.pinned (OpenSpec.ofChange roundChoosesWrong)

/-- 'linkboylaw11.RoundRicher': WHATEVER THE INPUT: true; the input reads as it did. -/
def roundRicherSpec : ChangeSpec := { name := "roundRicher", fn := fun _ => fun
  | [d1, d2, d3] => { results := [.lit (.bool true)], args := [d1, d2, d3] }
  | _ => none }
def roundRicherRow : OpenClaim := { program := "ytfoaglfnnomdkaagreatdoor", sum := "aeae353829f38e11617fa1cea479f499fa242e7aaf2b22bd840f1f0139845ab2", func := "linkboy/linkboylaw11.RoundRicher", spec := "roundRicher", inPlace := ["math/bits.Add64", "math/bits.Sub64"], unfollowed := true, recurses := true, named := ["linkboy/round.never", "math/bits.divideError", "math/bits.overflowError"], plainKeys := false, apart := false, laid := [("linkboy/round.never", laid_linkboy_round_never)] }
def RoundRicherSaid : Prop := roundRicherRow.holds Tryz.pinned (OpenSpec.ofChange roundRicherSpec)

/-- ITS FALSE NEIGHBOUR: 'it returns false'. Refute it at one input. -/
def roundRicherWrong : ChangeSpec := { name := "roundRicher", fn := fun _ => fun
  | [d1, d2, d3] => { results := [.lit (.bool false)], args := [d1, d2, d3] }
  | _ => none }
def RoundRicherWrongFalsely : Prop := roundRicherRow.holds Tryz.pinned (OpenSpec.ofChange roundRicherWrong)

/-- 'linkboylaw11.RoundCarries': WHATEVER THE INPUT: true; the input reads as it did. -/
def roundCarriesSpec : ChangeSpec := { name := "roundCarries", fn := fun _ => fun
  | [d1, d2] => { results := [.lit (.bool true)], args := [d1, d2] }
  | _ => none }
def roundCarriesRow : OpenClaim := { program := "ytfoaglfnnomdkaagreatdoor", sum := "aeae353829f38e11617fa1cea479f499fa242e7aaf2b22bd840f1f0139845ab2", func := "linkboy/linkboylaw11.RoundCarries", spec := "roundCarries", inPlace := ["math/bits.Add64", "math/bits.Sub64"], unfollowed := true, recurses := true, named := ["linkboy/round.never", "math/bits.divideError", "math/bits.overflowError"], plainKeys := false, apart := false, laid := [("linkboy/round.never", laid_linkboy_round_never)] }
def RoundCarriesSaid : Prop := roundCarriesRow.holds Tryz.pinned (OpenSpec.ofChange roundCarriesSpec)

/-- ITS FALSE NEIGHBOUR: 'it returns false'. Refute it at one input. -/
def roundCarriesWrong : ChangeSpec := { name := "roundCarries", fn := fun _ => fun
  | [d1, d2] => { results := [.lit (.bool false)], args := [d1, d2] }
  | _ => none }
def RoundCarriesWrongFalsely : Prop := roundCarriesRow.holds Tryz.pinned (OpenSpec.ofChange roundCarriesWrong)

/-- 'linkboylaw11.RoundEnough': WHATEVER THE INPUT: true; the input reads as it did. -/
def roundEnoughSpec : ChangeSpec := { name := "roundEnough", fn := fun _ => fun
  | [d1, d2] => { results := [.lit (.bool true)], args := [d1, d2] }
  | _ => none }
def roundEnoughRow : OpenClaim := { program := "ytfoaglfnnomdkaagreatdoor", sum := "aeae353829f38e11617fa1cea479f499fa242e7aaf2b22bd840f1f0139845ab2", func := "linkboy/linkboylaw11.RoundEnough", spec := "roundEnough", inPlace := ["math/bits.Add64", "math/bits.Sub64"], unfollowed := true, recurses := true, named := ["linkboy/round.never", "math/bits.divideError", "math/bits.overflowError"], plainKeys := false, apart := false, laid := [("linkboy/round.never", laid_linkboy_round_never)] }
def RoundEnoughSaid : Prop := roundEnoughRow.holds Tryz.pinned (OpenSpec.ofChange roundEnoughSpec)

/-- ITS FALSE NEIGHBOUR: 'it returns false'. Refute it at one input. -/
def roundEnoughWrong : ChangeSpec := { name := "roundEnough", fn := fun _ => fun
  | [d1, d2] => { results := [.lit (.bool false)], args := [d1, d2] }
  | _ => none }
def RoundEnoughWrongFalsely : Prop := roundEnoughRow.holds Tryz.pinned (OpenSpec.ofChange roundEnoughWrong)

/-- 'linkboylaw11.RoundBounds': WHATEVER THE INPUT: true; the input reads as it did. -/
def roundBoundsSpec : ChangeSpec := { name := "roundBounds", fn := fun _ => fun
  | [d1, d2, d3] => { results := [.lit (.bool true)], args := [d1, d2, d3] }
  | _ => none }
def roundBoundsRow : OpenClaim := { program := "ytfoaglfnnomdkaagreatdoor", sum := "aeae353829f38e11617fa1cea479f499fa242e7aaf2b22bd840f1f0139845ab2", func := "linkboy/linkboylaw11.RoundBounds", spec := "roundBounds", inPlace := ["math/bits.Add64", "math/bits.Sub64"], unfollowed := true, recurses := true, named := ["linkboy/round.never", "math/bits.divideError", "math/bits.overflowError"], plainKeys := false, apart := false, laid := [("linkboy/round.never", laid_linkboy_round_never)] }
def RoundBoundsSaid : Prop := roundBoundsRow.holds Tryz.pinned (OpenSpec.ofChange roundBoundsSpec)

/-- ITS FALSE NEIGHBOUR: 'it returns false'. Refute it at one input. -/
def roundBoundsWrong : ChangeSpec := { name := "roundBounds", fn := fun _ => fun
  | [d1, d2, d3] => { results := [.lit (.bool false)], args := [d1, d2, d3] }
  | _ => none }
def RoundBoundsWrongFalsely : Prop := roundBoundsRow.holds Tryz.pinned (OpenSpec.ofChange roundBoundsWrong)

/-- 'linkboylaw11.RoundInserted': WHATEVER THE INPUT: true; the input reads as it did. -/
def roundInsertedSpec : ChangeSpec := { name := "roundInserted", fn := fun _ => fun
  | [d1, d2, d3] => { results := [.lit (.bool true)], args := [d1, d2, d3] }
  | _ => none }
def roundInsertedRow : OpenClaim := { program := "ytfoaglfnnomdkaagreatdoor", sum := "aeae353829f38e11617fa1cea479f499fa242e7aaf2b22bd840f1f0139845ab2", func := "linkboy/linkboylaw11.RoundInserted", spec := "roundInserted", inPlace := ["math/bits.Add64", "math/bits.Sub64", "slices.overlaps[int]"], unfollowed := true, recurses := true, named := ["linkboy/round.never", "math/bits.divideError", "math/bits.overflowError"], plainKeys := false, apart := false, laid := [("linkboy/round.never", laid_linkboy_round_never)] }
def RoundInsertedSaid : Prop := roundInsertedRow.holds Tryz.pinned (OpenSpec.ofChange roundInsertedSpec)

/-- ITS FALSE NEIGHBOUR: 'it returns false'. Refute it at one input. -/
def roundInsertedWrong : ChangeSpec := { name := "roundInserted", fn := fun _ => fun
  | [d1, d2, d3] => { results := [.lit (.bool false)], args := [d1, d2, d3] }
  | _ => none }
def RoundInsertedWrongFalsely : Prop := roundInsertedRow.holds Tryz.pinned (OpenSpec.ofChange roundInsertedWrong)

/-- 'linkboylaw11.RoundKnown': WHATEVER THE INPUT: true; the input reads as it did. -/
def roundKnownSpec : ChangeSpec := { name := "roundKnown", fn := fun _ => fun
  | [] => { results := [.lit (.bool true)], args := [] }
  | _ => none }
def roundKnownRow : OpenClaim := { program := "ytfoaglfnnomdkaagreatdoor", sum := "aeae353829f38e11617fa1cea479f499fa242e7aaf2b22bd840f1f0139845ab2", func := "linkboy/linkboylaw11.RoundKnown", spec := "roundKnown", inPlace := ["math/bits.Add64", "math/bits.Sub64", "slices.overlaps[int]"], unfollowed := true, recurses := true, named := ["linkboy/round.never", "math/bits.divideError", "math/bits.overflowError"], plainKeys := false, apart := false, laid := [("linkboy/round.never", laid_linkboy_round_never)] }
def RoundKnownSaid : Prop := roundKnownRow.holds Tryz.pinned (OpenSpec.ofChange roundKnownSpec)

/-- ITS FALSE NEIGHBOUR: 'it returns false'. Refute it at one input. -/
def roundKnownWrong : ChangeSpec := { name := "roundKnown", fn := fun _ => fun
  | [] => { results := [.lit (.bool false)], args := [] }
  | _ => none }
def RoundKnownWrongFalsely : Prop := roundKnownRow.holds Tryz.pinned (OpenSpec.ofChange roundKnownWrong)

/- THE SECOND FORM. 'bulk': how many values and letters a reading holds, each counted each time it is reached (what is shared counts as often as it is met; a slice's spare places count too). A statement '..UptoSaid' is the law's where the arguments, and the package variables that the reading takes, are together of bulk at most 1048576: NARROWER than '..Said'. Prove '..Said' where nothing that the law and all that it calls make is longer than what came in: it says more and counts as full. Else prove '..UptoSaid'. A law counts once. -/
mutual
def uptoBulk {H : Type} : DataW H → Nat
  | .lit (.string bytes) => bytes.length + 1
  | .lit _ => 1
  | .nil => 1
  | .ptr d => uptoBulk d + 1
  | .slice elems spare => uptoBulkAll elems + uptoBulkAll spare + 1
  | .agg parts => uptoBulkAll parts + 1
  | .iface _ d => uptoBulk d + 1
  | .map entries => uptoBulkEntries entries + 1
  | .held _ => 1
def uptoBulkAll {H : Type} : List (DataW H) → Nat
  | [] => 0
  | d :: r => uptoBulk d + uptoBulkAll r
def uptoBulkEntries {H : Type} : List (Lit × DataW H) → Nat
  | [] => 0
  | x :: r => uptoBulkEntry x + uptoBulkEntries r
def uptoBulkEntry {H : Type} : Lit × DataW H → Nat
  | (.string bytes, d) => bytes.length + uptoBulk d + 1
  | (_, d) => uptoBulk d + 1
 end
def uptoSmall : (H : Type) → List (DataW H) → Bool := fun _ ds => decide (uptoBulkAll ds ≤ 1048576)
def OpenSpec.upto (s : _root_.Go.ChangeSpec) : _root_.Go.OpenSpec := { _root_.Go.OpenSpec.ofChange s with cond := some uptoSmall }

/-- 'linkboylaw11.RoundBest', WHERE WHAT IT READS IS OF BULK AT MOST 1048576: true; the input reads as it did. -/
def roundBestUptoRow : OpenClaim := { program := "ytfoaglfnnomdkaagreatdoor", sum := "aeae353829f38e11617fa1cea479f499fa242e7aaf2b22bd840f1f0139845ab2", func := "linkboy/linkboylaw11.RoundBest", spec := "roundBest", inPlace := ["math/bits.Add64", "math/bits.Sub64"], unfollowed := true, recurses := true, named := ["linkboy/round.never", "math/bits.divideError", "math/bits.overflowError"], plainKeys := false, apart := false, laid := [("linkboy/round.never", laid_linkboy_round_never)], narrowed := true }
def RoundBestUptoSaid : Prop := roundBestUptoRow.holds Tryz.pinned (OpenSpec.upto roundBestSpec)

/-- 'linkboylaw11.RoundEarlier', WHERE WHAT IT READS IS OF BULK AT MOST 1048576: true; the input reads as it did. -/
def roundEarlierUptoRow : OpenClaim := { program := "ytfoaglfnnomdkaagreatdoor", sum := "aeae353829f38e11617fa1cea479f499fa242e7aaf2b22bd840f1f0139845ab2", func := "linkboy/linkboylaw11.RoundEarlier", spec := "roundEarlier", inPlace := ["math/bits.Add64", "math/bits.Sub64"], unfollowed := true, recurses := true, named := ["linkboy/round.never", "math/bits.divideError", "math/bits.overflowError"], plainKeys := false, apart := false, laid := [("linkboy/round.never", laid_linkboy_round_never)], narrowed := true }
def RoundEarlierUptoSaid : Prop := roundEarlierUptoRow.holds Tryz.pinned (OpenSpec.upto roundEarlierSpec)

/-- 'linkboylaw11.RoundMore', WHERE WHAT IT READS IS OF BULK AT MOST 1048576: true; the input reads as it did. -/
def roundMoreUptoRow : OpenClaim := { program := "ytfoaglfnnomdkaagreatdoor", sum := "aeae353829f38e11617fa1cea479f499fa242e7aaf2b22bd840f1f0139845ab2", func := "linkboy/linkboylaw11.RoundMore", spec := "roundMore", inPlace := ["math/bits.Add64", "math/bits.Sub64"], unfollowed := true, recurses := true, named := ["linkboy/round.never", "math/bits.divideError", "math/bits.overflowError"], plainKeys := false, apart := false, laid := [("linkboy/round.never", laid_linkboy_round_never)], narrowed := true }
def RoundMoreUptoSaid : Prop := roundMoreUptoRow.holds Tryz.pinned (OpenSpec.upto roundMoreSpec)

/-- 'linkboylaw11.RoundBenefits', WHERE WHAT IT READS IS OF BULK AT MOST 1048576: true; the input reads as it did. -/
def roundBenefitsUptoRow : OpenClaim := { program := "ytfoaglfnnomdkaagreatdoor", sum := "aeae353829f38e11617fa1cea479f499fa242e7aaf2b22bd840f1f0139845ab2", func := "linkboy/linkboylaw11.RoundBenefits", spec := "roundBenefits", inPlace := ["math/bits.Add64", "math/bits.Sub64"], unfollowed := true, recurses := true, named := ["linkboy/round.never", "math/bits.divideError", "math/bits.overflowError"], plainKeys := false, apart := false, laid := [("linkboy/round.never", laid_linkboy_round_never)], narrowed := true }
def RoundBenefitsUptoSaid : Prop := roundBenefitsUptoRow.holds Tryz.pinned (OpenSpec.upto roundBenefitsSpec)

/-- 'linkboylaw11.RoundAvoids', WHERE WHAT IT READS IS OF BULK AT MOST 1048576: true; the input reads as it did. -/
def roundAvoidsUptoRow : OpenClaim := { program := "ytfoaglfnnomdkaagreatdoor", sum := "aeae353829f38e11617fa1cea479f499fa242e7aaf2b22bd840f1f0139845ab2", func := "linkboy/linkboylaw11.RoundAvoids", spec := "roundAvoids", inPlace := ["math/bits.Add64", "math/bits.Sub64"], unfollowed := true, recurses := true, named := ["linkboy/round.never", "math/bits.divideError", "math/bits.overflowError"], plainKeys := false, apart := false, laid := [("linkboy/round.never", laid_linkboy_round_never)], narrowed := true }
def RoundAvoidsUptoSaid : Prop := roundAvoidsUptoRow.holds Tryz.pinned (OpenSpec.upto roundAvoidsSpec)

/-- 'linkboylaw11.RoundKeeps', WHERE WHAT IT READS IS OF BULK AT MOST 1048576: true; the input reads as it did. -/
def roundKeepsUptoRow : OpenClaim := { program := "ytfoaglfnnomdkaagreatdoor", sum := "aeae353829f38e11617fa1cea479f499fa242e7aaf2b22bd840f1f0139845ab2", func := "linkboy/linkboylaw11.RoundKeeps", spec := "roundKeeps", inPlace := ["math/bits.Add64", "math/bits.Sub64"], unfollowed := true, recurses := true, named := ["linkboy/round.never", "math/bits.divideError", "math/bits.overflowError"], plainKeys := false, apart := false, laid := [("linkboy/round.never", laid_linkboy_round_never)], narrowed := true }
def RoundKeepsUptoSaid : Prop := roundKeepsUptoRow.holds Tryz.pinned (OpenSpec.upto roundKeepsSpec)

/-- 'linkboylaw11.RoundChooses', WHERE WHAT IT READS IS OF BULK AT MOST 1048576: true; the input reads as it did. -/
def roundChoosesUptoRow : OpenClaim := { program := "ytfoaglfnnomdkaagreatdoor", sum := "aeae353829f38e11617fa1cea479f499fa242e7aaf2b22bd840f1f0139845ab2", func := "linkboy/linkboylaw11.RoundChooses", spec := "roundChooses", inPlace := ["math/bits.Add64", "math/bits.Sub64"], unfollowed := true, recurses := true, named := ["linkboy/round.never", "math/bits.divideError", "math/bits.overflowError"], plainKeys := false, apart := false, laid := [("linkboy/round.never", laid_linkboy_round_never)], narrowed := true }
def RoundChoosesUptoSaid : Prop := roundChoosesUptoRow.holds Tryz.pinned (OpenSpec.upto roundChoosesSpec)

/-- 'linkboylaw11.RoundRicher', WHERE WHAT IT READS IS OF BULK AT MOST 1048576: true; the input reads as it did. -/
def roundRicherUptoRow : OpenClaim := { program := "ytfoaglfnnomdkaagreatdoor", sum := "aeae353829f38e11617fa1cea479f499fa242e7aaf2b22bd840f1f0139845ab2", func := "linkboy/linkboylaw11.RoundRicher", spec := "roundRicher", inPlace := ["math/bits.Add64", "math/bits.Sub64"], unfollowed := true, recurses := true, named := ["linkboy/round.never", "math/bits.divideError", "math/bits.overflowError"], plainKeys := false, apart := false, laid := [("linkboy/round.never", laid_linkboy_round_never)], narrowed := true }
def RoundRicherUptoSaid : Prop := roundRicherUptoRow.holds Tryz.pinned (OpenSpec.upto roundRicherSpec)

/-- 'linkboylaw11.RoundCarries', WHERE WHAT IT READS IS OF BULK AT MOST 1048576: true; the input reads as it did. -/
def roundCarriesUptoRow : OpenClaim := { program := "ytfoaglfnnomdkaagreatdoor", sum := "aeae353829f38e11617fa1cea479f499fa242e7aaf2b22bd840f1f0139845ab2", func := "linkboy/linkboylaw11.RoundCarries", spec := "roundCarries", inPlace := ["math/bits.Add64", "math/bits.Sub64"], unfollowed := true, recurses := true, named := ["linkboy/round.never", "math/bits.divideError", "math/bits.overflowError"], plainKeys := false, apart := false, laid := [("linkboy/round.never", laid_linkboy_round_never)], narrowed := true }
def RoundCarriesUptoSaid : Prop := roundCarriesUptoRow.holds Tryz.pinned (OpenSpec.upto roundCarriesSpec)

/-- 'linkboylaw11.RoundEnough', WHERE WHAT IT READS IS OF BULK AT MOST 1048576: true; the input reads as it did. -/
def roundEnoughUptoRow : OpenClaim := { program := "ytfoaglfnnomdkaagreatdoor", sum := "aeae353829f38e11617fa1cea479f499fa242e7aaf2b22bd840f1f0139845ab2", func := "linkboy/linkboylaw11.RoundEnough", spec := "roundEnough", inPlace := ["math/bits.Add64", "math/bits.Sub64"], unfollowed := true, recurses := true, named := ["linkboy/round.never", "math/bits.divideError", "math/bits.overflowError"], plainKeys := false, apart := false, laid := [("linkboy/round.never", laid_linkboy_round_never)], narrowed := true }
def RoundEnoughUptoSaid : Prop := roundEnoughUptoRow.holds Tryz.pinned (OpenSpec.upto roundEnoughSpec)

/-- 'linkboylaw11.RoundBounds', WHERE WHAT IT READS IS OF BULK AT MOST 1048576: true; the input reads as it did. -/
def roundBoundsUptoRow : OpenClaim := { program := "ytfoaglfnnomdkaagreatdoor", sum := "aeae353829f38e11617fa1cea479f499fa242e7aaf2b22bd840f1f0139845ab2", func := "linkboy/linkboylaw11.RoundBounds", spec := "roundBounds", inPlace := ["math/bits.Add64", "math/bits.Sub64"], unfollowed := true, recurses := true, named := ["linkboy/round.never", "math/bits.divideError", "math/bits.overflowError"], plainKeys := false, apart := false, laid := [("linkboy/round.never", laid_linkboy_round_never)], narrowed := true }
def RoundBoundsUptoSaid : Prop := roundBoundsUptoRow.holds Tryz.pinned (OpenSpec.upto roundBoundsSpec)

/-- 'linkboylaw11.RoundInserted', WHERE WHAT IT READS IS OF BULK AT MOST 1048576: true; the input reads as it did. -/
def roundInsertedUptoRow : OpenClaim := { program := "ytfoaglfnnomdkaagreatdoor", sum := "aeae353829f38e11617fa1cea479f499fa242e7aaf2b22bd840f1f0139845ab2", func := "linkboy/linkboylaw11.RoundInserted", spec := "roundInserted", inPlace := ["math/bits.Add64", "math/bits.Sub64", "slices.overlaps[int]"], unfollowed := true, recurses := true, named := ["linkboy/round.never", "math/bits.divideError", "math/bits.overflowError"], plainKeys := false, apart := false, laid := [("linkboy/round.never", laid_linkboy_round_never)], narrowed := true }
def RoundInsertedUptoSaid : Prop := roundInsertedUptoRow.holds Tryz.pinned (OpenSpec.upto roundInsertedSpec)

/-- 'linkboylaw11.RoundKnown', WHERE WHAT IT READS IS OF BULK AT MOST 1048576: true; the input reads as it did. -/
def roundKnownUptoRow : OpenClaim := { program := "ytfoaglfnnomdkaagreatdoor", sum := "aeae353829f38e11617fa1cea479f499fa242e7aaf2b22bd840f1f0139845ab2", func := "linkboy/linkboylaw11.RoundKnown", spec := "roundKnown", inPlace := ["math/bits.Add64", "math/bits.Sub64", "slices.overlaps[int]"], unfollowed := true, recurses := true, named := ["linkboy/round.never", "math/bits.divideError", "math/bits.overflowError"], plainKeys := false, apart := false, laid := [("linkboy/round.never", laid_linkboy_round_never)], narrowed := true }
def RoundKnownUptoSaid : Prop := roundKnownUptoRow.holds Tryz.pinned (OpenSpec.upto roundKnownSpec)

end Rows
end Go.Proofs.YtfoaglfnnomdkaaGreatDoor
