/- What all the cards of this seat share: the listed variable at the call's begin; the form's contract with the shape of the globals; arguments opened. -/
import Derived.Test.YtfoaglfnnomdkaaGreatDoorRows
import Derived.Test.YtfoaglfnnomdkaaGreatDoorHandOpen
import Derived.Test.YtfoaglfnnomdkaaGreatDoorHandAwake
import Derived.WalkKit
import Derived.ProofKit
import Derived.LaidMore
import Derived.OpenShut
import Derived.ShutString
import Derived.ChangeOld
import Derived.Below
import Derived.SizedLaws
import Derived.MakeChecks
import Derived.Stop.Joined
set_option linter.all false
namespace Go.Proofs.YtfoaglfnnomdkaaGreatDoor.C
open Go.ChangeShapes Go.WideShapes Go.ChangeAt Go.RowKit Go.Proofs.YtfoaglfnnomdkaaGreatDoorW.PrintWords Go.Proofs.YtfoaglfnnomdkaaGreatDoorW.PrintMore

theorem own : ownKnob Tryz.prog.godebug = none := by kernel_rfl
theorem laidOut : laidOutB Tryz.prog = true := by kernel_rfl
theorem gNever : Tryz.prog.globalNamed "linkboy/round.never" = some 0 := by kernel_rfl
theorem tNever : (Tryz.prog.globals[0]?).map (·.type) = some 60 := by kernel_rfl
theorem sNever : (begin Tryz.prog (fun _ _ => 0) default).world.heap[0]?.bind Obj.row? = some (#[.int .i64 0, .int .i64 0], 60) := by kernel_rfl
theorem nGlobals : 0 < Tryz.prog.globals.size := of_decide_eq_true (by kernel_rfl)
abbrev laid1 : List (String × DataW Unit) := [("linkboy/round.never", Rows.laid_linkboy_round_never)]
/-- The door's own heap meets the condition. -/
theorem door_met (os : Os) (args : Array Value) : laidMetH Tryz.prog laid1 ((World.doorLaid Tryz.prog 14 os).forCall (fun _ _ => 0) ⟨#[], args, []⟩).memory :=
  laidMetH_of_parts3 (fuel := 8) (laidMet_of_run' 8 (by kernel_rfl) (by kernel_rfl)) (by kernel_rfl) (by kernel_rfl)
theorem trod_one_int {H : Type} {enc : TypeId × Value → H} {P : Program} {w : World} {base : Nat} {spare : Nat → Bool} {held : Bool} {n : Nat} {t : TypeId} {k : IntKind} {cs : List Value} {x : DataW H × List MemPlace} {m : Int}
    (ht : P.underlying t = some (.int k)) (h : DataW.trod enc P w base spare held n t cs = some x) (hx : x.1 = .lit (.int k m)) : cs = [.int k m] := by
  obtain ⟨r, rfl, rfl, -⟩ := DataW.trod_int ht h
  simp at hx
  rw [hx]
set_option maxRecDepth 100000 in
/-- What the condition gives: the block of round.never. -/
theorem glob_of {W : World} (hs : W.ShapedOpen Tryz.prog) (h : laidMetH Tryz.prog laid1 W) : Glob W := by
  rw [MakeChecks.laidMetH_plain _ _ _ (by kernel_rfl)] at h
  obtain ⟨ps, ⟨g0, t0, cs0, f0, p0, q0, hg0, ht0, hv0, hd0, _, _⟩, _, _⟩ := h
  obtain rfl := Option.some.inj (gNever.symm.trans hg0)
  obtain rfl := Option.some.inj (tNever.symm.trans ht0)
  obtain ⟨cs, hh, -, -⟩ := hs.1 0 _ _ nGlobals sNever
  have hcs : cs0 = cs := by
    simp only [World.var?, gNever, Option.bind_some, hh] at hv0
    exact (Option.some.inj hv0).symm
  subst hcs
  obtain ⟨xs, n, rfl, hx, hlen, hxl, hf⟩ := DataW.trod_struct Tryz.underlying60 hd0
  have hC : Tryz.prog.cellsOf 60 = 2 := by kernel_rfl
  have h3 : Tryz.prog.cellsOf 3 = 1 := by kernel_rfl
  rw [hC] at hlen
  simp only [Prod.mk.injEq, Rows.laid_linkboy_round_never, DataW.agg.injEq] at hx
  obtain ⟨hx, -⟩ := hx
  obtain ⟨l⟩ := cs0
  match l, hlen, xs, hxl, hx with
  | [c0, c1], _, [x0, x1], _, hx =>
    simp only [List.map_cons, List.map_nil, List.cons.injEq, and_true] at hx
    have b0 := trod_one_int (x := x0) Tryz.underlying3 (hf 0 _ rfl) hx.1.symm
    have b1 := trod_one_int (x := x1) Tryz.underlying3 (hf 1 _ rfl) hx.2.symm
    have b0' : [c0] = [Value.int IntKind.i64 1] := by
      rw [← b0]
      show _ = List.take (Tryz.prog.cellsOf 3) [c0, c1]
      rw [h3]; rfl
    have b1' : [c1] = [Value.int IntKind.i64 0] := by
      rw [← b1]
      show _ = List.take (Tryz.prog.cellsOf 3) [c1]
      rw [h3]; rfl
    obtain rfl : c0 = .int .i64 1 := by simpa using b0'
    obtain rfl : c1 = .int .i64 0 := by simpa using b1'
    exact ⟨_, hh⟩
section
variable {H : Type} {enc : TypeId × Value → H}
/-- The form out of a contract that is told the shape of the globals, too. -/
theorem returns_shaped {C : Checked} {os : Os} {f : FuncId} {fn : Func} {s : ChangeSpec} {laid : List (String × DataW Unit)}
    (own : ownKnob C.prog.godebug = none) (started : os.Started) (noInit : C.prog.inits.idxOf? f = none) (hfn : C.prog.funcs[f]? = some fn)
    (witness : ∃ (w : World) (tape : Tape) (i : Input), w.os = os ∧ (w.forCall tape i).Shaped C.prog ∧ i.vars = [] ∧ Input.okWide C.prog (w.forCall tape i) .any w.heap.size f i ∧
      ((s.pre enc C.prog fn [] false (w.forCall tape i).memory i.args ∧ laidMetH C.prog laid (w.forCall tape i).memory) ∧ sizedMet enc C.prog fn (OpenSpec.ofChange s) false (w.forCall tape i).memory i.args) ∧ ({} : Assume).holds C.prog (lone (Frame.enter C.prog f i.args .normal) [] (w.forCall tape i)))
    (contract : ∀ (W : World) (base : Nat) (args : Array Value) (ds gs : List (DataW H)) (before : List MemPlace), W.ShapedOpen C.prog →
      (∀ (j : Nat) t v, fn.params[j]? = some t → args[j]? = some v → Value.okWide C.prog W .any base t v) →
      DataW.Whole enc C.prog fn.params.toList s.vars false W args.toList ds gs before →
      (DataW.weightsEach C.prog (fn.params.toList ++ s.plain.varTypes C.prog) (ds ++ gs)).all (· ≤ reachBytes) = true → laidMetH C.prog laid W →
      Calls C.prog f args W fun e W' => ∃ v, e = .returned v ∧ s.post enc C.prog fn false true false false W args v W') :
    ReturnsInHanded {} C os f .any (fun w args => (s.pre enc C.prog fn [] false w args ∧ laidMetH C.prog laid w) ∧ sizedMet enc C.prog fn (OpenSpec.ofChange s) false w args) (s.post enc C.prog fn false true false false) := by
  refine returnsInHanded_of_calls own started noInit witness ?_
  intro w tape i _ hs _ hok hpre _
  obtain ⟨_, _, _, fn', hfn', _, _, _, _, hval⟩ := hok
  have e : fn' = fn := Option.some.inj (hfn'.symm.trans hfn)
  subst e
  obtain ⟨⟨⟨ds, gs, before, hw, hc⟩, hx⟩, hz⟩ := hpre
  have hw' := DataW.Whole.of_heap (w' := w.forCall tape i) (by rfl) hw
  refine (contract (w.forCall tape i) w.heap.size i.args ds gs before hs hval hw' (hz.weights hw) (hx.of_heap (by rfl))).mono fun e W' ⟨v, he, hp⟩ => ?_
  subst he
  exact ChangeSpec.post_blind hp
end
end Go.Proofs.YtfoaglfnnomdkaaGreatDoor.C
