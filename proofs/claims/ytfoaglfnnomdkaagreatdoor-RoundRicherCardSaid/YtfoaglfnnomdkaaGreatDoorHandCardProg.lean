/- An argument that is a programme, opened. -/
import Derived.Test.YtfoaglfnnomdkaaGreatDoorHandCard
set_option linter.all false
namespace Go.Proofs.YtfoaglfnnomdkaaGreatDoor.C
open Go.ChangeShapes Go.WideShapes Go.ChangeAt Go.RowKit Go.Proofs.YtfoaglfnnomdkaaGreatDoorW.PrintWords Go.Proofs.YtfoaglfnnomdkaaGreatDoorW.PrintMore

theorem cells3 : Tryz.prog.cellsOf 3 = 1 := by kernel_rfl
theorem op_int : Opens Tryz.prog (Kd.int .i64) 3 (fun n => (Lit.int .i64 n).wf = true) := opens_int Tryz.underlying3 cells3
theorem op_str : Opens Tryz.prog Kd.string 9 (fun s => s.size ≤ maxLen) := opens_string Tryz.underlying9 (by kernel_rfl)
theorem op_ints : Opens Tryz.prog (Kd.slice 3 (Kd.int .i64)) 41 (fun xs => xs.length ≤ maxLen ∧ ∀ x ∈ xs, (Lit.int .i64 x).wf = true) := opens_slice Tryz.underlying41 (by kernel_rfl) op_int
theorem op_asset : Opens Tryz.prog k73 73 (fun x => x.f0.size ≤ maxLen ∧ (Lit.int .i64 x.f1).wf = true ∧ (Lit.int .i64 x.f2).wf = true ∧ (Lit.int .i64 x.f3).wf = true ∧ (Lit.int .i64 x.f4).wf = true) :=
  opens_struct Tryz.underlying73 (by kernel_rfl) (by kernel_rfl)
    (opensL_iso (fun x : S73 => (x.f0, x.f1, x.f2, x.f3, x.f4)) (fun y => ⟨y.1, y.2.1, y.2.2.1, y.2.2.2.1, y.2.2.2.2⟩) (fun _ => rfl)
      (opensL_cons rfl op_str (opensL_cons rfl op_int (opensL_cons rfl op_int (opensL_cons rfl op_int (opensL_one rfl op_int))))))
theorem op_prog : Opens Tryz.prog k66 66 (fun x => (x.f0.length ≤ maxLen ∧ ∀ y ∈ x.f0, y.f0.size ≤ maxLen ∧ (Lit.int .i64 y.f1).wf = true ∧ (Lit.int .i64 y.f2).wf = true ∧ (Lit.int .i64 y.f3).wf = true ∧ (Lit.int .i64 y.f4).wf = true) ∧
    (x.f1.length ≤ maxLen ∧ ∀ n ∈ x.f1, (Lit.int .i64 n).wf = true) ∧ (Lit.int .i64 x.f2).wf = true ∧ (Lit.int .i64 x.f3).wf = true) :=
  opens_struct Tryz.underlying66 (by kernel_rfl) (by kernel_rfl)
    (opensL_iso (fun x : S66 => (x.f0, x.f1, x.f2, x.f3)) (fun y => ⟨y.1, y.2.1, y.2.2.1, y.2.2.2⟩) (fun _ => rfl)
      (opensL_cons rfl (opens_slice Tryz.underlying64 (by kernel_rfl) op_asset) (opensL_cons rfl op_ints (opensL_cons rfl op_int (opensL_one rfl op_int)))))
section
variable {H : Type} {enc : TypeId × Value → H} {W : World} {base : Nat} {spare : Nat → Bool} {held : Bool} {v : Value} {d : DataW H} {p : List MemPlace}
set_option maxRecDepth 100000 in
theorem open_prog {b0 : Nat} (hv : Value.okWide Tryz.prog W .any b0 66 v) (h : DataW.Trod enc Tryz.prog W base spare held 66 v d p) :
    ∃ (x : S66) (A0 : Option Addr) (c0 : Nat) (A1 : Option Addr) (c1 : Nat), v = .agg #[.slice A0 x.f0.length c0, .slice A1 x.f1.length c1, .int .i64 x.f2, .int .i64 x.f3] ∧ x.f0.length ≤ c0 ∧ k73.C W A0 x.f0.length x.f0 ∧ x.f1.length ≤ c1 ∧ (Kd.int .i64).C W A1 x.f1.length x.f1 ∧
      (∀ y ∈ x.f0, y.f0.size ≤ 9223372036854775807) ∧ (∀ n ∈ x.f1, (Lit.int .i64 n).wf = true) ∧ (Lit.int .i64 x.f2).wf = true ∧ (Lit.int .i64 x.f3).wf = true := by
  obtain ⟨cs, rfl, hsz⟩ := okWide_struct Tryz.underlying66 hv
  obtain ⟨fuel, hf⟩ := h
  obtain ⟨x, hk, ⟨-, h0⟩, ⟨-, h1⟩, h2, h3⟩ := op_prog.2 enc W base spare held fuel _ _ hf
  obtain ⟨A0, c0, A1, c1, he, l0, g0, l1, g1⟩ := k66_open hk
  have he' : cs = #[.slice A0 x.f0.length c0, .slice A1 x.f1.length c1, .int .i64 x.f2, .int .i64 x.f3] := by
    have : cs.toList = _ := he
    cases cs
    simpa using this
  subst he'
  exact ⟨x, A0, c0, A1, c1, rfl, l0, g0, l1, g1, fun y hy => by have := (h0 y hy).1; unfold maxLen at this; omega, h1, h2, h3⟩
end
end Go.Proofs.YtfoaglfnnomdkaaGreatDoor.C
