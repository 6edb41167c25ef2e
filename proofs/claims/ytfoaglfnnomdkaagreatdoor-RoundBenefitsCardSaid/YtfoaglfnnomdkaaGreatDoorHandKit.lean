/- Small words for the hand-written walks. -/
import Derived.Test.YtfoaglfnnomdkaaGreatDoorCx0
import Derived.Lib.Hide
set_option linter.all false
namespace Go.Proofs.YtfoaglfnnomdkaaGreatDoor.C
open Go.RowKit Go.Proofs.YtfoaglfnnomdkaaGreatDoorW.PrintWords Go.Proofs.YtfoaglfnnomdkaaGreatDoorW.PrintMore

theorem bcell {W w1 : World} (hb : Below W.heap.size W w1) (b o : Nat) (h : b < W.heap.size) : w1.cell? ⟨b, o, none⟩ = W.cell? ⟨b, o, none⟩ := hb.cell (p := ⟨b, o, none⟩) h
theorem bfroz {W w1 : World} (hb : Below W.heap.size W w1) (b o : Nat) (h : b < W.heap.size) : w1.frozen? ⟨b, o, none⟩ = W.frozen? ⟨b, o, none⟩ := hb.frozen (p := ⟨b, o, none⟩) h
theorem after {w W w1 : World} (h : Below w.heap.size w W) (hb : Below W.heap.size W w1) : Below w.heap.size w w1 := h.trans (hb.mono h.size)
/-- A row of enclosures, by its cells. -/
theorem C_encl (W : World) (b : Nat) (l : List S23) (hl : l.length ≤ 9223372036854775807)
    (h : ∀ j x, l[j]? = some x → W.cell? ⟨b, j * 2, none⟩ = some (.int .i64 x.f0) ∧ W.cell? ⟨b, j * 2 + 1, none⟩ = some (.int .i64 x.f1)) : Kd.C k23 W (some ⟨b, 0, none⟩) l.length l := by
  refine ⟨rfl, hl, fun _ => ⟨_, rfl, fun j p hp => ⟨[.int .i64 p.f0, .int .i64 p.f1], rfl, k23_mk W p, fun i u hu => ?_⟩⟩⟩
  obtain ⟨h0, h1⟩ := h j p hp
  rw [add_plain]
  change W.cell? ⟨b, j * 2 + i, none⟩ = some u
  match i with
  | 0 => simp only [List.getElem?_cons_zero, Option.some.injEq] at hu; subst hu; exact h0
  | 1 => simp only [List.getElem?_cons_succ, List.getElem?_cons_zero, Option.some.injEq] at hu; subst hu; exact h1
  | i + 2 => simp at hu
theorem C_encl1 (W : World) (b : Nat) (x0 : S23) (h0 : W.cell? ⟨b, 0, none⟩ = some (.int .i64 x0.f0)) (g0 : W.cell? ⟨b, 1, none⟩ = some (.int .i64 x0.f1)) : Kd.C k23 W (some ⟨b, 0, none⟩) 1 [x0] := by
  refine C_encl W b [x0] (by simp) fun j x hj => ?_
  match j with
  | 0 => cases hj; exact ⟨h0, g0⟩
  | j + 1 => simp at hj
theorem C_encl2 (W : World) (b : Nat) (x0 x1 : S23) (h0 : W.cell? ⟨b, 0, none⟩ = some (.int .i64 x0.f0)) (g0 : W.cell? ⟨b, 1, none⟩ = some (.int .i64 x0.f1)) (h1 : W.cell? ⟨b, 2, none⟩ = some (.int .i64 x1.f0)) (g1 : W.cell? ⟨b, 3, none⟩ = some (.int .i64 x1.f1)) : Kd.C k23 W (some ⟨b, 0, none⟩) 2 [x0, x1] := by
  refine C_encl W b [x0, x1] (by simp) fun j x hj => ?_
  match j with
  | 0 => cases hj; exact ⟨h0, g0⟩
  | 1 => cases hj; exact ⟨h1, g1⟩
  | j + 2 => simp at hj
theorem C_encl3 (W : World) (b : Nat) (x0 x1 x2 : S23) (h0 : W.cell? ⟨b, 0, none⟩ = some (.int .i64 x0.f0)) (g0 : W.cell? ⟨b, 1, none⟩ = some (.int .i64 x0.f1)) (h1 : W.cell? ⟨b, 2, none⟩ = some (.int .i64 x1.f0)) (g1 : W.cell? ⟨b, 3, none⟩ = some (.int .i64 x1.f1)) (h2 : W.cell? ⟨b, 4, none⟩ = some (.int .i64 x2.f0)) (g2 : W.cell? ⟨b, 5, none⟩ = some (.int .i64 x2.f1)) : Kd.C k23 W (some ⟨b, 0, none⟩) 3 [x0, x1, x2] := by
  refine C_encl W b [x0, x1, x2] (by simp) fun j x hj => ?_
  match j with
  | 0 => cases hj; exact ⟨h0, g0⟩
  | 1 => cases hj; exact ⟨h1, g1⟩
  | 2 => cases hj; exact ⟨h2, g2⟩
  | j + 3 => simp at hj
theorem C_encl4 (W : World) (b : Nat) (x0 x1 x2 x3 : S23) (h0 : W.cell? ⟨b, 0, none⟩ = some (.int .i64 x0.f0)) (g0 : W.cell? ⟨b, 1, none⟩ = some (.int .i64 x0.f1)) (h1 : W.cell? ⟨b, 2, none⟩ = some (.int .i64 x1.f0)) (g1 : W.cell? ⟨b, 3, none⟩ = some (.int .i64 x1.f1)) (h2 : W.cell? ⟨b, 4, none⟩ = some (.int .i64 x2.f0)) (g2 : W.cell? ⟨b, 5, none⟩ = some (.int .i64 x2.f1)) (h3 : W.cell? ⟨b, 6, none⟩ = some (.int .i64 x3.f0)) (g3 : W.cell? ⟨b, 7, none⟩ = some (.int .i64 x3.f1)) : Kd.C k23 W (some ⟨b, 0, none⟩) 4 [x0, x1, x2, x3] := by
  refine C_encl W b [x0, x1, x2, x3] (by simp) fun j x hj => ?_
  match j with
  | 0 => cases hj; exact ⟨h0, g0⟩
  | 1 => cases hj; exact ⟨h1, g1⟩
  | 2 => cases hj; exact ⟨h2, g2⟩
  | 3 => cases hj; exact ⟨h3, g3⟩
  | j + 4 => simp at hj
end Go.Proofs.YtfoaglfnnomdkaaGreatDoor.C
