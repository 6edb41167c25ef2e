/- RoundRicher: for every programme, prices and pair of numbers the law returns true, and each argument reads behind the call as it read before. Condition: the package-level variable round.never reads as the program's text lays it (tied by the card). -/
import Derived.Test.YtfoaglfnnomdkaaGreatDoorCards
import Derived.Test.YtfoaglfnnomdkaaGreatDoorTie
import Derived.Test.YtfoaglfnnomdkaaGreatDoorHandCardProg
import Derived.Test.YtfoaglfnnomdkaaGreatDoorHandRicherB
set_option linter.all false
namespace Go.Proofs.YtfoaglfnnomdkaaGreatDoor
namespace C
open Go.ChangeShapes Go.WideShapes Go.ChangeAt Go.RowKit Go.Proofs.YtfoaglfnnomdkaaGreatDoorW.PrintWords Go.Proofs.YtfoaglfnnomdkaaGreatDoorW.PrintMore
set_option maxRecDepth 100000 in
theorem open_ints {H : Type} {enc : TypeId × Value → H} {W : World} {base b0 : Nat} {spare : Nat → Bool} {held : Bool} {v : Value} {d : DataW H} {p : List MemPlace} (hv : Value.okWide Tryz.prog W .any b0 41 v) (h : DataW.Trod enc Tryz.prog W base spare held 41 v d p) :
    ∃ (A : Option Addr) (c : Nat) (xs : List Int), v = .slice A xs.length c ∧ xs.length ≤ c ∧ (Kd.int .i64).C W A xs.length xs := by
  have hu := Tryz.underlying41
  obtain ⟨fuel, hf⟩ := h
  obtain ⟨xs, ⟨A, c, he, hl, hC⟩, -⟩ := op_ints.2 enc W base spare held fuel _ _ hf
  refine ⟨A, c, xs, ?_, hl, hC⟩
  cases v with
  | agg cs => simp [Value.okWide, Cell.okWide, Cell.ok, hu] at hv
  | _ => simpa [Value.cells] using he
theorem wf_u16 {n : Int} (h : (Lit.int .u16 n).wf = true) : 0 ≤ n ∧ n ≤ 65535 := by
  simp [Lit.wf, IntKind.has, IntKind.min, IntKind.max, IntKind.signed, IntKind.bits] at h
  omega
set_option maxRecDepth 100000 in
theorem open_two16 {H : Type} {enc : TypeId × Value → H} {W : World} {base b0 : Nat} {spare : Nat → Bool} {held : Bool} {v : Value} {d : DataW H} {p : List MemPlace} (hv : Value.okWide Tryz.prog W .any b0 87 v) (h : DataW.Trod enc Tryz.prog W base spare held 87 v d p) :
    ∃ n m, v = .agg #[.int .u16 n, .int .u16 m] ∧ (0 ≤ n ∧ n ≤ 65535) ∧ (0 ≤ m ∧ m ≤ 65535) := by
  have hu := Tryz.underlying87
  have hC : Tryz.prog.cellsOf 87 = 2 := by kernel_rfl
  have h3 : Tryz.prog.cellsOf 42 = 1 := by kernel_rfl
  simp only [Value.okWide, hu] at hv
  obtain ⟨cs, rfl, hsz, -⟩ := hv
  obtain ⟨fuel, hf⟩ := h
  obtain ⟨xs, m, rfl, -, hl, hxl, hx⟩ := DataW.trod_array hu hf
  rw [hC] at hsz
  obtain ⟨l⟩ := cs
  match l, hsz, xs, hxl with
  | [c0, c1], _, [x0, x1], _ =>
    have a0 := hx 0 (by decide)
    have a1 := hx 1 (by decide)
    rw [h3] at a0 a1
    obtain ⟨n, e0, -, w0⟩ := DataW.trod_int (x := x0) Tryz.underlying42 a0
    obtain ⟨k, e1, -, w1⟩ := DataW.trod_int (x := x1) Tryz.underlying42 a1
    obtain rfl : c0 = .int .u16 n := by simpa [Value.cells] using e0
    obtain rfl : c1 = .int .u16 k := by simpa [Value.cells] using e1
    exact ⟨n, k, rfl, wf_u16 w0, wf_u16 w1⟩
set_option maxRecDepth 100000 in
theorem richer_lifted (os : Os) (started : os.Started) (H : Type) (enc : TypeId × Value → H) :
    ReturnsInHanded {} Tryz.checked os 10 .any (fun w args => (Rows.roundRicherSpec.pre enc Tryz.prog Tryz.f10 [] false w args ∧ laidMetH Tryz.prog laid1 w) ∧ sizedMet enc Tryz.prog Tryz.f10 (OpenSpec.ofChange Rows.roundRicherSpec) false w args)
      (Rows.roundRicherSpec.post enc Tryz.prog Tryz.f10 false true false false) := by
  refine returns_shaped (C := Tryz.checked) (laid := laid1) own started (by kernel_rfl) Tryz.func10
    (ChangeSpec.witness_shaped (enc := enc) (C := Tryz.checked) (os := os) (X := fun w _ => laidMetH Tryz.prog laid1 w) false (World.doorLaid Tryz.prog 14 os) #[.agg #[.slice none 0 0, .slice none 0 0, .int .i64 0, .int .i64 0], .slice none 0 0, .agg #[.int .u16 0, .int .u16 0]] 8 rfl (World.shaped_of_RefB (by kernel_rfl) (by kernel_rfl)) (by kernel_rfl) (by kernel_rfl) (by kernel_rfl) (door_met os _)) ?_
  intro W base args ds gs before hshape hval0 hW _ hL
  have hval : ∀ (j : Nat) t v, Tryz.f10.params[j]? = some t → args[j]? = some v → Value.okWide Tryz.prog W .any base t v := hval0
  have hW' := hW
  obtain ⟨p, q, hA0, hV, rfl, hfz, hnd⟩ := hW
  have hA : DataW.TrodAll enc Tryz.prog W 0 (fun _ => true) true Tryz.f10.params.toList args.toList ds p := hA0
  rw [Tryz.params10] at hA hval
  obtain ⟨v0, vs0, d0, ds0, p0, q0, hargs, rfl, rfl, h0, r0⟩ := trodAll_cons hA
  obtain ⟨v1, vs1, d1, ds1, p1, q1, rfl, rfl, rfl, h1, r1⟩ := trodAll_cons r0
  obtain ⟨v2, vs2, d2, ds2, p2, q2, rfl, rfl, rfl, h2, r2⟩ := trodAll_cons r1
  obtain ⟨rfl, rfl, rfl⟩ := trodAll_nil r2
  obtain rfl : args = #[v0, v1, v2] := by cases args; simp_all
  obtain ⟨rfl, rfl⟩ := trodVars_none hV
  have lt0 : ∀ x ∈ p0, x.block < W.heap.size := by obtain ⟨m, hm⟩ := h0; exact DataW.trod_lt m _ _ _ hm
  have lt1 : ∀ x ∈ p1, x.block < W.heap.size := by obtain ⟨m, hm⟩ := h1; exact DataW.trod_lt m _ _ _ hm
  have lt2 : ∀ x ∈ p2, x.block < W.heap.size := by obtain ⟨m, hm⟩ := h2; exact DataW.trod_lt m _ _ _ hm
  obtain ⟨x, A0, c0, A1, c1, rfl, l0, g0, l1, g1, hs, -⟩ := open_prog (hval 0 66 v0 rfl rfl) h0
  obtain ⟨A2, c2, pr, rfl, l2, g2⟩ := open_ints (hval 1 41 v1 rfl rfl) h1
  obtain ⟨x0, x1, rfl, b0, b1⟩ := open_two16 (hval 2 87 v2 rfl rfl) h2
  have hG := glob_of hshape hL
  clear hA0 hval0
  refine (richer_walk hG g0 l0 g1 l1 g2 hs b0 b1).mono fun e W' ⟨he, bel⟩ => ?_
  subst he
  exact ⟨_, rfl, _, _, _, [], _, [], hW', trodAll_mk1 (shut_bool Tryz.underlying4 _), (trodAll_cons_mk (Below.trod laidOut (by kernel_rfl) (of_decide_eq_true (by kernel_rfl)) h0 bel lt0) (trodAll_cons_mk (Below.trod laidOut (by kernel_rfl) (of_decide_eq_true (by kernel_rfl)) h1 bel lt1) (trodAll_cons_mk (Below.trod laidOut (by kernel_rfl) (of_decide_eq_true (by kernel_rfl)) h2 bel lt2) trodAll_mk0))), rfl, bel.frame _, fun h => by cases h⟩
theorem richer_row : Rows.RoundRicherSaid :=
  OpenClaim.holds_of_wide 10 Tryz.f10 rfl rfl rfl rfl rfl rfl rfl ⟨rfl, rfl, rfl, rfl, rfl⟩ rfl rfl rfl rfl rfl (by kernel_rfl) Tryz.func10 (by kernel_rfl)
    (of_decide_eq_true (by kernel_rfl)) (by unfold Func.isWrapper; first | (rw [if_pos (by decide +kernel)]; kernel_rfl) | (rw [if_neg (by decide +kernel)]; exact ⟨rfl, rfl⟩))
    (fun os started H enc _ => richer_lifted os started H enc)
end C
theorem richer_holds : Rows.RoundRicherCardSaid :=
  Claim7.holds_tied_plain_at .later [] [.data] true (true, "f4e39b73c9ac14d2e8fd8a12ac0a5b567e61d23b25d9e4a9d8400f1c83b80bad") false
    C.richer_row (fun _ h => by cases h) (by kernel_rfl) (fun _ h => by cases h) roundRicher_row_tie rfl ⟨rfl, rfl⟩ (by kernel_rfl) rfl
    (fun f fn hf hfn => by
      obtain rfl : f = 10 := Option.some.inj ((show Tryz.prog.funcNamed "linkboy/linkboylaw11.RoundRicher" = some 10 by kernel_rfl).symm.trans hf) |>.symm
      obtain rfl : fn = Tryz.f10 := (Option.some.inj (Tryz.func10.symm.trans hfn)).symm
      exact ⟨by kernel_rfl, fun j t ht => by
        rw [Tryz.params10] at ht
        have hm : t ∈ [66, 41, 87] := by
          have := Array.mem_of_getElem? ht
          simpa using this
        have hall : ([66, 41, 87].all fun u => !Tryz.prog.wantsStandIn u) = true := by kernel_rfl
        exact (show Tryz.prog.wantsStandIn t = false by simpa using List.all_eq_true.1 hall t hm)⟩)
    (by kernel_rfl)
#print axioms richer_holds
end Go.Proofs.YtfoaglfnnomdkaaGreatDoor
