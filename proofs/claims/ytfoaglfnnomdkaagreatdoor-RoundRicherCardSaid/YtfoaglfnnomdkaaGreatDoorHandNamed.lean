/- round.out, the closures of CheckProgramme, round.named over assets: contracts. -/
import Derived.Test.YtfoaglfnnomdkaaGreatDoorHandKit
import Derived.Test.YtfoaglfnnomdkaaGreatDoorHandName
import Derived.Test.YtfoaglfnnomdkaaGreatDoorHandShelfF
import Derived.Test.YtfoaglfnnomdkaaGreatDoorHandFuncs
import Derived.Shelf.Abstract
import Derived.Deep.RegionHeld3
import Derived.LoopTactic
set_option linter.all false
namespace Go.Proofs.YtfoaglfnnomdkaaGreatDoor.C
open Go.RowKit Go.Shelf Go.Proofs.YtfoaglfnnomdkaaGreatDoorW.PrintWords Go.Proofs.YtfoaglfnnomdkaaGreatDoorW.PrintMore

/-! ### small words -/
def outB (n lo hi : Int) : Bool := decide (n < lo) || decide (hi < n)
theorem out_calls (n lo hi : Int) (w : World) : Calls Tryz.prog 53 #[.int .i64 n, .int .i64 lo, .int .i64 hi] w fun e w' => e = .returned (.bool (outB n lo hi)) ∧ w = w' := by
  by_cases h : n < lo
  · have hr : outB n lo hi = true := by unfold outB; simp [h]
    have HR := Lib.hid hr
    clear hr
    go_enter Tryz.func53, Tryz.ntmps53
    go_wp2
    go_ret
    exact ⟨by rw [HR.out]; rfl, rfl⟩
  · have hr : outB n lo hi = decide (hi < n) := by unfold outB; simp [h]
    have HR := Lib.hid hr
    clear hr
    go_enter Tryz.func53, Tryz.ntmps53
    go_wp2
    go_ret
    exact ⟨by rw [HR.out]; rfl, rfl⟩
theorem plain_of_cell {w : World} {a : Addr} {v : Value} (h : w.cell? a = some v) : a = ⟨a.block, a.off, none⟩ := by
  obtain ⟨b, o, s⟩ := a
  unfold World.cell? at h
  cases s with
  | none => rfl
  | some s => simp at h; split at h <;> simp at h
/-- A row that is read lies at a plain address. -/
theorem C_plain {α : Type} {d : Kd α} [Inhabited α] {enc : α → List Value} (hK : ∀ w x cs, d.K w x cs → cs = enc x) (hsz : 0 < d.sz) {w : World} {A : Option Addr} {xs : List α} (h : d.C w A xs.length xs) (hn : 0 < xs.length) :
    ∃ b off, A = some ⟨b, off, none⟩ ∧ b < w.heap.size ∧ ∀ j, j < xs.length → ∀ i v, (enc xs[j]!)[i]? = some v → w.cell? ⟨b, off + j * d.sz + i, none⟩ = some v := by
  obtain ⟨_, _, h⟩ := h
  obtain ⟨ad, rfl, hc⟩ := h hn
  have hlen : ∀ j (hj : j < xs.length), xs[j]? = some xs[j]! := fun j hj => by rw [List.getElem?_eq_getElem hj, List.getElem!_eq_getElem?_getD, List.getElem?_eq_getElem hj]; rfl
  obtain ⟨c, hcl, hk, hcell⟩ := hc 0 _ (hlen 0 hn)
  obtain ⟨v, hv⟩ : ∃ v, c[0]? = some v := ⟨c[0]'(by omega), List.getElem?_eq_getElem (by omega)⟩
  have h0 := hcell 0 v hv
  have had : ad = ⟨ad.block, ad.off, none⟩ := by
    have : ad.add (0 * d.sz + 0) = ad := by simp [Addr.add]
    rw [this] at h0
    exact plain_of_cell h0
  refine ⟨ad.block, ad.off, by rw [← had], ?_, fun j hj i v hv => ?_⟩
  · have := World.block_lt_of_cell? w _ h0
    rw [show ad.add (0 * d.sz + 0) = ad by simp [Addr.add]] at this
    exact this
  · obtain ⟨c, _, hk, hcell⟩ := hc j _ (hlen j hj)
    have := hK _ _ _ hk
    subst this
    have h1 := hcell i v hv
    rw [had] at h1
    have e : (⟨ad.block, ad.off, none⟩ : Addr).add (j * d.sz + i) = ⟨ad.block, ad.off + j * d.sz + i, none⟩ := by
      unfold Addr.add
      split
      · rename_i h0; simp [show j * d.sz = 0 by omega, show i = 0 by omega]
      · simp [Nat.add_assoc]
    rw [e] at h1
    exact h1
theorem int_K {k : IntKind} : ∀ w x cs, (Kd.int k).K w x cs → cs = [Value.int k x] := fun _ _ _ h => h
/-- slices.ContainsFunc over numbers, whatever the slice. -/
theorem contains_ints {p : Int → Bool} {g : Nat} {lb : Array Value} (eg : ∀ args w, (callFunc g args).run Tryz.prog w = .ok (.enter g args) w) {A : Option Addr} (c : Nat) {l : List Int} {w : World} (hr : Kd.C (Kd.int .i64) w A l.length l) (hp : PredAt Tryz.prog g lb (Value.int .i64) p w) :
    Calls Tryz.prog 73 #[.slice A l.length c, .func (.func g) #[] lb] w fun e w' => e = .returned (.bool (l.any p)) ∧ Below w.heap.size w w' := by
  rcases Nat.eq_zero_or_pos l.length with h0 | h0
  · obtain rfl := List.eq_nil_of_length_eq_zero h0
    exact (Tryz.slices_ContainsFunc_empty_f73 (α := Int) A c _ w).mono fun e w' ⟨he, hw⟩ => ⟨he, by subst hw; exact Below.refl _ _⟩
  · obtain ⟨b, off, rfl, hb, hc⟩ := C_plain int_K (by decide) hr h0
    refine (Tryz.slices_ContainsFunc_f73 (Value.int .i64) p g lb eg b off l.length c l w hp (Nat.le_refl _) hr.2.1 (fun j hj => by have := hc j hj 0 _ rfl; simpa [Kd.int, Kd.scalar] using this)).mono fun e w' ⟨he, q, hw⟩ => ⟨by rw [he, List.take_of_length_le (Nat.le_refl _)], ?_⟩
    subst hw
    exact below_drewN' (Below.refl _ _) q

/-! ### the closures of CheckProgramme -/
theorem rich_calls (n : Int) (w : World) : Calls Tryz.prog 74 #[.int .i64 n] w fun e w' => e = .returned (.bool (outB n 0 10000000)) ∧ w = w' := by
  go_enter Tryz.func74, Tryz.ntmps74
  go_wp2_with fail
  refine (out_calls _ _ _ _).mono ?_
  rintro e w1 ⟨rfl, rfl⟩
  go_wp2_with fail
  go_ret
  exact ⟨rfl, rfl⟩
theorem rich_pred (w : World) : PredAt Tryz.prog 74 #[] (Value.int .i64) (fun n => outB n 0 10000000) w :=
  fun W x _ => (rich_calls x W).mono fun e w' ⟨he, hw⟩ => ⟨he, 0, hw ▸ rfl⟩
theorem name_calls (x : S73) (w : World) :
    Calls Tryz.prog 76 #[.agg #[.string x.f0, .int .i64 x.f1, .int .i64 x.f2, .int .i64 x.f3, .int .i64 x.f4]] w fun e w' => e = .returned (.string x.f0) ∧ Below w.heap.size w w' := by
  go_enter Tryz.func76, Tryz.ntmps76
  go_wp2_with fail
  go_ret
  exact ⟨rfl, (Below.refl _ _).alloc (Nat.le_refl _) _⟩
/-- The error of an asset, but for its name. -/
def restProg (first : Int) (x : S73) : Int := if outB x.f1 0 1000000 || outB x.f2 0 1000 || outB x.f3 0 10000000 || outB x.f4 0 first then 7 else 0
set_option maxRecDepth 100000 in
set_option maxHeartbeats 400000 in
theorem rest_calls (first : Int) (x : S73) (B : Nat) (w : World) (hc : w.cell? ⟨B, 2, none⟩ = some (.int .i64 first)) :
    Calls Tryz.prog 77 #[.agg #[.string x.f0, .int .i64 x.f1, .int .i64 x.f2, .int .i64 x.f3, .int .i64 x.f4], .pointer (some ⟨B, 0, none⟩)] w fun e w' => e = .returned (.int .i64 (restProg first x)) ∧ Below w.heap.size w w' := by
  have hB : B < w.heap.size := World.block_lt_of_cell? w _ hc
  have hne : B ≠ w.heap.size := by omega
  generalize hR : restProg first x = R
  have HR := Lib.hid hR
  clear hR
  go_enter Tryz.func77, Tryz.ntmps77
  go_wp2_with fail
  refine (out_calls _ _ _ _).mono ?_
  rintro e w1 ⟨rfl, rfl⟩
  cases h1 : outB x.f1 0 1000000
  · have H1 := Lib.hid h1; clear h1
    go_wp2_with fail
    refine (out_calls _ _ _ _).mono ?_
    rintro e w1 ⟨rfl, rfl⟩
    cases h2 : outB x.f2 0 1000
    · have H2 := Lib.hid h2; clear h2
      go_wp2_with fail
      refine (out_calls _ _ _ _).mono ?_
      rintro e w1 ⟨rfl, rfl⟩
      cases h3 : outB x.f3 0 10000000
      · have H3 := Lib.hid h3; clear h3
        go_wp2_with fail
        refine (out_calls _ _ _ _).mono ?_
        rintro e w1 ⟨rfl, rfl⟩
        cases h4 : outB x.f4 0 first
        · have H4 := Lib.hid h4; clear h4
          go_wp2_with fail
          go_ret
          exact ⟨by rw [← HR.out, show restProg first x = 0 by unfold restProg; rw [H1.out, H2.out, H3.out, H4.out]; rfl]; rfl, (Below.refl _ _).alloc (Nat.le_refl _) _⟩
        · have H4 := Lib.hid h4; clear h4
          go_wp2_with fail
          go_ret
          exact ⟨by rw [← HR.out, show restProg first x = 7 by unfold restProg; rw [H1.out, H2.out, H3.out, H4.out]; rfl]; rfl, (Below.refl _ _).alloc (Nat.le_refl _) _⟩
      · have H3 := Lib.hid h3; clear h3
        go_wp2_with fail
        go_ret
        exact ⟨by rw [← HR.out, show restProg first x = 7 by unfold restProg; rw [H1.out, H2.out, H3.out]; rfl]; rfl, (Below.refl _ _).alloc (Nat.le_refl _) _⟩
    · have H2 := Lib.hid h2; clear h2
      go_wp2_with fail
      go_ret
      exact ⟨by rw [← HR.out, show restProg first x = 7 by unfold restProg; rw [H1.out, H2.out]; rfl]; rfl, (Below.refl _ _).alloc (Nat.le_refl _) _⟩
  · have H1 := Lib.hid h1; clear h1
    go_wp2_with fail
    go_ret
    exact ⟨by rw [← HR.out, show restProg first x = 7 by unfold restProg; rw [H1.out]; rfl]; rfl, (Below.refl _ _).alloc (Nat.le_refl _) _⟩

/-! ### round.named over assets -/
theorem keep_cell {W w1 : World} (hb : Below W.heap.size W w1) {b o : Nat} {v : Value} (h : W.cell? ⟨b, o, none⟩ = some v) : w1.cell? ⟨b, o, none⟩ = some v := (bcell hb b o (World.block_lt_of_cell? W _ h)).trans h
theorem keep_froz {W w1 : World} (hb : Below W.heap.size W w1) {b o : Nat} {u : Value} {v : Bool} (h0 : W.cell? ⟨b, o, none⟩ = some u) (h : W.frozen? ⟨b, o, none⟩ = v) : w1.frozen? ⟨b, o, none⟩ = v := (bfroz hb b o (World.block_lt_of_cell? W _ h0)).trans h
def encAsset (x : S73) : List Value := [.string x.f0, .int .i64 x.f1, .int .i64 x.f2, .int .i64 x.f3, .int .i64 x.f4]
set_option maxRecDepth 100000 in
set_option maxHeartbeats 400000 in
theorem twin_calls (x y : S73) (Bn Bx : Nat) (w : World) (hn : w.cell? ⟨Bn, 0, none⟩ = some (.func (.func 76) #[] #[]))
    (h0 : w.cell? ⟨Bx, 0, none⟩ = some (.string x.f0)) (h1 : w.cell? ⟨Bx, 1, none⟩ = some (.int .i64 x.f1)) (h2 : w.cell? ⟨Bx, 2, none⟩ = some (.int .i64 x.f2)) (h3 : w.cell? ⟨Bx, 3, none⟩ = some (.int .i64 x.f3)) (h4 : w.cell? ⟨Bx, 4, none⟩ = some (.int .i64 x.f4)) :
    Calls Tryz.prog 117 #[.agg #[.string y.f0, .int .i64 y.f1, .int .i64 y.f2, .int .i64 y.f3, .int .i64 y.f4], .pointer (some ⟨Bn, 0, none⟩), .pointer (some ⟨Bx, 0, none⟩)] w fun e w' => e = .returned (.bool (y.f0.toList == x.f0.toList)) ∧ Below w.heap.size w w' := by
  have hBn : Bn < w.heap.size := World.block_lt_of_cell? w _ hn
  have hBx : Bx < w.heap.size := World.block_lt_of_cell? w _ h0
  have hne : Bn ≠ w.heap.size := by omega
  have hne2 : Bx ≠ w.heap.size := by omega
  go_enter Tryz.func117, Tryz.ntmps117
  go_wp2_with fail
  go_region_held3 (fun W' => W'.cell? ⟨Bn, 0, none⟩ = some (.func (.func 76) #[] #[]) ∧ W'.cell? ⟨w.heap.size, 0, none⟩ = some (.string y.f0) ∧ W'.cell? ⟨w.heap.size, 1, none⟩ = some (.int .i64 y.f1) ∧ W'.cell? ⟨w.heap.size, 2, none⟩ = some (.int .i64 y.f2) ∧ W'.cell? ⟨w.heap.size, 3, none⟩ = some (.int .i64 y.f3) ∧ W'.cell? ⟨w.heap.size, 4, none⟩ = some (.int .i64 y.f4) ∧
      W'.cell? ⟨Bx, 0, none⟩ = some (.string x.f0) ∧ W'.cell? ⟨Bx, 1, none⟩ = some (.int .i64 x.f1) ∧ W'.cell? ⟨Bx, 2, none⟩ = some (.int .i64 x.f2) ∧ W'.cell? ⟨Bx, 3, none⟩ = some (.int .i64 x.f3) ∧ W'.cell? ⟨Bx, 4, none⟩ = some (.int .i64 x.f4) ∧ Below w.heap.size w W')
    (first
      | (go_split_ands; exact ⟨keep_cell hb' (by assumption), keep_cell hb' (by assumption), keep_cell hb' (by assumption), keep_cell hb' (by assumption), keep_cell hb' (by assumption), keep_cell hb' (by assumption), keep_cell hb' (by assumption), keep_cell hb' (by assumption), keep_cell hb' (by assumption), keep_cell hb' (by assumption), keep_cell hb' (by assumption), after (by assumption) hb'⟩)
      | (go_split_ands; refine ⟨by simp [go_sem, *], by simp [go_sem, *], by simp [go_sem, *], by simp [go_sem, *], by simp [go_sem, *], by simp [go_sem, *], by simp [go_sem, *], by simp [go_sem, *], by simp [go_sem, *], by simp [go_sem, *], by simp [go_sem, *], ?_⟩; (repeat (first | (with_reducible exact Below.refl _ _) | (with_reducible assumption) | (with_reducible exact Hid.out (by assumption)) | (with_reducible refine Below.setCell ?_ (by first | (simp; done) | omega | (simp; omega)) _) | (with_reducible refine Below.alloc ?_ (by first | (simp; done) | omega | (simp; omega)) _) | (with_reducible refine Below.drew ?_) | (with_reducible refine pw_below_drewN ?_ _))))
      | go_keep)
    (first | (go_at_call 76; refine (name_calls ⟨_, _, _, _, _⟩ _).mono ?_; rintro e w' ⟨rfl, hb'⟩))
  go_wp2_with fail
  go_split_ands
  go_ret
  exact ⟨rfl, by assumption⟩
theorem twin_pred (x : S73) (Bn Bx : Nat) (w : World) (hn : w.cell? ⟨Bn, 0, none⟩ = some (.func (.func 76) #[] #[]))
    (h0 : w.cell? ⟨Bx, 0, none⟩ = some (.string x.f0)) (h1 : w.cell? ⟨Bx, 1, none⟩ = some (.int .i64 x.f1)) (h2 : w.cell? ⟨Bx, 2, none⟩ = some (.int .i64 x.f2)) (h3 : w.cell? ⟨Bx, 3, none⟩ = some (.int .i64 x.f3)) (h4 : w.cell? ⟨Bx, 4, none⟩ = some (.int .i64 x.f4)) :
    PredBelow Tryz.prog 117 #[.pointer (some ⟨Bn, 0, none⟩), .pointer (some ⟨Bx, 0, none⟩)] (fun y : S73 => .agg (encAsset y).toArray) (fun y => y.f0.toList == x.f0.toList) w :=
  fun W y hb => (twin_calls x y Bn Bx W ((hb.cell (p := ⟨Bn, 0, none⟩) (World.block_lt_of_cell? w _ hn)).trans hn) ((hb.cell (p := ⟨Bx, 0, none⟩) (World.block_lt_of_cell? w _ h0)).trans h0) ((hb.cell (p := ⟨Bx, 1, none⟩) (World.block_lt_of_cell? w _ h1)).trans h1)
    ((hb.cell (p := ⟨Bx, 2, none⟩) (World.block_lt_of_cell? w _ h2)).trans h2) ((hb.cell (p := ⟨Bx, 3, none⟩) (World.block_lt_of_cell? w _ h3)).trans h3) ((hb.cell (p := ⟨Bx, 4, none⟩) (World.block_lt_of_cell? w _ h4)).trans h4)).mono fun e w' ⟨he, hb'⟩ => ⟨he, after hb hb'⟩

/-- The error of the i-th of some named things: that of its name, or another one. -/
def errAt {α : Type} (nm : α → ByteArray) (rest : α → Int) (l : List α) (i : Nat) (x : α) : Int :=
  if nameOf (nm x) = false then 6 else if (l.take i).any (fun y => (nm y).toList == (nm x).toList) = true then 5 else rest x
/-- The index and the error of the first that has one. -/
def namedF {α : Type} [Inhabited α] (nm : α → ByteArray) (rest : α → Int) (l : List α) : Nat → Nat → Int × Int
  | 0, _ => (0, 0)
  | k + 1, i => if errAt nm rest l i l[i]! = 0 then namedF nm rest l k (i + 1) else ((i : Int), errAt nm rest l i l[i]!)
/-- A function value that tells a thing's error, and makes memory at most. -/
def RestAt {α : Type} (g : Nat) (lb : Array Value) (enc : α → List Value) (rest : α → Int) (w : World) : Prop :=
  ∀ (x : α) (W : World), Below w.heap.size w W → Calls Tryz.prog g (#[.agg (enc x).toArray] ++ lb) W fun e w' => e = .returned (.int .i64 (rest x)) ∧ Below W.heap.size W w'
instance : Inhabited S73 := ⟨z73⟩
theorem asset_K : ∀ w x cs, (k73).K w x cs → cs = encAsset x := fun _ _ _ h => k73_open h
set_option maxRecDepth 100000 in
set_option maxHeartbeats 1000000 in
theorem named_assets (rest : S73 → Int) (g : Nat) (lb : Array Value) (eg : ∀ args w, (callFunc g args).run Tryz.prog w = .ok (.enter g args) w) {A : Option Addr} (c : Nat) {l : List S73} {w : World}
    (hr : Kd.C k73 w A l.length l) (hs : ∀ x ∈ l, x.f0.size ≤ 9223372036854775807) (hlc : l.length ≤ c) (hp : RestAt g lb encAsset rest w) :
    Calls Tryz.prog 75 #[.slice A l.length c, .func (.func 76) #[] #[], .func (.func g) #[] lb] w fun e w' =>
      e = .returned (.tuple #[.int .i64 (namedF S73.f0 rest l l.length 0).1, .int .i64 (namedF S73.f0 rest l l.length 0).2]) ∧ Below w.heap.size w w' := by
  generalize hR : namedF S73.f0 rest l l.length 0 = R
  have HR := Lib.hid hR
  have hlen := hr.2.1
  have HC : Hid (0 < l.length → ∃ b off, A = some ⟨b, off, none⟩ ∧ b < w.heap.size ∧ ∀ j, j < l.length → ∀ i v, (encAsset l[j]!)[i]? = some v → w.cell? ⟨b, off + j * 5 + i, none⟩ = some v) := Lib.hid fun hn => C_plain asset_K (by decide) hr hn
  have HS := Lib.hid hs
  have HP := Lib.hid hp
  clear hR hr hs hp
  go_enter Tryz.func75, Tryz.ntmps75
  go_wp2_with fail
  go_loopw [13] (fun v wr => ∃ k : Nat, k ≤ l.length ∧ v = .int .i64 (k : Int) ∧ Hid (namedF S73.f0 rest l (l.length - k) k = R) ∧ Hid (Below w.heap.size w wr) ∧ Hid (wr.cell? ⟨w.heap.size, 0, none⟩ = some (.func (.func 76) #[] #[]))) (fun v _ => l.length - (intOf v).toNat)
  case atStart => exact ⟨0, Nat.zero_le _, rfl, Lib.hid HR.out, Lib.hid ((Below.refl _ _).alloc (Nat.le_refl _) _), Lib.hid (by simp [go_sem])⟩
  case round =>
    obtain ⟨k, hk, rfl, hN, hB, hF⟩ := hrel
    by_cases hlt : k < l.length
    · have hkl : (k : Int) < (l.length : Int) := by omega
      obtain ⟨b, off, rfl, hb, hc⟩ := HC.out (by omega)
      have hB' := hB.out
      have hnm := hF.out
      have hold : ∀ i v, (encAsset l[k]!)[i]? = some v → wr.cell? ⟨b, off + k * 5 + i, none⟩ = some v := fun i v hv => (hB'.cell (p := ⟨b, off + k * 5 + i, none⟩) hb).trans (hc k hlt i v hv)
      have hmem : l[k]! ∈ l := by rw [List.getElem!_eq_getElem?_getD, List.getElem?_eq_getElem hlt]; exact List.getElem_mem hlt
      have hsz := HS.out _ hmem
      have hn := hN.out
      obtain ⟨m, hm⟩ : ∃ m, l.length - k = m + 1 := ⟨l.length - k - 1, by omega⟩
      have hm' : l.length - (k + 1) = m := by omega
      rw [hm, namedF, ← hm'] at hn
      generalize l[k]! = x at hold hsz hn hmem
      have HN := Lib.hid hn
      have e0 : wr.cell? ⟨b, off + k * 5, none⟩ = some (.string x.f0) := hold 0 _ rfl
      have e1 := hold 1 _ rfl
      have e2 := hold 2 _ rfl
      have e3 := hold 3 _ rfl
      have e4 := hold 4 _ rfl
      have HSZ := Lib.hid hsz
      have lr : w.heap.size < wr.heap.size := World.block_lt_of_cell? wr _ hnm
      have hbr : b < wr.heap.size := by omega
      have HB0 : Hid (Below w.heap.size w wr) := Lib.hid hB'
      have HC0 := Lib.hid hc
      clear hn hN hm hm' hold hc hB' hmem hsz hB hF HC m
      go_wp2_with fail
      refine (HP.out x _ (HB0.out.alloc (by omega) _)).mono ?_
      rintro e w1 ⟨rfl, hb1⟩
      have x0 : w1.cell? ⟨wr.heap.size, 0, none⟩ = some (.string x.f0) := keep_cell hb1 (by simp [go_sem])
      have x1 : w1.cell? ⟨wr.heap.size, 1, none⟩ = some (.int .i64 x.f1) := keep_cell hb1 (by simp [go_sem])
      have x2 : w1.cell? ⟨wr.heap.size, 2, none⟩ = some (.int .i64 x.f2) := keep_cell hb1 (by simp [go_sem])
      have x3 : w1.cell? ⟨wr.heap.size, 3, none⟩ = some (.int .i64 x.f3) := keep_cell hb1 (by simp [go_sem])
      have x4 : w1.cell? ⟨wr.heap.size, 4, none⟩ = some (.int .i64 x.f4) := keep_cell hb1 (by simp [go_sem])
      have n1 : w1.cell? ⟨w.heap.size, 0, none⟩ = some (.func (.func 76) #[] #[]) := keep_cell hb1 ((World.cell?_alloc_lt _ _ _ lr).trans hnm)
      have HB1 : Hid (Below w.heap.size w w1) := Lib.hid (after (HB0.out.alloc (by omega) _) hb1)
      have hz1 : wr.heap.size < w1.heap.size := by have := hb1.size; simp at this; omega
      clear hb1 hnm e0 e1 e2 e3 e4 HB0
      generalize hrv : rest x = rv
      have HRV := Lib.hid hrv
      clear hrv
      go_wp2_with fail
      refine (name_calls x _).mono ?_
      rintro e w2 ⟨rfl, hb2⟩
      replace x0 := keep_cell hb2 x0
      replace x1 := keep_cell hb2 x1
      replace x2 := keep_cell hb2 x2
      replace x3 := keep_cell hb2 x3
      replace x4 := keep_cell hb2 x4
      replace n1 := keep_cell hb2 n1
      have HB2 : Hid (Below w.heap.size w w2) := Lib.hid (after HB1.out hb2)
      have hz2 : wr.heap.size < w2.heap.size := by have := hb2.size; omega
      clear hb2 HB1 hz1
      go_wp2_with fail
      refine (lamp_Name.calls x.f0 (nameOf x.f0) _ (by unfold lamp_Name.f; rw [if_pos HSZ.out])).mono ?_
      rintro e w3 ⟨rfl, hb3⟩
      replace x0 := keep_cell hb3 x0
      replace x1 := keep_cell hb3 x1
      replace x2 := keep_cell hb3 x2
      replace x3 := keep_cell hb3 x3
      replace x4 := keep_cell hb3 x4
      replace n1 := keep_cell hb3 n1
      have HB3 : Hid (Below w.heap.size w w3) := Lib.hid (after HB2.out hb3)
      have hz3 : wr.heap.size < w3.heap.size := by have := hb3.size; omega
      clear hb3 HB2 hz2
      cases hnb : nameOf x.f0
      · have HE : Hid (errAt S73.f0 rest l k x = 6) := Lib.hid (by unfold errAt; rw [hnb]; rfl)
        clear hnb
        go_wp2_with fail
        go_ret2
        refine ⟨?_, HB3.out⟩
        rw [← HN.out, HE.out]
        rfl
      · have HNB := Lib.hid hnb
        clear hnb
        go_wp2_with fail
        refine (Tryz.containsFunc_RoAsset 5 Tryz.sizeOf73 encAsset (fun _ => rfl) (fun y => y.f0.toList == x.f0.toList) 117 _ (enters_of Tryz.func117 (by kernel_rfl) rfl) b off k c l w3 (twin_pred x w.heap.size wr.heap.size w3 n1 x0 x1 x2 x3 x4) hk (by omega) (Nat.lt_of_lt_of_le hb HB3.out.size) (fun j hj i v hv => (HB3.out.cell (p := ⟨b, off + j * 5 + i, none⟩) hb).trans (HC0.out j hj i v hv))).mono ?_
        rintro e w4 ⟨rfl, hb4⟩
        have HB4 : Hid (Below w.heap.size w w4) := Lib.hid (after HB3.out hb4)
        have HF4 := Lib.hid (keep_cell hb4 n1)
        clear hb4 HB3 hz3 x0 x1 x2 x3 x4 n1 HC0 hb
        cases hany : (l.take k).any (fun y => y.f0.toList == x.f0.toList)
        · have HE : Hid (errAt S73.f0 rest l k x = rv) := Lib.hid (by unfold errAt; rw [HNB.out, if_neg (by simp), hany, if_neg (by simp)]; exact HRV.out)
          clear hany
          by_cases hz : rv = 0
          · subst hz
            have hn := HN.out
            rw [HE.out, if_pos rfl] at hn
            have HN' := Lib.hid hn
            clear hn HN
            go_wp2_with fail
            go_roundw
            case rel => exact ⟨k + 1, by omega, by go_num, HN'.out, HB4.out, HF4.out⟩
            case measure => simp [intOf]; omega
          · go_wp2_with fail
            go_ret2
            refine ⟨?_, HB4.out⟩
            rw [← HN.out, HE.out, if_neg hz]
            rfl
        · have HE : Hid (errAt S73.f0 rest l k x = 5) := Lib.hid (by unfold errAt; rw [HNB.out, if_neg (by simp), hany, if_pos rfl])
          clear hany
          go_wp2_with fail
          go_ret2
          refine ⟨?_, HB4.out⟩
          rw [← HN.out, HE.out]
          rfl
    · obtain rfl : k = l.length := by omega
      have hn := hN.out
      rw [Nat.sub_self, namedF] at hn
      have HN := Lib.hid hn
      have HB0 := hB
      clear hn hN hF hB
      go_wp2_with fail
      go_ret2
      refine ⟨?_, HB0.out⟩
      rw [← HN.out]
      rfl
end Go.Proofs.YtfoaglfnnomdkaaGreatDoor.C
