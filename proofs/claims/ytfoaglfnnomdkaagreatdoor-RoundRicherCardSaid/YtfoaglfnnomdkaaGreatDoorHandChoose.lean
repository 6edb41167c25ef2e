/- round.Choose: the contract. -/
import Derived.Test.YtfoaglfnnomdkaaGreatDoorHandProgOk
import Derived.Test.YtfoaglfnnomdkaaGreatDoorHandRegion
import Derived.StillTailTactics
import Derived.Laws.EntriesVeiled
import Derived.Test.YtfoaglfnnomdkaaGreatDoorHandShelfC
set_option linter.all false
namespace Go.Proofs.YtfoaglfnnomdkaaGreatDoor.C
open Go.RowKit Go.Shelf Go.Proofs.YtfoaglfnnomdkaaGreatDoorW.PrintWords Go.Proofs.YtfoaglfnnomdkaaGreatDoorW.PrintMore

/-- Only blocks of S may have changed, and there may be new ones. -/
structure Only (S : Nat → Prop) (w w' : World) : Prop where
  os : w'.os = w.os
  tape : w'.tape = w.tape
  output : w'.output = w.output
  size : w.heap.size ≤ w'.heap.size
  block : ∀ k, k < w.heap.size → ¬ S k → w'.heap[k]? = w.heap[k]?
theorem Only.refl (S : Nat → Prop) (w : World) : Only S w w := ⟨rfl, rfl, rfl, Nat.le_refl _, fun _ _ _ => rfl⟩
theorem Only.trans {S : Nat → Prop} {a b c : World} (h : Only S a b) (k : Only S b c) : Only S a c :=
  ⟨k.os.trans h.os, k.tape.trans h.tape, k.output.trans h.output, Nat.le_trans h.size k.size, fun j hj hs => (k.block j (Nat.lt_of_lt_of_le hj h.size) hs).trans (h.block j hj hs)⟩
theorem Only.of_below {S : Nat → Prop} {a b : World} (h : Below a.heap.size a b) : Only S a b := ⟨h.os, h.tape, h.output, h.size, fun j hj _ => h.block j hj⟩
theorem Only.of_grown {S : Nat → Prop} {a b : World} {row : Option Nat} (h : a.grownBy b row) (hs : ∀ k, row = some k → S k) : Only S a b :=
  ⟨h.os, h.tape, h.output, h.size, fun j hj hn => h.block j hj (fun e => hn (hs j e.symm))⟩
theorem Only.set {S : Nat → Prop} (w : World) {p : Addr} (hp : S p.block) (u : Value) : Only S w (w.setCell p u) :=
  ⟨rfl, rfl, rfl, by simp [World.setCell], fun j _ hn => Below.heap_setCell w p u j (fun e => hn (e ▸ hp))⟩
theorem Only.drew {S : Nat → Prop} (w : World) : Only S w w.drew := ⟨rfl, rfl, rfl, Nat.le_refl _, fun _ _ _ => rfl⟩
theorem Only.below {S : Nat → Prop} {a b : World} (h : Only S a b) {B : Nat} (hB : B ≤ a.heap.size) (hs : ∀ k, S k → B ≤ k) : Below B a b :=
  ⟨h.os, h.tape, h.output, Nat.le_trans (Nat.le_refl _) h.size, fun j hj => h.block j (by omega) (fun hk => by have := hs j hk; omega)⟩
theorem Only.cell {S : Nat → Prop} {a b : World} (h : Only S a b) {g o : Nat} (hg : ¬ S g) {v : Value} (hc : a.cell? ⟨g, o, none⟩ = some v) : b.cell? ⟨g, o, none⟩ = some v := by
  have hlt := World.block_lt_of_cell? a _ hc
  have := h.block g hlt hg
  unfold World.cell? at hc ⊢
  simp only at hc ⊢
  rw [this]
  exact hc
theorem Only.froz {S : Nat → Prop} {a b : World} (h : Only S a b) {g o : Nat} (hg : ¬ S g) (hlt : g < a.heap.size) : b.frozen? ⟨g, o, none⟩ = a.frozen? ⟨g, o, none⟩ := by
  have := h.block g hlt hg
  unfold World.frozen?
  simp only
  rw [this]

/-- A cell that gets what it holds. -/
theorem setCell_self {w : World} {b o : Nat} {v : Value} (h : w.cell? ⟨b, o, none⟩ = some v) : w.setCell ⟨b, o, none⟩ v = w := by
  have hb := World.block_lt_of_cell? w _ h
  unfold World.cell? at h
  simp only at h hb
  rw [Array.getElem?_eq_getElem hb] at h
  unfold World.setCell
  have : w.heap.modify b (fun | .cells c elem frozen => .cells (if (none : Option _).isSome (α := Nat) then c else c.setIfInBounds o v) elem frozen | o => o) = w.heap := by
    apply Array.ext_getElem?
    intro i
    rw [Array.getElem?_modify]
    split
    · rename_i e
      subst e
      rw [Array.getElem?_eq_getElem hb]
      generalize w.heap[b] = x at h
      cases x
      case cells c e f =>
        simp only [Option.isSome_none, Bool.false_eq_true, if_false] at h ⊢
        simp only [Option.map_some, Option.some.injEq, Obj.cells.injEq, and_true]
        apply Array.ext_getElem?
        intro j
        rw [Array.getElem?_setIfInBounds]
        split
        · rename_i e; subst e; rw [h]; simp [(Array.getElem?_eq_some_iff.1 h).1]
        · rfl
      all_goals simp at h
    · rfl
  simp only [] at this ⊢
  exact congrArg (fun h => { w with heap := h }) this
/-- An operation that changes nothing and yields nothing. -/
theorem ExtOp.noop {ops : Array Oper} {o : Oper} {a : Act} {w : World} {R : Value → World → Prop} (hg : o.guard = none) (h : (execOp a.eval o).run Tryz.prog w = .ok .skip w) (hR : R undef w) : ExtOp Tryz.prog o ops a w R := by
  unfold ExtOp
  rw [if_pos (by simp [Region.wanted, hg]), h]
  exact ⟨Below.refl _ _, hR⟩
/-! ### what Choose computes -/
/-- The periods that come into question for one asset, from period i on. -/
def chLoop (rec : List Int → Int → List Int × Int → List Int × Int) (cost : Int) (left : List Int) : Nat → Nat → List Int × Int → List Int × Int
  | 0, _, b => b
  | f + 1, i, b => if left[i]! < cost then chLoop rec cost left f (i + 1) b else chLoop rec cost left f (i + 1) (rec (left.set i (left[i]! - cost)) (i : Int) b)
/-- The best programme that begins so, or the best one so far. -/
def chSearch (l0 : List S73) (l1 : List Int) (first days : Int) : Nat → Nat → List Int → List Int → Int → List Int × Int → List Int × Int
  | 0, _, _, now, so, b => if b.2 < so then (now, so) else b
  | d + 1, k, left, now, so, b =>
    chLoop (fun left' i b' => chSearch l0 l1 first days d (k + 1) left' (now ++ [i]) (wrap64 (so + benV l0 l1 first days l0[k]! i)) b') l0[k]!.f1 left l1.length 0
      (chSearch l0 l1 first days d (k + 1) left (now ++ [-1]) so b)
/-! ### the memory of Choose -/
/-- The blocks that the search writes. -/
def Mut (Bper Bsum BN BNd : Nat) (lv : Value) (j : Nat) : Prop := j = Bper ∨ j = Bsum ∨ j = BN ∨ j = BNd ∨ lv.ownBlock = some j
structure St (B0 Bp Bper Bsum BN BNd BX BL N c0 c1 : Nat) (A0 A1 : Option Addr) (l0 : List S73) (l1 : List Int) (first days : Int) (lv : Value) (now left : List Int) (b : List Int × Int) (W : World) : Prop where
  p0 : W.cell? ⟨Bp, 0, none⟩ = some (.slice A0 l0.length c0)
  p1 : W.cell? ⟨Bp, 1, none⟩ = some (.slice A1 l1.length c1)
  p2 : W.cell? ⟨Bp, 2, none⟩ = some (.int .i64 first)
  p3 : W.cell? ⟨Bp, 3, none⟩ = some (.int .i64 days)
  fn : W.cell? ⟨BX, 0, none⟩ = some (.func (.func 85) #[] #[.pointer (some ⟨BN, 0, none⟩), .pointer (some ⟨Bp, 0, none⟩), .pointer (some ⟨Bsum, 0, none⟩), .pointer (some ⟨Bper, 0, none⟩), .pointer (some ⟨BX, 0, none⟩), .pointer (some ⟨BL, 0, none⟩)])
  nowc : W.cell? ⟨BN, 0, none⟩ = some (.slice (some ⟨BNd, 0, none⟩) now.length N)
  nowf : W.frozen? ⟨BN, 0, none⟩ = false
  nowr : W.ownsRow B0 3 1 (.slice (some ⟨BNd, 0, none⟩) now.length N) now.length (encs (Value.int .i64) now)
  leftc : W.cell? ⟨BL, 0, none⟩ = some lv
  leftr : W.ownsRow B0 3 1 lv left.length (encs (Value.int .i64) left)
  sumc : W.cell? ⟨Bsum, 0, none⟩ = some (.int .i64 b.2)
  sumf : W.frozen? ⟨Bsum, 0, none⟩ = false
  perf : W.frozen? ⟨Bper, 0, none⟩ = false
  per : ∃ pv, W.cell? ⟨Bper, 0, none⟩ = some pv ∧ (Kd.int .i64).R 3 W B0 (fun j => ¬ Mut Bper Bsum BN BNd lv j) pv b.1
/-- The blocks are different ones. -/
structure Apart (Bp Bper Bsum BN BNd BX BL : Nat) (lv : Value) : Prop where
  p : ¬ Mut Bper Bsum BN BNd lv Bp
  x : ¬ Mut Bper Bsum BN BNd lv BX
  l : ¬ Mut Bper Bsum BN BNd lv BL
  ps : Bper ≠ Bsum
  pn : Bper ≠ BN
  pd : Bper ≠ BNd
  pl : lv.ownBlock ≠ some Bper
  sn : Bsum ≠ BN
  sd : Bsum ≠ BNd
  sl : lv.ownBlock ≠ some Bsum
  nd : BN ≠ BNd
  nl : lv.ownBlock ≠ some BN
  dl : lv.ownBlock ≠ some BNd
/-- slices.Clone of a row of the call's own. -/
theorem clone_own {w : World} {B g n cap : Nat} {l : List Int} (ho : w.ownsRow B 3 1 (.slice (some ⟨g, 0, none⟩) n cap) n (encs (Value.int .i64) l)) (hn : n * 8 ≤ 140737488355328) :
    Calls Tryz.prog 49 #[.slice (some ⟨g, 0, none⟩) n cap] w fun e w' => ∃ v', e = .returned v' ∧ w'.ownsRow w.heap.size 3 1 v' l.length (encs (Value.int .i64) l) ∧ Below w.heap.size w w' := by
  have hl : l.length = n := by have := ho.1; simpa [encs] using this
  subst hl
  rcases Nat.eq_zero_or_pos l.length with h0 | h0
  · obtain rfl := List.eq_nil_of_length_eq_zero h0
    exact (Tryz.slices_Clone_int_zero ⟨g, 0, none⟩ cap w).mono fun e w' ⟨v', he, h1, _, h2⟩ => ⟨v', he, by simpa [encs] using h1, h2⟩
  · refine (Tryz.slices_Clone_int g 0 l.length cap l w (Nat.le_refl _) hn (fun j hj => ?_)).mono fun e w' ⟨v', he, h1, _, h2⟩ => ⟨v', he, by rw [List.take_of_length_le (Nat.le_refl _)] at h1; exact h1, h2⟩
    have := ho.cellAt j (by omega)
    rw [Nat.zero_add, this]
    unfold encs
    rw [List.getElem?_map, List.getElem?_eq_getElem hj, List.getD_eq_getElem?_getD, List.getElem?_eq_getElem hj]
    rfl
section
variable {B0 Bp Bper Bsum BN BNd BX BL N c0 c1 : Nat} {A0 A1 : Option Addr} {l0 : List S73} {l1 : List Int} {first days : Int} {lv : Value}
/-- What only new blocks change. -/
theorem St.keep {now left : List Int} {b : List Int × Int} {W W1 : World} (h : St B0 Bp Bper Bsum BN BNd BX BL N c0 c1 A0 A1 l0 l1 first days lv now left b W) (hb : Below W.heap.size W W1) : St B0 Bp Bper Bsum BN BNd BX BL N c0 c1 A0 A1 l0 l1 first days lv now left b W1 where
  p0 := keep_cell hb h.p0
  p1 := keep_cell hb h.p1
  p2 := keep_cell hb h.p2
  p3 := keep_cell hb h.p3
  fn := keep_cell hb h.fn
  nowc := keep_cell hb h.nowc
  nowf := keep_froz hb h.nowc h.nowf
  nowr := own_move h.nowr (fun k hk => hb.block k (own_lt h.nowr k hk))
  leftc := keep_cell hb h.leftc
  leftr := own_move h.leftr (fun k hk => hb.block k (own_lt h.leftr k hk))
  sumc := keep_cell hb h.sumc
  sumf := keep_froz hb h.sumc h.sumf
  perf := by obtain ⟨pv, hp, _⟩ := h.per; exact keep_froz hb hp h.perf
  per := by obtain ⟨pv, hp, hr⟩ := h.per; exact ⟨pv, keep_cell hb hp, Kd.R_below hr hb⟩
/-- A leaf of the search: the programme is better than the best so far. -/
theorem St.better {now left : List Int} {b : List Int × Int} {so : Int} {pv : Value} {W : World} (ap : Apart Bp Bper Bsum BN BNd BX BL lv) (h : St B0 Bp Bper Bsum BN BNd BX BL N c0 c1 A0 A1 l0 l1 first days lv now left b W) (hr : (Kd.int .i64).R 3 W B0 (fun j => ¬ Mut Bper Bsum BN BNd lv j) pv now) :
    St B0 Bp Bper Bsum BN BNd BX BL N c0 c1 A0 A1 l0 l1 first days lv now left (now, so) ((W.setCell ⟨Bper, 0, none⟩ pv).setCell ⟨Bsum, 0, none⟩ (.int .i64 so)) := by
  obtain ⟨pv0, hp0, _⟩ := h.per
  have o1 : Only (fun j => j = Bper ∨ j = Bsum) W ((W.setCell ⟨Bper, 0, none⟩ pv).setCell ⟨Bsum, 0, none⟩ (.int .i64 so)) := (Only.set W (.inl rfl) pv).trans (Only.set _ (.inr rfl) _)
  have no : ∀ j, ¬ Mut Bper Bsum BN BNd lv j → ¬ (j = Bper ∨ j = Bsum) := fun j hj => fun e => hj (by rcases e with e | e; exact .inl e; exact .inr (.inl e))
  have hps : (⟨Bper, 0, none⟩ : Addr) ≠ ⟨Bsum, 0, none⟩ := by simpa using ap.ps
  have mv : ∀ {v : Value} {n : Nat} {xs : List Value}, W.ownsRow B0 3 1 v n xs → v.ownBlock ≠ some Bper → v.ownBlock ≠ some Bsum → ((W.setCell ⟨Bper, 0, none⟩ pv).setCell ⟨Bsum, 0, none⟩ (.int .i64 so)).ownsRow B0 3 1 v n xs := fun ho h1 h2 =>
    own_setCell (own_setCell ho (fun e => h1 e.symm) _) (fun e => h2 e.symm) _
  have hpc : (W.setCell ⟨Bper, 0, none⟩ pv).cell? ⟨Bper, 0, none⟩ = some pv := World.cell?_setCell_same _ _ _ hp0
  exact {
    p0 := o1.cell (no _ ap.p) h.p0
    p1 := o1.cell (no _ ap.p) h.p1
    p2 := o1.cell (no _ ap.p) h.p2
    p3 := o1.cell (no _ ap.p) h.p3
    fn := o1.cell (no _ ap.x) h.fn
    nowc := o1.cell (fun e => by rcases e with e | e; exact ap.pn e.symm; exact ap.sn e.symm) h.nowc
    nowf := (o1.froz (fun e => by rcases e with e | e; exact ap.pn e.symm; exact ap.sn e.symm) (World.block_lt_of_cell? W _ h.nowc)).trans h.nowf
    nowr := mv h.nowr (fun e => ap.pd (by simpa [Value.ownBlock] using e.symm)) (fun e => ap.sd (by simpa [Value.ownBlock] using e.symm))
    leftc := o1.cell (no _ ap.l) h.leftc
    leftr := mv h.leftr ap.pl ap.sl
    sumc := World.cell?_setCell_same _ _ _ (by rw [World.cell?_setCell_other _ _ _ _ hps]; exact h.sumc)
    sumf := by simp [go_sem, h.sumf]
    perf := by simp [go_sem, h.perf]
    per := ⟨pv, by rw [World.cell?_setCell_other _ _ _ _ hps.symm]; exact hpc, Kd.R_step hr (fun j hj hlt => o1.block j hlt (no j hj))⟩ }
/-- A store into the row of what is left. -/
theorem St.setLeft {now left : List Int} {b : List Int × Int} {W : World} {g n cap : Nat} (ap : Apart Bp Bper Bsum BN BNd BX BL lv) (hlv : lv = .slice (some ⟨g, 0, none⟩) n cap) (h : St B0 Bp Bper Bsum BN BNd BX BL N c0 c1 A0 A1 l0 l1 first days lv now left b W) (hn : left.length = n) (i : Nat) (v : Int) : St B0 Bp Bper Bsum BN BNd BX BL N c0 c1 A0 A1 l0 l1 first days lv now (left.set i v) b (W.setCell ⟨g, i, none⟩ (.int .i64 v)) := by
  have hown : lv.ownBlock = some g := by rw [hlv]; rfl
  have hm : Mut Bper Bsum BN BNd lv g := .inr (.inr (.inr (.inr hown)))
  have hs : ¬ Bsum = g := fun e => ap.sl (by rw [e]; exact hown)
  have hp' : ¬ Bper = g := fun e => ap.pl (by rw [e]; exact hown)
  have np : ¬ Bp = g := fun e => ap.p (by rw [e]; exact hm)
  have nx : ¬ BX = g := fun e => ap.x (by rw [e]; exact hm)
  have nl_ : ¬ BL = g := fun e => ap.l (by rw [e]; exact hm)
  have o : Only (fun j => j = g) W (W.setCell ⟨g, i, none⟩ (.int .i64 v)) := Only.set (S := fun j => j = g) W (p := ⟨g, i, none⟩) rfl _
  have hl := h.leftr
  rw [hlv] at hl
  subst hn
  have hst := (own_store_of hl (i : Int) v).1
  rw [Int.toNat_natCast] at hst
  exact {
    p0 := o.cell np h.p0
    p1 := o.cell np h.p1
    p2 := o.cell np h.p2
    p3 := o.cell np h.p3
    fn := o.cell nx h.fn
    nowc := o.cell (fun (e : BN = g) => ap.nl (by rw [e]; exact hown)) h.nowc
    nowf := (o.froz (fun (e : BN = g) => ap.nl (by rw [e]; exact hown)) (World.block_lt_of_cell? W _ h.nowc)).trans h.nowf
    nowr := own_setCell h.nowr (fun e => ap.dl (by rw [hown]; simpa [Value.ownBlock] using e)) _
    leftc := o.cell nl_ h.leftc
    leftr := by rw [hlv, List.length_set]; exact hst
    sumc := o.cell hs h.sumc
    sumf := (o.froz hs (World.block_lt_of_cell? W _ h.sumc)).trans h.sumf
    perf := by obtain ⟨pv, hp, _⟩ := h.per; exact (o.froz hp' (World.block_lt_of_cell? W _ hp)).trans h.perf
    per := by obtain ⟨pv, hp, hr⟩ := h.per; exact ⟨pv, o.cell hp' hp, Kd.R_step hr (fun j hj hlt => o.block j hlt (fun e => hj (by rw [show j = g from e]; exact hm)))⟩ }
/-- A store into the row of the periods so far. -/
theorem St.setNow {now left : List Int} {b : List Int × Int} {W : World} (ap : Apart Bp Bper Bsum BN BNd BX BL lv) (h : St B0 Bp Bper Bsum BN BNd BX BL N c0 c1 A0 A1 l0 l1 first days lv now left b W) (i : Nat) (v : Int) : St B0 Bp Bper Bsum BN BNd BX BL N c0 c1 A0 A1 l0 l1 first days lv (now.set i v) left b (W.setCell ⟨BNd, i, none⟩ (.int .i64 v)) := by
  have hm : Mut Bper Bsum BN BNd lv BNd := .inr (.inr (.inr (.inl rfl)))
  have hs : ¬ Bsum = BNd := ap.sd
  have hp' : ¬ Bper = BNd := ap.pd
  have np : ¬ Bp = BNd := fun e => ap.p (by rw [e]; exact hm)
  have nx : ¬ BX = BNd := fun e => ap.x (by rw [e]; exact hm)
  have nl_ : ¬ BL = BNd := fun e => ap.l (by rw [e]; exact hm)
  have o : Only (fun j => j = BNd) W (W.setCell ⟨BNd, i, none⟩ (.int .i64 v)) := Only.set (S := fun j => j = BNd) W (p := ⟨BNd, i, none⟩) rfl _
  have hst := (own_store_of h.nowr (i : Int) v).1
  rw [Int.toNat_natCast] at hst
  exact {
    p0 := o.cell np h.p0
    p1 := o.cell np h.p1
    p2 := o.cell np h.p2
    p3 := o.cell np h.p3
    fn := o.cell nx h.fn
    nowc := by rw [List.length_set]; exact o.cell ap.nd h.nowc
    nowf := (o.froz ap.nd (World.block_lt_of_cell? W _ h.nowc)).trans h.nowf
    nowr := by rw [List.length_set]; exact hst
    leftc := o.cell nl_ h.leftc
    leftr := own_setCell h.leftr (fun e => ap.dl e.symm) _
    sumc := o.cell hs h.sumc
    sumf := (o.froz hs (World.block_lt_of_cell? W _ h.sumc)).trans h.sumf
    perf := by obtain ⟨pv, hp, _⟩ := h.per; exact (o.froz hp' (World.block_lt_of_cell? W _ hp)).trans h.perf
    per := by obtain ⟨pv, hp, hr⟩ := h.per; exact ⟨pv, o.cell hp' hp, Kd.R_step hr (fun j hj hlt => o.block j hlt (fun e => hj (by rw [show j = BNd from e]; exact hm)))⟩ }
/-- The variable of the periods is cut. -/
theorem St.pop {now left : List Int} {b : List Int × Int} {W : World} (ap : Apart Bp Bper Bsum BN BNd BX BL lv) (h : St B0 Bp Bper Bsum BN BNd BX BL N c0 c1 A0 A1 l0 l1 first days lv now left b W) (k : Nat) (hk : k ≤ now.length) : St B0 Bp Bper Bsum BN BNd BX BL N c0 c1 A0 A1 l0 l1 first days lv (now.take k) left b (W.setCell ⟨BN, 0, none⟩ (.slice (some ⟨BNd, 0, none⟩) k N)) := by
  have hm : Mut Bper Bsum BN BNd lv BN := .inr (.inr (.inl rfl))
  have hs : ¬ Bsum = BN := ap.sn
  have hp' : ¬ Bper = BN := ap.pn
  have np : ¬ Bp = BN := fun e => ap.p (by rw [e]; exact hm)
  have nx : ¬ BX = BN := fun e => ap.x (by rw [e]; exact hm)
  have nl_ : ¬ BL = BN := fun e => ap.l (by rw [e]; exact hm)
  have o : Only (fun j => j = BN) W (W.setCell ⟨BN, 0, none⟩ (.slice (some ⟨BNd, 0, none⟩) k N)) := Only.set (S := fun j => j = BN) W (p := ⟨BN, 0, none⟩) rfl _
  have hl : (now.take k).length = k := by simp; omega
  exact {
    p0 := o.cell np h.p0
    p1 := o.cell np h.p1
    p2 := o.cell np h.p2
    p3 := o.cell np h.p3
    fn := o.cell nx h.fn
    nowc := by rw [hl]; exact World.cell?_setCell_same _ _ _ h.nowc
    nowf := by simp [go_sem, h.nowf]
    nowr := by
      rw [hl]
      refine own_setCell ?_ (fun e => ap.nd (by simpa [Value.ownBlock] using e)) _
      have := own_take h.nowr hk
      unfold encs at this ⊢
      rw [Nat.mul_one, ← List.map_take] at this
      exact this
    leftc := o.cell nl_ h.leftc
    leftr := own_setCell h.leftr (fun e => ap.nl e.symm) _
    sumc := o.cell hs h.sumc
    sumf := (o.froz hs (World.block_lt_of_cell? W _ h.sumc)).trans h.sumf
    perf := by obtain ⟨pv, hp, _⟩ := h.per; exact (o.froz hp' (World.block_lt_of_cell? W _ hp)).trans h.perf
    per := by obtain ⟨pv, hp, hr⟩ := h.per; exact ⟨pv, o.cell hp' hp, Kd.R_step hr (fun j hj hlt => o.block j hlt (fun e => hj (by rw [show j = BN from e]; exact hm)))⟩ }
/-- A period is appended. -/
theorem St.push {now left : List Int} {b : List Int × Int} {W W2 w1 : World} {v : Int} (ap : Apart Bp Bper Bsum BN BNd BX BL lv) (h : St B0 Bp Bper Bsum BN BNd BX BL N c0 c1 A0 A1 l0 l1 first days lv now left b W) (hb : Below W.heap.size W W2) (hg : W2.grownBy w1 (some BNd))
    (ho : w1.ownsRow B0 3 1 (.slice (some ⟨BNd, 0, none⟩) (now.length + 1) N) (now.length + 1) (encs (Value.int .i64) now ++ [.int .i64 v])) :
    St B0 Bp Bper Bsum BN BNd BX BL N c0 c1 A0 A1 l0 l1 first days lv (now ++ [v]) left b (w1.setCell ⟨BN, 0, none⟩ (.slice (some ⟨BNd, 0, none⟩) (now.length + 1) N)) := by
  have h2 := h.keep hb
  have o1 : Only (fun j => j = BNd ∨ j = BN) W2 w1 := Only.of_grown hg (fun k e => .inl (Option.some.inj e).symm)
  have o : Only (fun j => j = BNd ∨ j = BN) W2 (w1.setCell ⟨BN, 0, none⟩ (.slice (some ⟨BNd, 0, none⟩) (now.length + 1) N)) := o1.trans (Only.set w1 (.inr rfl) _)
  have no : ∀ j, ¬ Mut Bper Bsum BN BNd lv j → ¬ (j = BNd ∨ j = BN) := fun j hj e => hj (by rcases e with e | e; exact .inr (.inr (.inr (.inl e))); exact .inr (.inr (.inl e)))
  have hs : ¬ (Bsum = BNd ∨ Bsum = BN) := fun e => by rcases e with e | e; exact ap.sd e; exact ap.sn e
  have hp' : ¬ (Bper = BNd ∨ Bper = BN) := fun e => by rcases e with e | e; exact ap.pd e; exact ap.pn e
  have hl : (now ++ [v]).length = now.length + 1 := by simp
  have hnc : w1.cell? ⟨BN, 0, none⟩ = some (.slice (some ⟨BNd, 0, none⟩) now.length N) := (Only.of_grown (S := fun j => j = BNd) hg (fun k e => (Option.some.inj e).symm)).cell ap.nd h2.nowc
  have hnf : w1.frozen? ⟨BN, 0, none⟩ = false := ((Only.of_grown (S := fun j => j = BNd) hg (fun k e => (Option.some.inj e).symm)).froz ap.nd (World.block_lt_of_cell? W2 _ h2.nowc)).trans h2.nowf
  exact {
    p0 := o.cell (no _ ap.p) h2.p0
    p1 := o.cell (no _ ap.p) h2.p1
    p2 := o.cell (no _ ap.p) h2.p2
    p3 := o.cell (no _ ap.p) h2.p3
    fn := o.cell (no _ ap.x) h2.fn
    nowc := by rw [hl]; exact World.cell?_setCell_same _ _ _ hnc
    nowf := by simp [go_sem, hnf]
    nowr := by
      rw [hl]
      refine own_setCell ?_ (fun e => ap.nd (by simpa [Value.ownBlock] using e)) _
      have : encs (Value.int .i64) (now ++ [v]) = encs (Value.int .i64) now ++ [.int .i64 v] := by unfold encs; simp
      rw [this]
      exact ho
    leftc := o.cell (no _ ap.l) h2.leftc
    leftr := own_move h2.leftr (fun k hk => o.block k (own_lt h2.leftr k hk) (fun e => by rcases e with e | e; exact ap.dl (e ▸ hk); exact ap.nl (e ▸ hk)))
    sumc := o.cell hs h2.sumc
    sumf := (o.froz hs (World.block_lt_of_cell? W2 _ h2.sumc)).trans h2.sumf
    perf := by obtain ⟨pv, hp, _⟩ := h2.per; exact (o.froz hp' (World.block_lt_of_cell? W2 _ hp)).trans h2.perf
    per := by obtain ⟨pv, hp, hr⟩ := h2.per; exact ⟨pv, o.cell hp' hp, Kd.R_step hr (fun j hj hlt => o.block j hlt (no j hj))⟩ }
theorem St.mut_lt {now left : List Int} {b : List Int × Int} {W : World} (h : St B0 Bp Bper Bsum BN BNd BX BL N c0 c1 A0 A1 l0 l1 first days lv now left b W) : ∀ j, Mut Bper Bsum BN BNd lv j → j < W.heap.size := by
  obtain ⟨pv, hp, _⟩ := h.per
  rintro j (rfl | rfl | rfl | rfl | e)
  · exact World.block_lt_of_cell? W _ hp
  · exact World.block_lt_of_cell? W _ h.sumc
  · exact World.block_lt_of_cell? W _ h.nowc
  · exact own_lt h.nowr _ rfl
  · exact own_lt h.leftr j e
/-- What a call of the search leaves. -/
def Left_ (B0 Bp Bper Bsum BN BNd BX BL N c0 c1 : Nat) (A0 A1 : Option Addr) (l0 : List S73) (l1 : List Int) (first days : Int) (lv : Value) (now left : List Int) (b : List Int × Int) (W : World) (e : Ending) (W' : World) : Prop :=
  e = .returned (.tuple #[]) ∧ St B0 Bp Bper Bsum BN BNd BX BL N c0 c1 A0 A1 l0 l1 first days lv now left b W' ∧ Only (Mut Bper Bsum BN BNd lv) W W'
set_option maxRecDepth 100000 in
set_option maxHeartbeats 1000000 in
theorem next_leaf (ap : Apart Bp Bper Bsum BN BNd BX BL lv) (h6 : l0.length ≤ 6) {now left : List Int} {b : List Int × Int} {W : World} (so : Int) (hB0 : B0 ≤ W.heap.size) (hk : now.length = l0.length) (h : St B0 Bp Bper Bsum BN BNd BX BL N c0 c1 A0 A1 l0 l1 first days lv now left b W) :
    Calls Tryz.prog 85 #[.int .i64 so, .pointer (some ⟨BN, 0, none⟩), .pointer (some ⟨Bp, 0, none⟩), .pointer (some ⟨Bsum, 0, none⟩), .pointer (some ⟨Bper, 0, none⟩), .pointer (some ⟨BX, 0, none⟩), .pointer (some ⟨BL, 0, none⟩)] W
      (Left_ B0 Bp Bper Bsum BN BNd BX BL N c0 c1 A0 A1 l0 l1 first days lv now left (if b.2 < so then (now, so) else b) W) := by
  obtain ⟨pv, hpv, hpr⟩ := h.per
  have n0 := h.nowc
  have nf := h.nowf
  have q0 := h.p0
  have s0 := h.sumc
  have sf := h.sumf
  have pf := h.perf
  have hln : ((now.length : Int) == (l0.length : Int)) = true := by rw [hk]; simp
  have HK := Lib.hid hk
  clear hk
  by_cases hlt : b.2 < so
  · rw [if_pos hlt]
    go_enter Tryz.func85, Tryz.ntmps85
    go_wp2_with fail
    refine (clone_own h.nowr (by have := HK.out; omega)).mono ?_
    rintro e w1 ⟨v', rfl, ho, hb⟩
    have h1 := h.keep hb
    have hR : (Kd.int .i64).R 3 w1 B0 (fun j => ¬ Mut Bper Bsum BN BNd lv j) v' now := Kd.R_of_own (own_weaken ho hB0) (fun j hj => by
      have hge := own_base ho j hj
      have l1 := World.block_lt_of_cell? W _ hpv
      have l2 := World.block_lt_of_cell? W _ s0
      have l3 := World.block_lt_of_cell? W _ n0
      rintro (e | e | e | e | e)
      · simp at l1; omega
      · simp at l2; omega
      · simp at l3; omega
      · have := own_lt h.nowr BNd (by simp [Value.ownBlock]); omega
      · have := own_lt h.leftr j e; omega)
    obtain ⟨Av, cv, rfl⟩ := Kd.R_slice hR
    have h2 := h1.better (so := so) ap hR
    have hO : Only (Mut Bper Bsum BN BNd lv) W ((w1.setCell ⟨Bper, 0, none⟩ (.slice Av now.length cv)).setCell ⟨Bsum, 0, none⟩ (.int .i64 so)) := ((Only.of_below hb).trans (Only.set w1 (.inl rfl) _)).trans (Only.set _ (.inr (.inl rfl)) _)
    have HF := Lib.hid h2
    have HO := Lib.hid hO
    have hpv1 := keep_cell hb hpv
    have s01 := keep_cell hb s0
    have sf1 := keep_froz hb s0 sf
    have pf1 := keep_froz hb hpv pf
    have hne : Bper ≠ Bsum := ap.ps
    have hne2 : Bsum ≠ Bper := ap.ps.symm
    clear h1 h2 hO hb h hpv hpr n0 nf q0 s0 sf pf ho
    go_wp2_with fail
    go_end0
    exact ⟨rfl, HF.out, HO.out⟩
  · rw [if_neg hlt]
    have HF := Lib.hid h
    clear h
    go_enter Tryz.func85, Tryz.ntmps85
    go_wp2_with fail
    go_end0
    exact ⟨rfl, HF.out, Only.refl _ _⟩
theorem new_one (w : World) (o : Obj) (v : Value) (t : TypeId) : ∀ j u, [v][j]? = some u → ((w.alloc o).alloc (.cells #[v] t)).cell? ((⟨w.heap.size + 1, 0, none⟩ : Addr).add j) = some u := fun j u hj => by
  have h := cell_one_new (w.alloc o) v t j u hj
  rw [World.size_alloc] at h
  exact h
theorem push_cell {W W2 w1 : World} {B g o : Nat} {v : Value} (hg : W2.grownBy w1 (some B)) (hne : g ≠ B) (hc : W.cell? ⟨g, o, none⟩ = some v) (hb : Below W.heap.size W W2) : w1.cell? ⟨g, o, none⟩ = some v :=
  (Only.of_grown (S := fun j => j = B) hg (fun k e => (Option.some.inj e).symm)).cell hne (keep_cell hb hc)
theorem push_froz {W W2 w1 : World} {B g o : Nat} {v : Value} {u : Bool} (hg : W2.grownBy w1 (some B)) (hne : g ≠ B) (hc : W.cell? ⟨g, o, none⟩ = some v) (hf : W.frozen? ⟨g, o, none⟩ = u) (hb : Below W.heap.size W W2) : w1.frozen? ⟨g, o, none⟩ = u :=
  ((Only.of_grown (S := fun j => j = B) hg (fun k e => (Option.some.inj e).symm)).froz hne (World.block_lt_of_cell? _ _ (keep_cell hb hc))).trans (keep_froz hb hc hf)
theorem set_get (l : List Int) (i j : Nat) (v : Int) (hj : j < l.length) : (l.set i v)[j]! = if i = j then v else l[j]! := by
  rw [List.getElem!_eq_getElem?_getD, List.getElem?_set]
  split
  · rename_i h
    subst h
    simp [hj]
  · rw [List.getElem!_eq_getElem?_getD]
theorem set_back (l : List Int) (i : Nat) (v q : Int) (hi : i < l.length) (hq : l[i]! = q) : (l.set i v).set i q = l := by
  rw [List.set_set]
  refine List.ext_getElem? fun j => ?_
  rw [List.getElem?_set]
  split
  · rename_i h
    subst h
    rw [List.getElem?_eq_getElem hi, ← hq, List.getElem!_eq_getElem?_getD, List.getElem?_eq_getElem hi]
    rfl
  · rfl
theorem int_get (l : List Int) (i : Nat) (h : i < l.length) : (encs (Value.int .i64) l)[i]? = some (.int .i64 l[i]!) := by
  unfold encs
  rw [List.getElem?_map, List.getElem?_eq_getElem h, List.getElem!_eq_getElem?_getD, List.getElem?_eq_getElem h]
  rfl
set_option maxRecDepth 100000 in
set_option maxHeartbeats 4000000 in
theorem next_calls {w0 : World} (ap : Apart Bp Bper Bsum BN BNd BX BL lv) (hmut : ∀ j, Mut Bper Bsum BN BNd lv j → w0.heap.size ≤ j) (h6 : l0.length ≤ 6) (hN : N = l0.length) (h3 : l1.length ≤ 3)
    (H0 : Hid (k73.C w0 A0 l0.length l0)) (hc0 : l0.length ≤ c0) (H1 : Hid ((Kd.int .i64).C w0 A1 l1.length l1)) (hc1 : l1.length ≤ c1) (HC : Hid (∀ j, j < l0.length → 0 ≤ l0[j]!.f1 ∧ l0[j]!.f1 ≤ 1000000)) :
    ∀ (d : Nat) (now left : List Int) (so : Int) (b : List Int × Int) (W : World), now.length + d = l0.length → left.length = l1.length → (∀ i, i < left.length → 0 ≤ left[i]! ∧ left[i]! ≤ 10000000) → Below w0.heap.size w0 W →
      St w0.heap.size Bp Bper Bsum BN BNd BX BL N c0 c1 A0 A1 l0 l1 first days lv now left b W →
      Calls Tryz.prog 85 #[.int .i64 so, .pointer (some ⟨BN, 0, none⟩), .pointer (some ⟨Bp, 0, none⟩), .pointer (some ⟨Bsum, 0, none⟩), .pointer (some ⟨Bper, 0, none⟩), .pointer (some ⟨BX, 0, none⟩), .pointer (some ⟨BL, 0, none⟩)] W
        (Left_ w0.heap.size Bp Bper Bsum BN BNd BX BL N c0 c1 A0 A1 l0 l1 first days lv now left (chSearch l0 l1 first days d now.length left now so b) W) := by
  subst hN
  obtain ⟨i0, hi3, hz0, hz1, hz2⟩ := info_parts info3
  intro d
  induction d with
  | zero =>
    intro now left so b W hk hl _ hW h
    exact next_leaf ap h6 so hW.size (by omega) h
  | succ d ih =>
    intro now left so b W hk hl hleft hW h
    have IH := Lib.hid ih
    clear ih
    obtain ⟨AL, cL, rfl⟩ : ∃ A c, lv = .slice A l1.length c := by
      rcases h.leftr.2 with ⟨e1, e2⟩ | ⟨g, cap, cur, e1, -⟩
      · exact ⟨none, 0, by rw [e1, ← hl, e2]⟩
      · exact ⟨_, cap, by rw [e1, hl]⟩
    have n0 := h.nowc
    have nf := h.nowf
    have q0 := h.p0
    have f0 := h.fn
    have hln : ((now.length : Int) == (l0.length : Int)) = false := by simp; omega
    have hklt : now.length < l0.length := by omega
    have hklti : (now.length : Int) < (l0.length : Int) := by omega
    obtain ⟨ba, off, rfl, hba, hca⟩ := C_plain asset_K (by decide) H0.out (by omega)
    have hold : ∀ j v, (encAsset l0[now.length]!)[j]? = some v → W.cell? ⟨ba, off + now.length * 5 + j, none⟩ = some v := fun j v hv => (hW.cell (p := ⟨ba, off + now.length * 5 + j, none⟩) hba).trans (hca _ hklt j v hv)
    have hcost := HC.out _ hklt
    rw [chSearch]
    generalize l0[now.length]! = x at hold hcost ⊢
    generalize hb1 : chSearch l0 l1 first days d (now.length + 1) left (now ++ [-1]) so b = b1
    generalize hrec : (fun (left' : List Int) (i : Int) (b' : List Int × Int) => chSearch l0 l1 first days d (now.length + 1) left' (now ++ [i]) (wrap64 (so + benV l0 l1 first days x i)) b') = rec_
    generalize hB : chLoop rec_ x.f1 left l1.length 0 b1 = B
    have HB1 := Lib.hid hb1
    have HREC := Lib.hid hrec
    have HB := Lib.hid hB
    clear hb1 hrec hB
    have e0 : W.cell? ⟨ba, off + now.length * 5, none⟩ = some (.string x.f0) := hold 0 _ rfl
    have e1 := hold 1 _ rfl
    have e2 := hold 2 _ rfl
    have e3 := hold 3 _ rfl
    have e4 := hold 4 _ rfl
    have HL := Lib.hid hleft
    have HK := Lib.hid hk
    have HLL := Lib.hid hl
    have HH := Lib.hid h
    have HWW := Lib.hid hW
    obtain ⟨hcost0, hcost1⟩ := hcost
    have ltN : BN < W.heap.size := World.block_lt_of_cell? W _ n0
    have ltX : BX < W.heap.size := World.block_lt_of_cell? W _ f0
    have ltP : Bp < W.heap.size := World.block_lt_of_cell? W _ q0
    have neN : BN ≠ W.heap.size := by omega
    have neX : BX ≠ W.heap.size := by omega
    have neP : Bp ≠ W.heap.size := by omega
    clear hold hca hleft hk hl h hW
    have hNd : BN ≠ BNd := ap.nd
    have hXd : BX ≠ BNd := fun e => ap.x (.inr (.inr (.inr (.inl e))))
    go_enter Tryz.func85, Tryz.ntmps85
    go_wp2_with (at_builtin; go_loud (refine wpList_append_fits _ rfl (.tmp 29) (.tmp 30) 41 rfl w0.heap.size 3 i0 1 Tryz.underlying41 hi3 hz1 BNd now.length l0.length (encs (Value.int .i64) now) rfl (HH.out.keep (by (repeat (first | (with_reducible exact Below.refl _ _) | (with_reducible assumption) | (with_reducible exact Hid.out (by assumption)) | (with_reducible refine Below.setCell ?_ (by first | (simp; done) | omega | (simp; omega)) _) | (with_reducible refine Below.alloc ?_ (by first | (simp; done) | omega | (simp; omega)) _) | (with_reducible refine Below.drew ?_) | (with_reducible refine pw_below_drewN ?_ _))))).nowr _ 1 1 [.int .i64 (-1)] rfl rfl (new_one _ _ _ _) (by simp [Value.oneCell']) (by omega) ?_)
                 intro w1 hown1 hgrow1
                 go_loud (have n1 := push_cell hgrow1 hNd n0 (by (repeat (first | (with_reducible exact Below.refl _ _) | (with_reducible assumption) | (with_reducible exact Hid.out (by assumption)) | (with_reducible refine Below.setCell ?_ (by first | (simp; done) | omega | (simp; omega)) _) | (with_reducible refine Below.alloc ?_ (by first | (simp; done) | omega | (simp; omega)) _) | (with_reducible refine Below.drew ?_) | (with_reducible refine pw_below_drewN ?_ _)))))
                 go_loud (have nf1 := push_froz hgrow1 hNd n0 nf (by (repeat (first | (with_reducible exact Below.refl _ _) | (with_reducible assumption) | (with_reducible exact Hid.out (by assumption)) | (with_reducible refine Below.setCell ?_ (by first | (simp; done) | omega | (simp; omega)) _) | (with_reducible refine Below.alloc ?_ (by first | (simp; done) | omega | (simp; omega)) _) | (with_reducible refine Below.drew ?_) | (with_reducible refine pw_below_drewN ?_ _)))))
                 go_loud (have fn1 := push_cell hgrow1 hXd f0 (by (repeat (first | (with_reducible exact Below.refl _ _) | (with_reducible assumption) | (with_reducible exact Hid.out (by assumption)) | (with_reducible refine Below.setCell ?_ (by first | (simp; done) | omega | (simp; omega)) _) | (with_reducible refine Below.alloc ?_ (by first | (simp; done) | omega | (simp; omega)) _) | (with_reducible refine Below.drew ?_) | (with_reducible refine pw_below_drewN ?_ _)))))
                 have neXN : BX ≠ BN := fun e => ap.x (.inr (.inr (.inl e))))
    have h4 := HH.out.push (hg := hgrow1) ap (hb := by (repeat (first | (with_reducible exact Below.refl _ _) | (with_reducible assumption) | (with_reducible exact Hid.out (by assumption)) | (with_reducible refine Below.setCell ?_ (by first | (simp; done) | omega | (simp; omega)) _) | (with_reducible refine Below.alloc ?_ (by first | (simp; done) | omega | (simp; omega)) _) | (with_reducible refine Below.drew ?_) | (with_reducible refine pw_below_drewN ?_ _)))) (ho := hown1)
    have O4 : Only (Mut Bper Bsum BN BNd (.slice AL l1.length cL)) W (w1.setCell ⟨BN, 0, none⟩ (.slice (some ⟨BNd, 0, none⟩) (now.length + 1) l0.length)) :=
      ((Only.of_below (by (repeat (first | (with_reducible exact Below.refl _ _) | (with_reducible assumption) | (with_reducible exact Hid.out (by assumption)) | (with_reducible refine Below.setCell ?_ (by first | (simp; done) | omega | (simp; omega)) _) | (with_reducible refine Below.alloc ?_ (by first | (simp; done) | omega | (simp; omega)) _) | (with_reducible refine Below.drew ?_) | (with_reducible refine pw_below_drewN ?_ _))))).trans (Only.of_grown hgrow1 (fun k e => .inr (.inr (.inr (.inl (Option.some.inj e).symm)))))).trans (Only.set w1 (.inr (.inr (.inl rfl))) _)
    have hxm : ¬ Mut Bper Bsum BN BNd (.slice AL l1.length cL) W.heap.size := fun e => Nat.lt_irrefl _ (HH.out.mut_lt _ e)
    have hx4 : ∀ i v, (encAsset x)[i]? = some v → (w1.setCell ⟨BN, 0, none⟩ (.slice (some ⟨BNd, 0, none⟩) (now.length + 1) l0.length)).cell? ⟨W.heap.size, i, none⟩ = some v := fun i v hv => by
      refine (((Only.of_grown hgrow1 (fun k e => .inr (.inr (.inr (.inl (Option.some.inj e).symm))))).trans (Only.set w1 (.inr (.inr (.inl rfl))) _) : Only (Mut Bper Bsum BN BNd (.slice AL l1.length cL)) _ _).cell hxm ?_)
      rw [World.cell?_alloc_lt _ _ _ (by simp), World.cell?_alloc_new]
      simpa [encAsset] using hv
    refine (IH.out (now ++ [-1]) left so b _ (by have := HK.out; simp; omega) HLL.out HL.out (HWW.out.trans (O4.below HWW.out.size hmut)) h4).mono ?_
    rintro e w5 ⟨rfl, h5, o5⟩
    have HX5 : Hid (∀ i v, (encAsset x)[i]? = some v → w5.cell? ⟨W.heap.size, i, none⟩ = some v) := Lib.hid fun i v hv => o5.cell hxm (hx4 i v hv)
    have HO5 := Lib.hid (O4.trans o5)
    have H5 := Lib.hid h5
    have l5 := h5.leftc
    clear hx4 O4 o5 h4 h5 hown1 hgrow1 n1 nf1 fn1 n0 nf q0 f0 e0 e1 e2 e3 e4
    have e5 : chSearch l0 l1 first days d (now ++ [(-1 : Int)]).length left (now ++ [(-1 : Int)]) so b = b1 := by rw [← HB1.out]; simp
    rw [e5] at H5
    clear e5
    go_wp2_with fail
    go_loopw [37] (fun v wr => ∃ (i : Nat) (y : Int) (b' : List Int × Int), i ≤ l1.length ∧ v = .int .i64 (i : Int) ∧ Hid (chLoop rec_ x.f1 left (l1.length - i) i b' = B) ∧ Hid (St w0.heap.size Bp Bper Bsum BN BNd BX BL l0.length c0 c1 (some ⟨ba, off, none⟩) A1 l0 l1 first days (.slice AL l1.length cL) (now ++ [y]) left b' wr) ∧ Hid (Only (Mut Bper Bsum BN BNd (.slice AL l1.length cL)) W wr) ∧ Hid (∀ i v, (encAsset x)[i]? = some v → wr.cell? ⟨W.heap.size, i, none⟩ = some v)) (fun v _ => l1.length - (intOf v).toNat)
    case atStart => exact ⟨0, -1, b1, Nat.zero_le _, rfl, HB, H5, HO5, HX5⟩
    case round =>
      obtain ⟨i, y, b', hi, rfl, hI, hS, hO, hX⟩ := hrel
      clear H5 HO5 HX5 l5 HB
      have l5 := hS.out.leftc
      have x1 := hX.out 1 _ rfl
      by_cases hlt : i < l1.length
      · have hlti : (i : Int) < (l1.length : Int) := by omega
        obtain ⟨m, hm⟩ : ∃ m, l1.length - i = m + 1 := ⟨l1.length - i - 1, by omega⟩
        have hm' : l1.length - (i + 1) = m := by omega
        have hI' := hI.out
        rw [hm, chLoop, ← hm'] at hI'
        have hlr := hS.out.leftr
        rw [HLL.out] at hlr
        obtain ⟨g, rfl⟩ : ∃ g, AL = some ⟨g, 0, none⟩ := by
          rcases hlr.2 with ⟨e1, e2⟩ | ⟨g, cap, cur, e1, -⟩
          · omega
          · cases e1; exact ⟨g, rfl⟩
        have hlc : wr.cell? ⟨g, i, none⟩ = some (.int .i64 left[i]!) := by
          rw [hlr.cellAt i (by omega)]; exact int_get left i (by have := HLL.out; omega)
        have hlf : wr.frozen? ⟨g, i, none⟩ = false := hlr.frozenAt i
        clear hlr
        obtain ⟨hq0, hq1⟩ := HL.out i (by have := HLL.out; omega)
        generalize hqq : left[i]! = q at hlc hI' hq0 hq1
        have HQ := Lib.hid hqq
        clear hqq hI hm hm'
        by_cases hc : q < x.f1
        · rw [if_pos hc] at hI'
          have HI := Lib.hid hI'
          clear hI'
          go_wp2_with fail
          go_quiet (fail)
          go_wp2_with fail
          go_roundw
          case rel => exact ⟨i + 1, y, b', by omega, by go_num, HI.out, hS.out.keep (by (repeat (first | (with_reducible exact Below.refl _ _) | (with_reducible assumption) | (with_reducible exact Hid.out (by assumption)) | (with_reducible refine Below.setCell ?_ (by first | (simp; done) | omega | (simp; omega)) _) | (with_reducible refine Below.alloc ?_ (by first | (simp; done) | omega | (simp; omega)) _) | (with_reducible refine Below.drew ?_) | (with_reducible refine pw_below_drewN ?_ _)))), hO.out.trans (Only.of_below (by (repeat (first | (with_reducible exact Below.refl _ _) | (with_reducible assumption) | (with_reducible exact Hid.out (by assumption)) | (with_reducible refine Below.setCell ?_ (by first | (simp; done) | omega | (simp; omega)) _) | (with_reducible refine Below.alloc ?_ (by first | (simp; done) | omega | (simp; omega)) _) | (with_reducible refine Below.drew ?_) | (with_reducible refine pw_below_drewN ?_ _))))), fun j v hv => keep_cell (by (repeat (first | (with_reducible exact Below.refl _ _) | (with_reducible assumption) | (with_reducible exact Hid.out (by assumption)) | (with_reducible refine Below.setCell ?_ (by first | (simp; done) | omega | (simp; omega)) _) | (with_reducible refine Below.alloc ?_ (by first | (simp; done) | omega | (simp; omega)) _) | (with_reducible refine Below.drew ?_) | (with_reducible refine pw_below_drewN ?_ _)))) (hX.out j v hv)⟩
          case measure => simp [intOf]; omega
        · rw [if_neg hc] at hI'
          have HI := Lib.hid hI'
          clear hI'
          have hc' : x.f1 ≤ q := by omega
          go_wp2_with fail
          go_quiet (fail)
          go_wp2_with fail
          have b6 : Below wr.heap.size wr (wr.drewN nq) := by (repeat (first | (with_reducible exact Below.refl _ _) | (with_reducible assumption) | (with_reducible exact Hid.out (by assumption)) | (with_reducible refine Below.setCell ?_ (by first | (simp; done) | omega | (simp; omega)) _) | (with_reducible refine Below.alloc ?_ (by first | (simp; done) | omega | (simp; omega)) _) | (with_reducible refine Below.drew ?_) | (with_reducible refine pw_below_drewN ?_ _)))
          generalize wr.drewN nq = w6 at b6 ⊢
          have S6 := hS.out.keep b6
          have O6 : Only (Mut Bper Bsum BN BNd (.slice (some ⟨g, 0, none⟩) l1.length cL)) W w6 := hO.out.trans (Only.of_below b6)
          have X6 : ∀ j v, (encAsset x)[j]? = some v → w6.cell? ⟨W.heap.size, j, none⟩ = some v := fun j v hv => keep_cell b6 (hX.out j v hv)
          have c6 := keep_cell b6 hlc
          have f6 := keep_froz b6 hlc hlf
          have l6 := S6.leftc
          have x6 : w6.cell? ⟨W.heap.size, 1, none⟩ = some (.int .i64 x.f1) := X6 1 _ rfl
          have hwq : IntKind.i64.wrap (q - x.f1) = q - x.f1 := by rw [IntKind.wrap_i64]; omega
          have HK : ∀ u, Below w6.heap.size w6 u → u.cell? ⟨BL, 0, none⟩ = some (.slice (some ⟨g, 0, none⟩) l1.length cL) ∧ u.cell? ⟨g, i, none⟩ = some (.int .i64 q) ∧ u.cell? ⟨W.heap.size, 1, none⟩ = some (.int .i64 x.f1) :=
            fun u hu => ⟨keep_cell hu l6, keep_cell hu c6, keep_cell hu x6⟩
          have HS6 := Lib.hid S6
          have HO6 := Lib.hid O6
          have HX6 := Lib.hid X6
          have neg : g ≠ BL := fun e => ap.l (.inr (.inr (.inr (.inr (by rw [← e]; rfl)))))
          clear hS hO hX hlc hlf l5 x1 b6 S6 O6 X6
          refine wp_region_ext_list 7 (by kernel_rfl) (by kernel_rfl) [fun v _ => v = .slice (some ⟨g, 0, none⟩) l1.length cL,
            fun v _ => v = .int .i64 (i : Int),
            fun v _ => v = .pointer (some ⟨g, i, none⟩),
            fun v _ => v = .int .i64 q,
            fun v _ => v = .pointer (some ⟨W.heap.size, 1, none⟩),
            fun v _ => v = .int .i64 x.f1,
            fun v _ => v = .int .i64 (q - x.f1)] rfl ?hst11 ?lit11 ?hlit11 ?steps11 ?rest11
          case hst11 => exact ⟨Stable.eq _, Stable.eq _, Stable.eq _, Stable.eq _, Stable.eq _, Stable.eq _, Stable.eq _, trivial⟩
          case hlit11 => intro vs; simp [putN, dstOf, Act.put]; exact rfl
          case steps11 =>
            simp only [List.take_succ_cons, List.take_zero]
            refine StepsFrom.cons (fun vs w' hb hav => ?_) ?_
            · -- 0
              (obtain ⟨k0, k1, k2⟩ := HK w' hb; exact ExtOp.val rfl (v := .slice (some ⟨g, 0, none⟩) l1.length cL) (by simp [go_sem, k0, k1, k2]) rfl)
            refine StepsFrom.cons (fun vs w' hb hav => ?_) ?_
            · -- 1
              (obtain ⟨k0, k1, k2⟩ := HK w' hb; exact ExtOp.val rfl (v := .int .i64 (i : Int)) (by simp [go_sem]) rfl)
            refine StepsFrom.cons (fun vs w' hb hav => ?_) ?_
            · -- 2
              (obtain ⟨k0, k1, k2⟩ := HK w' hb; have h0 : vs 0 = .slice (some ⟨g, 0, none⟩) l1.length cL := hav 0 (by kernel_rfl); have h1 : vs 1 = .int .i64 (i : Int) := hav 1 (by kernel_rfl); exact ExtOp.val rfl (v := .pointer (some ⟨g, i, none⟩)) (by simp [go_sem, h0, h1, hlti]) rfl)
            refine StepsFrom.cons (fun vs w' hb hav => ?_) ?_
            · -- 3
              (obtain ⟨k0, k1, k2⟩ := HK w' hb; have h2 : vs 2 = .pointer (some ⟨g, i, none⟩) := hav 2 (by kernel_rfl); exact ExtOp.val rfl (v := .int .i64 q) (by simp [go_sem, h2, k0, k1, k2, k1]) rfl)
            refine StepsFrom.cons (fun vs w' hb hav => ?_) ?_
            · -- 4
              (obtain ⟨k0, k1, k2⟩ := HK w' hb; exact ExtOp.val rfl (v := .pointer (some ⟨W.heap.size, 1, none⟩)) (by simp [go_sem]) rfl)
            refine StepsFrom.cons (fun vs w' hb hav => ?_) ?_
            · -- 5
              (obtain ⟨k0, k1, k2⟩ := HK w' hb; have h4 : vs 4 = .pointer (some ⟨W.heap.size, 1, none⟩) := hav 4 (by kernel_rfl); exact ExtOp.val rfl (v := .int .i64 x.f1) (by simp [go_sem, h4, k0, k1, k2]) rfl)
            refine StepsFrom.cons (fun vs w' hb hav => ?_) ?_
            · -- 6
              (obtain ⟨k0, k1, k2⟩ := HK w' hb; have h3 : vs 3 = .int .i64 q := hav 3 (by kernel_rfl); have h5 : vs 5 = .int .i64 x.f1 := hav 5 (by kernel_rfl); exact ExtOp.val rfl (v := .int .i64 (q - x.f1)) (by simp [go_sem, h3, h5, hwq]) rfl)
            exact StepsFrom.nil
          case rest11 =>
            rintro vs w' hb ⟨h0, h1, h2, h3, h4, h5, h6, -⟩
            have S7 := (HS6.out.keep hb).setLeft ap rfl HLL.out i (q - x.f1)
            have O7 := (HO6.out.trans (Only.of_below hb)).trans (Only.set w' (p := ⟨g, i, none⟩) (.inr (.inr (.inr (.inr rfl)))) (.int .i64 (q - x.f1)))
            have S8 := S7.setNow ap now.length (i : Int)
            have hset : (now ++ [y]).set now.length (i : Int) = now ++ [(i : Int)] := by simp
            rw [hset] at S8
            have O8 := O7.trans (Only.set _ (p := ⟨BNd, now.length, none⟩) (.inr (.inr (.inr (.inl rfl)))) (.int .i64 (i : Int)))
            have ck := keep_cell hb c6
            have fk := keep_froz hb c6 f6
            have nn : w'.cell? ⟨BN, 0, none⟩ = some (.slice (some ⟨BNd, 0, none⟩) (now.length + 1) l0.length) := by have := (HS6.out.keep hb).nowc; simpa using this
            have hnr := (HS6.out.keep hb).nowr
            have nk : w'.cell? ⟨BNd, now.length, none⟩ = some (.int .i64 y) := by rw [hnr.cellAt now.length (by simp)]; simp [encs]
            have nkf : w'.frozen? ⟨BNd, now.length, none⟩ = false := hnr.frozenAt _
            have neNg : BN ≠ g := fun e => ap.nl (by rw [e]; rfl)
            have negd : BNd ≠ g := fun e => ap.dl (by rw [e]; rfl)
            have hX8 : ∀ j v, (encAsset x)[j]? = some v → ((w'.setCell ⟨g, i, none⟩ (.int .i64 (q - x.f1))).setCell ⟨BNd, now.length, none⟩ (.int .i64 (i : Int))).cell? ⟨W.heap.size, j, none⟩ = some v := fun j v hv =>
              ((((Only.of_below hb).trans (Only.set w' (p := ⟨g, i, none⟩) (.inr (.inr (.inr (.inr rfl)))) (.int .i64 (q - x.f1)))).trans (Only.set _ (p := ⟨BNd, now.length, none⟩) (.inr (.inr (.inr (.inl rfl)))) (.int .i64 (i : Int))) : Only (Mut Bper Bsum BN BNd (.slice (some ⟨g, 0, none⟩) l1.length cL)) w6 _)).cell hxm (HX6.out j v hv)
            have hki : (now.length : Int) < ((now.length + 1 : Nat) : Int) := by omega
            have hk0 : (0 : Int) ≤ (now.length : Int) := by omega
            have HS8 := Lib.hid S8
            have HO8 := Lib.hid O8
            have HX8 := Lib.hid hX8
            clear S7 O7 S8 O8 hX8 hnr HK hb c6 f6 l6 x6 HS6 HO6 HX6 hset
            go_wp2_with fail
            clear h0 h1 h2 h3 h4 h5 h6 ck fk nn nk nkf
            generalize (w'.setCell ⟨g, i, none⟩ (.int .i64 (q - x.f1))).setCell ⟨BNd, now.length, none⟩ (.int .i64 (i : Int)) = w8 at HS8 HO8 HX8 ⊢
            clear w'
            have k0 := HS8.out.fn
            have k1 := HS8.out.p0
            have k2 := HS8.out.p1
            have k3 := HS8.out.p2
            have k4 := HS8.out.p3
            have y0 : w8.cell? ⟨W.heap.size, 0, none⟩ = some (.string x.f0) := HX8.out 0 _ rfl
            have y1 : w8.cell? ⟨W.heap.size, 1, none⟩ = some (.int .i64 x.f1) := HX8.out 1 _ rfl
            have y2 : w8.cell? ⟨W.heap.size, 2, none⟩ = some (.int .i64 x.f2) := HX8.out 2 _ rfl
            have y3 : w8.cell? ⟨W.heap.size, 3, none⟩ = some (.int .i64 x.f3) := HX8.out 3 _ rfl
            have y4 : w8.cell? ⟨W.heap.size, 4, none⟩ = some (.int .i64 x.f4) := HX8.out 4 _ rfl
            have HK := fun (u : World) (hu : Below w8.heap.size w8 u) => And.intro (keep_cell hu k0) (And.intro (keep_cell hu k1) (And.intro (keep_cell hu k2) (And.intro (keep_cell hu k3) (And.intro (keep_cell hu k4) (And.intro (keep_cell hu y0) (And.intro (keep_cell hu y1) (And.intro (keep_cell hu y2) (And.intro (keep_cell hu y3) (keep_cell hu y4)))))))))
            have HW6 : Hid (Below w0.heap.size w0 w8) := Lib.hid (HWW.out.trans (HO8.out.below HWW.out.size hmut))
            generalize hben : benV l0 l1 first days x (i : Int) = ben
            have HBV := Lib.hid hben
            have HBEN : Hid (round_benefit.f l0 l1 first days x.f0 x.f1 x.f2 x.f3 x.f4 (i : Int) = some ben) := Lib.hid (by rw [benV_some, hben])
            clear hben k0 k1 k2 k3 k4 y0 y1 y2 y3 y4
            refine wp_region_ext_list 7 (by kernel_rfl) (by kernel_rfl) [fun v _ => v = .func (.func 85) #[] #[.pointer (some ⟨BN, 0, none⟩), .pointer (some ⟨Bp, 0, none⟩), .pointer (some ⟨Bsum, 0, none⟩), .pointer (some ⟨Bper, 0, none⟩), .pointer (some ⟨BX, 0, none⟩), .pointer (some ⟨BL, 0, none⟩)],
              fun v _ => v = .int .i64 so,
              fun v _ => v = .agg #[.slice (some ⟨ba, off, none⟩) l0.length c0, .slice A1 l1.length c1, .int .i64 first, .int .i64 days],
              fun v _ => v = .agg #[.string x.f0, .int .i64 x.f1, .int .i64 x.f2, .int .i64 x.f3, .int .i64 x.f4],
              fun v _ => v = .int .i64 (i : Int),
              fun v _ => v = .int .i64 ben,
              fun v _ => v = .int .i64 (wrap64 (so + ben))] rfl ?hst13 ?lit13 ?hlit13 ?steps13 ?rest13
            case hst13 => exact ⟨Stable.eq _, Stable.eq _, Stable.eq _, Stable.eq _, Stable.eq _, Stable.eq _, Stable.eq _, trivial⟩
            case hlit13 => intro vs; simp [putN, dstOf, Act.put]; exact rfl
            case steps13 =>
              simp only [List.take_succ_cons, List.take_zero]
              refine StepsFrom.cons (fun vs w' hb hav => ?_) ?_
              · -- 0
                (obtain ⟨k0, k1, k2, k3, k4, k5, k6, k7, k8, k9⟩ := HK w' hb; exact ExtOp.val rfl (v := .func (.func 85) #[] #[.pointer (some ⟨BN, 0, none⟩), .pointer (some ⟨Bp, 0, none⟩), .pointer (some ⟨Bsum, 0, none⟩), .pointer (some ⟨Bper, 0, none⟩), .pointer (some ⟨BX, 0, none⟩), .pointer (some ⟨BL, 0, none⟩)]) (by simp [go_sem, k0, k1, k2, k3, k4, k5, k6, k7, k8, k9]) rfl)
              refine StepsFrom.cons (fun vs w' hb hav => ?_) ?_
              · -- 1
                (obtain ⟨k0, k1, k2, k3, k4, k5, k6, k7, k8, k9⟩ := HK w' hb; exact ExtOp.val rfl (v := .int .i64 so) (by simp [go_sem]) rfl)
              refine StepsFrom.cons (fun vs w' hb hav => ?_) ?_
              · -- 2
                (obtain ⟨k0, k1, k2, k3, k4, k5, k6, k7, k8, k9⟩ := HK w' hb; exact ExtOp.val rfl (v := .agg #[.slice (some ⟨ba, off, none⟩) l0.length c0, .slice A1 l1.length c1, .int .i64 first, .int .i64 days]) (by simp [go_sem, k0, k1, k2, k3, k4, k5, k6, k7, k8, k9]) rfl)
              refine StepsFrom.cons (fun vs w' hb hav => ?_) ?_
              · -- 3
                (obtain ⟨k0, k1, k2, k3, k4, k5, k6, k7, k8, k9⟩ := HK w' hb; exact ExtOp.val rfl (v := .agg #[.string x.f0, .int .i64 x.f1, .int .i64 x.f2, .int .i64 x.f3, .int .i64 x.f4]) (by simp [go_sem, k0, k1, k2, k3, k4, k5, k6, k7, k8, k9]) rfl)
              refine StepsFrom.cons (fun vs w' hb hav => ?_) ?_
              · -- 4
                (obtain ⟨k0, k1, k2, k3, k4, k5, k6, k7, k8, k9⟩ := HK w' hb; exact ExtOp.val rfl (v := .int .i64 (i : Int)) (by simp [go_sem]) rfl)
              refine StepsFrom.cons (fun vs w' hb hav => ?_) ?_
              · -- 5
                (obtain ⟨k0, k1, k2, k3, k4, k5, k6, k7, k8, k9⟩ := HK w' hb; have h2 : vs 2 = .agg #[.slice (some ⟨ba, off, none⟩) l0.length c0, .slice A1 l1.length c1, .int .i64 first, .int .i64 days] := hav 2 (by kernel_rfl); have h3 : vs 3 = .agg #[.string x.f0, .int .i64 x.f1, .int .i64 x.f2, .int .i64 x.f3, .int .i64 x.f4] := hav 3 (by kernel_rfl); have h4 : vs 4 = .int .i64 (i : Int) := hav 4 (by kernel_rfl); exact ExtOp.call rfl (by simp [go_sem, h2, h3, h4]) ((round_benefit.calls _ c0 l0 A1 c1 l1 first days x.f0 x.f1 x.f2 x.f3 x.f4 (i : Int) ben w' (Kd.C_below H0.out (HW6.out.trans (hb.mono HW6.out.size))) hc0 (Kd.C_below H1.out (HW6.out.trans (hb.mono HW6.out.size))) hc1 HBEN.out).mono fun e w2 ⟨he, h2⟩ => ⟨_, he, h2, rfl⟩))
              refine StepsFrom.cons (fun vs w' hb hav => ?_) ?_
              · -- 6
                (obtain ⟨k0, k1, k2, k3, k4, k5, k6, k7, k8, k9⟩ := HK w' hb; have h1 : vs 1 = .int .i64 so := hav 1 (by kernel_rfl); have h5 : vs 5 = .int .i64 ben := hav 5 (by kernel_rfl); exact ExtOp.val rfl (v := .int .i64 (wrap64 (so + ben))) (by simp [go_sem, h1, h5, IntKind.wrap_i64, wrap64]) rfl)
              exact StepsFrom.nil
            case rest13 =>
              rintro vs w' hb ⟨h0, h1, h2, h3, h4, h5, h6, -⟩
              have S9 := HS8.out.keep hb
              have hW9 := HW6.out.trans (hb.mono HW6.out.size)
              have O9 := HO8.out.trans (Only.of_below hb)
              have X9 : ∀ j v, (encAsset x)[j]? = some v → w'.cell? ⟨W.heap.size, j, none⟩ = some v := fun j v hv => keep_cell hb (HX8.out j v hv)
              have HS9 := Lib.hid S9
              have HW9 := Lib.hid hW9
              have HO9 := Lib.hid O9
              have HX9 := Lib.hid X9
              clear HK hb S9 hW9 O9 X9 HS8 HO8 HX8
              go_wp2_with fail
              refine (IH.out (now ++ [(i : Int)]) (left.set i (q - x.f1)) (wrap64 (so + ben)) b' _ (by have := HK.out; simp; omega) (by rw [List.length_set]; exact HLL.out) (fun j hj => ?_) HW9.out HS9.out).mono ?_
              · rw [List.length_set] at hj
                rw [set_get _ _ _ _ hj]
                split
                · omega
                · exact HL.out j hj
              rintro e w9 ⟨rfl, S10, O10⟩
              have hres : chSearch l0 l1 first days d (now ++ [(i : Int)]).length (left.set i (q - x.f1)) (now ++ [(i : Int)]) (wrap64 (so + ben)) b' = rec_ (left.set i (q - x.f1)) (i : Int) b' := by
                rw [← HREC.out, ← HBV.out]; simp
              rw [hres] at S10
              have hil : i < left.length := by have := HLL.out; omega
              have hlen : (left.set i (q - x.f1)).length = l1.length := by rw [List.length_set]; exact HLL.out
              have hlr := S10.leftr
              have c10 : w9.cell? ⟨g, i, none⟩ = some (.int .i64 (q - x.f1)) := by
                rw [hlen] at hlr
                rw [hlr.cellAt i (by omega), int_get _ i (by omega), set_get _ _ _ _ hil, if_pos rfl]
              have f10 : w9.frozen? ⟨g, i, none⟩ = false := by rw [hlen] at hlr; exact hlr.frozenAt i
              have l10 := S10.leftc
              have X10 : ∀ j v, (encAsset x)[j]? = some v → w9.cell? ⟨W.heap.size, j, none⟩ = some v := fun j v hv => O10.cell hxm (HX9.out j v hv)
              have x10 : w9.cell? ⟨W.heap.size, 1, none⟩ = some (.int .i64 x.f1) := X10 1 _ rfl
              have hwq2 : IntKind.i64.wrap q = q := by rw [IntKind.wrap_i64]; omega
              have HK : ∀ u, Below w9.heap.size w9 u → u.cell? ⟨BL, 0, none⟩ = some (.slice (some ⟨g, 0, none⟩) l1.length cL) ∧ u.cell? ⟨g, i, none⟩ = some (.int .i64 (q - x.f1)) ∧ u.cell? ⟨W.heap.size, 1, none⟩ = some (.int .i64 x.f1) :=
                fun u hu => ⟨keep_cell hu l10, keep_cell hu c10, keep_cell hu x10⟩
              have HS10 := Lib.hid S10
              have HO10 := Lib.hid (HO9.out.trans O10)
              have HX10 := Lib.hid X10
              have HLEN := Lib.hid hlen
              clear h0 h1 h2 h3 h4 h5 h6 S10 O10 X10 hlr hres HS9 HO9 HX9 hlen
              go_wp2_with fail
              refine wp_region_ext_list 7 (by kernel_rfl) (by kernel_rfl) [fun v _ => v = .slice (some ⟨g, 0, none⟩) l1.length cL,
                fun v _ => v = .int .i64 (i : Int),
                fun v _ => v = .pointer (some ⟨g, i, none⟩),
                fun v _ => v = .int .i64 (q - x.f1),
                fun v _ => v = .pointer (some ⟨W.heap.size, 1, none⟩),
                fun v _ => v = .int .i64 x.f1,
                fun v _ => v = .int .i64 q] rfl ?hst14 ?lit14 ?hlit14 ?steps14 ?rest14
              case hst14 => exact ⟨Stable.eq _, Stable.eq _, Stable.eq _, Stable.eq _, Stable.eq _, Stable.eq _, Stable.eq _, trivial⟩
              case hlit14 => intro vs; simp [putN, dstOf, Act.put]; exact rfl
              case steps14 =>
                simp only [List.take_succ_cons, List.take_zero]
                refine StepsFrom.cons (fun vs w' hb hav => ?_) ?_
                · -- 0
                  (obtain ⟨k0, k1, k2⟩ := HK w' hb; exact ExtOp.val rfl (v := .slice (some ⟨g, 0, none⟩) l1.length cL) (by simp [go_sem, k0, k1, k2]) rfl)
                refine StepsFrom.cons (fun vs w' hb hav => ?_) ?_
                · -- 1
                  (obtain ⟨k0, k1, k2⟩ := HK w' hb; exact ExtOp.val rfl (v := .int .i64 (i : Int)) (by simp [go_sem]) rfl)
                refine StepsFrom.cons (fun vs w' hb hav => ?_) ?_
                · -- 2
                  (obtain ⟨k0, k1, k2⟩ := HK w' hb; have h0 : vs 0 = .slice (some ⟨g, 0, none⟩) l1.length cL := hav 0 (by kernel_rfl); have h1 : vs 1 = .int .i64 (i : Int) := hav 1 (by kernel_rfl); exact ExtOp.val rfl (v := .pointer (some ⟨g, i, none⟩)) (by simp [go_sem, h0, h1, hlti]) rfl)
                refine StepsFrom.cons (fun vs w' hb hav => ?_) ?_
                · -- 3
                  (obtain ⟨k0, k1, k2⟩ := HK w' hb; have h2 : vs 2 = .pointer (some ⟨g, i, none⟩) := hav 2 (by kernel_rfl); exact ExtOp.val rfl (v := .int .i64 (q - x.f1)) (by simp [go_sem, h2, k0, k1, k2, k1]) rfl)
                refine StepsFrom.cons (fun vs w' hb hav => ?_) ?_
                · -- 4
                  (obtain ⟨k0, k1, k2⟩ := HK w' hb; exact ExtOp.val rfl (v := .pointer (some ⟨W.heap.size, 1, none⟩)) (by simp [go_sem]) rfl)
                refine StepsFrom.cons (fun vs w' hb hav => ?_) ?_
                · -- 5
                  (obtain ⟨k0, k1, k2⟩ := HK w' hb; have h4 : vs 4 = .pointer (some ⟨W.heap.size, 1, none⟩) := hav 4 (by kernel_rfl); exact ExtOp.val rfl (v := .int .i64 x.f1) (by simp [go_sem, h4, k0, k1, k2]) rfl)
                refine StepsFrom.cons (fun vs w' hb hav => ?_) ?_
                · -- 6
                  (obtain ⟨k0, k1, k2⟩ := HK w' hb; have h3 : vs 3 = .int .i64 (q - x.f1) := hav 3 (by kernel_rfl); have h5 : vs 5 = .int .i64 x.f1 := hav 5 (by kernel_rfl); exact ExtOp.val rfl (v := .int .i64 q) (by simp [go_sem, h3, h5, hwq2]) rfl)
                exact StepsFrom.nil
              case rest14 =>
                rintro vs w' hb ⟨h0, h1, h2, h3, h4, h5, h6, -⟩
                have S11 := (HS10.out.keep hb).setLeft ap rfl HLEN.out i q
                rw [set_back left i (q - x.f1) q hil HQ.out] at S11
                have O11 := (HO10.out.trans (Only.of_below hb)).trans (Only.set w' (p := ⟨g, i, none⟩) (.inr (.inr (.inr (.inr rfl)))) (.int .i64 q))
                have X11 : ∀ j v, (encAsset x)[j]? = some v → (w'.setCell ⟨g, i, none⟩ (.int .i64 q)).cell? ⟨W.heap.size, j, none⟩ = some v := fun j v hv =>
                  (((Only.of_below hb).trans (Only.set w' (p := ⟨g, i, none⟩) (.inr (.inr (.inr (.inr rfl)))) (.int .i64 q)) : Only (Mut Bper Bsum BN BNd (.slice (some ⟨g, 0, none⟩) l1.length cL)) w9 _)).cell hxm (HX10.out j v hv)
                have ck := keep_cell hb c10
                have fk := keep_froz hb c10 f10
                have HS11 := Lib.hid S11
                have HO11 := Lib.hid O11
                have HX11 := Lib.hid X11
                clear S11 O11 X11 HK hb c10 f10 l10 x10 HS10 HO10 HX10
                go_wp2_with fail
                go_roundw
                case rel => exact ⟨i + 1, (i : Int), _, by omega, by go_num, HI.out, HS11.out, HO11.out, HX11.out⟩
                case measure => simp [intOf]; omega
      · obtain rfl : i = l1.length := by omega
        have hI' := hI.out
        rw [Nat.sub_self, chLoop] at hI'
        subst hI'
        have hp := hS.out.pop ap now.length (by simp)
        rw [List.take_left] at hp
        have HP := Lib.hid hp
        have nn := hS.out.nowc
        have nnf := hS.out.nowf
        clear hI hp
        go_wp2_with fail
        go_end0
        exact ⟨rfl, HP.out, hO.out.trans (Only.set wr (.inr (.inr (.inl rfl))) _)⟩
end
/-- slices.Clone of numbers, whatever the slice. -/
theorem clone_any {w : World} {A : Option Addr} {c : Nat} {l : List Int} (h : (Kd.int .i64).C w A l.length l) (hn : l.length * 8 ≤ 140737488355328) :
    Calls Tryz.prog 49 #[.slice A l.length c] w fun e w' => ∃ v', e = .returned v' ∧ w'.ownsRow w.heap.size 3 1 v' l.length (encs (Value.int .i64) l) ∧ Below w.heap.size w w' := by
  rcases Nat.eq_zero_or_pos l.length with h0 | h0
  · obtain rfl := List.eq_nil_of_length_eq_zero h0
    cases A with
    | none => exact (Tryz.slices_Clone_int_nil 0 c w).mono fun e w' ⟨he, hw⟩ => ⟨_, he, World.ownsRow_nil _ _ _ _, by subst hw; exact Below.refl _ _⟩
    | some a => exact (Tryz.slices_Clone_int_zero a c w).mono fun e w' ⟨v', he, h1, _, h2⟩ => ⟨v', he, by simpa [encs] using h1, h2⟩
  · obtain ⟨b, off, rfl, hb, hc⟩ := C_plain int_K (by decide) h h0
    refine (Tryz.slices_Clone_int b off l.length c l w (Nat.le_refl _) hn (fun j hj => ?_)).mono fun e w' ⟨v', he, h1, _, h2⟩ => ⟨v', he, by rw [List.take_of_length_le (Nat.le_refl _)] at h1; exact h1, h2⟩
    have := hc j hj 0 _ rfl
    have e : l[j]! = l.getD j 0 := by rw [List.getElem!_eq_getElem?_getD, List.getD_eq_getElem?_getD]; rfl
    rw [← e]
    simpa [Kd.int, Kd.scalar] using this
def chooseF (l0 : List S73) (l1 : List Int) (first days : Int) : List Int × Int × Int :=
  if (progF l0 l1 first days).2 = 0 then ((chSearch l0 l1 first days l0.length 0 l1 [] 0 ([], -1)).1, (chSearch l0 l1 first days l0.length 0 l1 [] 0 ([], -1)).2, 0) else ([], 0, (progF l0 l1 first days).2)
def Chose (w : World) (R : List Int × Int × Int) (e : Ending) (w' : World) : Prop := ∃ v : Value, e = .returned (.tuple #[v, .int .i64 R.2.1, .int .i64 R.2.2]) ∧ (Kd.int .i64).R 3 w' w.heap.size (fun _ => True) v R.1 ∧ Below w.heap.size w w'
set_option maxRecDepth 100000 in
set_option maxHeartbeats 4000000 in
theorem choose_walk {A0 : Option Addr} {c0 : Nat} {l0 : List S73} {A1 : Option Addr} {c1 : Nat} {l1 : List Int} {first days : Int} {w : World}
    (hr0 : Kd.C k73 w A0 l0.length l0) (hc0 : l0.length ≤ c0) (hr1 : Kd.C (Kd.int .i64) w A1 l1.length l1) (hc1 : l1.length ≤ c1) (hs : ∀ x ∈ l0, x.f0.size ≤ 9223372036854775807) :
    Calls Tryz.prog 30 #[.agg #[.slice A0 l0.length c0, .slice A1 l1.length c1, .int .i64 first, .int .i64 days]] w (Chose w (chooseF l0 l1 first days)) := by
  generalize hR : chooseF l0 l1 first days = R
  have HR := Lib.hid hR
  have H0 := Lib.hid hr0
  have H1 := Lib.hid hr1
  have HS := Lib.hid hs
  have hl0 := hr0.2.1
  have hl1 := hr1.2.1
  clear hr0 hr1 hs hR
  generalize hP : progF l0 l1 first days = P
  obtain ⟨at_, er⟩ := P
  have HP := Lib.hid hP
  clear hP
  go_enter Tryz.func30, Tryz.ntmps30
  go_wp2_with fail
  have HA : Hid (Below w.heap.size w (((w.alloc (.cells #[.slice A0 l0.length c0, .slice A1 l1.length c1, .int .i64 first, .int .i64 days] 66)).alloc (.cells #[.slice none 0 0] 41)).alloc (.cells #[.int .i64 0] 3))) := Lib.hid (by (repeat (first | (with_reducible exact Below.refl _ _) | (with_reducible assumption) | (with_reducible exact Hid.out (by assumption)) | (with_reducible refine Below.setCell ?_ (by first | (simp; done) | omega | (simp; omega)) _) | (with_reducible refine Below.alloc ?_ (by first | (simp; done) | omega | (simp; omega)) _) | (with_reducible refine Below.drew ?_) | (with_reducible refine pw_below_drewN ?_ _))))
  refine (checkProg_calls (Kd.C_below H0.out HA.out) hc0 (Kd.C_below H1.out HA.out) HS.out).mono ?_
  rw [HP.out]
  rintro e w1 ⟨rfl, hb1⟩
  have p0 : w1.cell? ⟨w.heap.size, 0, none⟩ = some (.slice A0 l0.length c0) := keep_cell hb1 (by simp [go_sem])
  have p1 : w1.cell? ⟨w.heap.size, 1, none⟩ = some (.slice A1 l1.length c1) := keep_cell hb1 (by simp [go_sem])
  have p2 : w1.cell? ⟨w.heap.size, 2, none⟩ = some (.int .i64 first) := keep_cell hb1 (by simp [go_sem])
  have p3 : w1.cell? ⟨w.heap.size, 3, none⟩ = some (.int .i64 days) := keep_cell hb1 (by simp [go_sem])
  have q0 : w1.cell? ⟨w.heap.size + 1, 0, none⟩ = some (.slice none 0 0) := keep_cell hb1 (by simp [go_sem])
  have qf : w1.frozen? ⟨w.heap.size + 1, 0, none⟩ = false := keep_froz hb1 (v := false) (u := .slice none 0 0) (by simp [go_sem]) (by simp [go_sem])
  have s0 : w1.cell? ⟨w.heap.size + 1 + 1, 0, none⟩ = some (.int .i64 0) := keep_cell hb1 (by simp [go_sem])
  have sf : w1.frozen? ⟨w.heap.size + 1 + 1, 0, none⟩ = false := keep_froz hb1 (v := false) (u := .int .i64 0) (by simp [go_sem]) (by simp [go_sem])
  have HB1 : Hid (Below w.heap.size w w1) := Lib.hid (after HA.out hb1)
  clear hb1 HA
  generalize hB2 : w.heap.size + 1 + 1 = B2 at s0 sf ⊢
  generalize hB1 : w.heap.size + 1 = B1 at q0 qf ⊢
  generalize hB0 : w.heap.size = B0 at p0 p1 p2 p3 ⊢
  have HN : Hid (B0 = w.heap.size ∧ B1 = w.heap.size + 1 ∧ B2 = w.heap.size + 2) := Lib.hid (by omega)
  have n12 : B1 ≠ B2 := by omega
  have n21 : B2 ≠ B1 := by omega
  clear hB2 hB1 hB0
  by_cases he : er = 0
  · subst he
    have ok := progOk (show (progF l0 l1 first days).2 = 0 by rw [HP.out])
    go_wp2_with fail
    refine (clone_any (Kd.C_below H1.out HB1.out) (by have := ok.len1; omega)).mono ?_
    rintro e w2 ⟨lv, rfl, ho, hb2⟩
    obtain ⟨AL, cL, rfl⟩ : ∃ A c, lv = .slice A l1.length c := by
      rcases ho.2 with ⟨e1, e2⟩ | ⟨g, cap, cur, e1, -⟩
      · exact ⟨none, 0, by rw [e1, e2]⟩
      · exact ⟨_, cap, e1⟩
    have P0 := keep_cell hb2 p0
    have P1 := keep_cell hb2 p1
    have P2 := keep_cell hb2 p2
    have P3 := keep_cell hb2 p3
    have Q0 := keep_cell hb2 q0
    have QF := keep_froz hb2 q0 qf
    have S0 := keep_cell hb2 s0
    have SF := keep_froz hb2 s0 sf
    have z2 : B2 < w2.heap.size := World.block_lt_of_cell? _ _ S0
    have z1 : B1 < w2.heap.size := World.block_lt_of_cell? _ _ Q0
    have z0 : B0 < w2.heap.size := World.block_lt_of_cell? _ _ P0
    have m0 : B0 ≠ w2.heap.size := by omega
    have m1 : B1 ≠ w2.heap.size := by omega
    have m2 : B2 ≠ w2.heap.size := by omega
    have hwz : w.heap.size ≤ w2.heap.size := by have := HN.out; omega
    have HB2 : Hid (Below w.heap.size w w2) := Lib.hid (after HB1.out hb2)
    have HO2 := Lib.hid ho
    have h6 := ok.len0
    have hw1 : w.heap.size ≤ w1.heap.size := HB1.out.size
    have z21 : B2 < w1.heap.size := World.block_lt_of_cell? _ _ s0
    have HOK := Lib.hid ok
    obtain ⟨i0, hi3, hz0, hz1, hz2⟩ := info_parts info3
    clear p0 p1 p2 p3 q0 qf s0 sf hb2 HB1 ho ok
    have Q3 : (w2.alloc (.cells #[.slice AL l1.length cL] 41)).cell? ⟨B1, 0, none⟩ = some (.slice none 0 0) := (World.cell?_alloc_lt _ _ _ z1).trans Q0
    have S3 : (w2.alloc (.cells #[.slice AL l1.length cL] 41)).cell? ⟨B2, 0, none⟩ = some (.int .i64 0) := (World.cell?_alloc_lt _ _ _ z2).trans S0
    have SF3 : (w2.alloc (.cells #[.slice AL l1.length cL] 41)).frozen? ⟨B2, 0, none⟩ = false := keep_froz ((Below.refl _ _).alloc (Nat.le_refl _) _) S0 SF
    have hw3 : w.heap.size ≤ (w2.alloc (.cells #[.slice AL l1.length cL] 41)).heap.size := by rw [World.size_alloc]; omega
    have z3 : (w2.alloc (.cells #[.slice AL l1.length cL] 41)).heap.size = w2.heap.size + 1 := World.size_alloc _ _
    go_wp2_with (at_make; go_loud (refine wpList_make_own _ rfl _ _ 41 rfl w.heap.size 3 i0 (.int .i64 0) 1 Tryz.underlying41 hi3 hz0 hz1 .i64 .i64 _ l0.length rfl rfl rfl (by rw [hz2]; omega) (by unfold maxLen; omega) hw3 ?_)
                 intro w4 hown4 hgrow4
                 go_loud (have HG4 := Lib.hid (Only.of_grown (S := fun _ => False) hgrow4 (fun k e => by cases e)))
                 go_loud (have z4 := hgrow4.size)
                 go_loud (rw [z3] at z4)
                 go_loud (have Q4 := HG4.out.cell (fun e => e) Q3)
                 go_loud (have S4 := HG4.out.cell (fun e => e) S3)
                 go_loud (have SF4 := (HG4.out.froz (g := B2) (o := 0) (fun e => e) (by rw [z3]; omega)).trans SF3)
                 go_loud (have k1 : B1 ≠ w4.heap.size := by omega)
                 go_loud (have k2 : B2 ≠ w4.heap.size := by omega)
                 go_loud (have k3 : B2 ≠ w4.heap.size + 1 := by omega)
                 rw [z3] at hown4
                 rw [z3]
                 clear z3 hgrow4 hw3 Q3 S3 SF3
                 go_loud (have S5 : (w4.alloc (.cells #[.slice (some ⟨w2.heap.size + 1, 0, none⟩) 0 l0.length] 41)).cell? ⟨B2, 0, none⟩ = some (.int .i64 0) := (World.cell?_alloc_lt _ _ _ (by show B2 < w4.heap.size; omega)).trans S4)
                 go_loud (have SF5 : (w4.alloc (.cells #[.slice (some ⟨w2.heap.size + 1, 0, none⟩) 0 l0.length] 41)).frozen? ⟨B2, 0, none⟩ = false := keep_froz ((Below.refl _ _).alloc (Nat.le_refl _) _) S4 SF4)
                 go_loud (have zz6 : ((w4.alloc (.cells #[.slice (some ⟨w2.heap.size + 1, 0, none⟩) 0 l0.length] 41)).setCell ⟨B2, 0, none⟩ (.int .i64 (-1))).heap.size = w4.heap.size + 1 := by simp [World.setCell, World.size_alloc])
                 go_loud (have X6 : (((w4.alloc (.cells #[.slice (some ⟨w2.heap.size + 1, 0, none⟩) 0 l0.length] 41)).setCell ⟨B2, 0, none⟩ (.int .i64 (-1))).alloc (.cells #[.nilFunc] 159)).cell? ⟨w4.heap.size + 1, 0, none⟩ = some .nilFunc := by rw [← zz6]; simp [go_sem])
                 go_loud (have XF6 : (((w4.alloc (.cells #[.slice (some ⟨w2.heap.size + 1, 0, none⟩) 0 l0.length] 41)).setCell ⟨B2, 0, none⟩ (.int .i64 (-1))).alloc (.cells #[.nilFunc] 159)).frozen? ⟨w4.heap.size + 1, 0, none⟩ = false := by rw [← zz6]; simp [go_sem]))
    have hn := HN.out
    have z41 : w2.heap.size + 1 < w4.heap.size := own_lt hown4 _ rfl
    have hown : ∀ k, (Value.slice AL l1.length cL).ownBlock = some k → B2 < k ∧ k < w2.heap.size := fun k hk => ⟨by have := own_base HO2.out k hk; omega, own_lt HO2.out k hk⟩
    have hal3 : Only (fun _ => False) w2 (w2.alloc (.cells #[.slice AL l1.length cL] 41)) := Only.of_below ((Below.refl _ _).alloc (Nat.le_refl _) _)
    have hal4 : Only (fun _ => False) w4 (w4.alloc (.cells #[.slice (some ⟨w2.heap.size + 1, 0, none⟩) 0 l0.length] 41)) := Only.of_below ((Below.refl _ _).alloc (Nat.le_refl _) _)
    have h24 := hal3.trans HG4.out
    have hlc4 : w4.cell? ⟨w2.heap.size, 0, none⟩ = some (.slice AL l1.length cL) := HG4.out.cell (fun e => e) (by simp [go_sem])
    have n5 : (w4.alloc (.cells #[.slice (some ⟨w2.heap.size + 1, 0, none⟩) 0 l0.length] 41)).cell? ⟨w4.heap.size, 0, none⟩ = some (.slice (some ⟨w2.heap.size + 1, 0, none⟩) 0 l0.length) := by simp [go_sem]
    have nf5 : (w4.alloc (.cells #[.slice (some ⟨w2.heap.size + 1, 0, none⟩) 0 l0.length] 41)).frozen? ⟨w4.heap.size, 0, none⟩ = false := by simp [go_sem]
    have hs5 : (w4.alloc (.cells #[.slice (some ⟨w2.heap.size + 1, 0, none⟩) 0 l0.length] 41)).heap.size = w4.heap.size + 1 := World.size_alloc _ _
    have h25 := h24.trans hal4
    have o45 := hal4
    have hQF5 := (HG4.out.trans hal4).froz (g := B1) (o := 0) (fun e => e) (by rw [World.size_alloc]; omega)
    have h2QF := hal3.froz (g := B1) (o := 0) (fun e => e) z1
    clear hal3 hal4 S4 SF4 X6 XF6 HG4
    generalize hW5 : (w4.alloc (.cells #[.slice (some ⟨w2.heap.size + 1, 0, none⟩) 0 l0.length] 41)) = W5 at *
    clear hW5
    have o7 : Only (fun j => j = B2) W5 ((W5.setCell ⟨B2, 0, none⟩ (.int .i64 (-1))).alloc (.cells #[.func (.func 85) #[] #[.pointer (some ⟨w4.heap.size, 0, none⟩), .pointer (some ⟨B0, 0, none⟩), .pointer (some ⟨B2, 0, none⟩), .pointer (some ⟨B1, 0, none⟩), .pointer (some ⟨w4.heap.size + 1, 0, none⟩), .pointer (some ⟨w2.heap.size, 0, none⟩)]] 159)) :=
      (Only.set (S := fun j => j = B2) W5 (p := ⟨B2, 0, none⟩) rfl (.int .i64 (-1))).trans (Only.of_below ((Below.refl _ _).alloc (Nat.le_refl _) _))
    have x7 : ∀ o, ((W5.setCell ⟨B2, 0, none⟩ (.int .i64 (-1))).alloc (.cells #[o] 159)).cell? ⟨w4.heap.size + 1, 0, none⟩ = some o := by intro o; rw [← zz6]; simp [go_sem]
    have s7 : ∀ o, ((W5.setCell ⟨B2, 0, none⟩ (.int .i64 (-1))).alloc (.cells #[o] 159)).cell? ⟨B2, 0, none⟩ = some (.int .i64 (-1)) := fun o => (World.cell?_alloc_lt _ _ _ (by rw [zz6]; show B2 < w4.heap.size + 1; omega)).trans (World.cell?_setCell_same _ _ _ S5)
    have sf7 : ∀ o, ((W5.setCell ⟨B2, 0, none⟩ (.int .i64 (-1))).alloc (.cells #[o] 159)).frozen? ⟨B2, 0, none⟩ = false := fun o => keep_froz ((Below.refl _ _).alloc (Nat.le_refl _) _) (World.cell?_setCell_same W5 ⟨B2, 0, none⟩ (.int .i64 (-1)) S5) (by simp [go_sem, SF5])
    replace x7 := x7 (.func (.func 85) #[] #[.pointer (some ⟨w4.heap.size, 0, none⟩), .pointer (some ⟨B0, 0, none⟩), .pointer (some ⟨B2, 0, none⟩), .pointer (some ⟨B1, 0, none⟩), .pointer (some ⟨w4.heap.size + 1, 0, none⟩), .pointer (some ⟨w2.heap.size, 0, none⟩)])
    replace s7 := s7 (.func (.func 85) #[] #[.pointer (some ⟨w4.heap.size, 0, none⟩), .pointer (some ⟨B0, 0, none⟩), .pointer (some ⟨B2, 0, none⟩), .pointer (some ⟨B1, 0, none⟩), .pointer (some ⟨w4.heap.size + 1, 0, none⟩), .pointer (some ⟨w2.heap.size, 0, none⟩)])
    replace sf7 := sf7 (.func (.func 85) #[] #[.pointer (some ⟨w4.heap.size, 0, none⟩), .pointer (some ⟨B0, 0, none⟩), .pointer (some ⟨B2, 0, none⟩), .pointer (some ⟨B1, 0, none⟩), .pointer (some ⟨w4.heap.size + 1, 0, none⟩), .pointer (some ⟨w2.heap.size, 0, none⟩)])
    generalize hW7 : (W5.setCell ⟨B2, 0, none⟩ (.int .i64 (-1))).alloc (.cells #[.func (.func 85) #[] #[.pointer (some ⟨w4.heap.size, 0, none⟩), .pointer (some ⟨B0, 0, none⟩), .pointer (some ⟨B2, 0, none⟩), .pointer (some ⟨B1, 0, none⟩), .pointer (some ⟨w4.heap.size + 1, 0, none⟩), .pointer (some ⟨w2.heap.size, 0, none⟩)]] 159) = W7 at *
    clear hW7 zz6
    have o27 := ((h25.trans (Only.refl _ _) : Only (fun _ => False) w2 W5))
    have mv : ∀ k o v, k ≠ B2 → w2.cell? ⟨k, o, none⟩ = some v → W7.cell? ⟨k, o, none⟩ = some v := fun k o v hk hc => o7.cell (fun e => hk e) (o27.cell (fun e => e) hc)
    have mb : ∀ k, k < w2.heap.size → k ≠ B2 → W7.heap[k]? = w2.heap[k]? := fun k hk h2 => (o7.block k (Nat.lt_of_lt_of_le hk o27.size) (fun e => h2 e)).trans (o27.block k hk (fun e => e))
    have ap : Apart B0 B1 B2 w4.heap.size (w2.heap.size + 1) (w4.heap.size + 1) w2.heap.size (.slice AL l1.length cL) := by
      constructor
      case p => intro e; rcases e with e | e | e | e | e; all_goals first | omega | (have := hown _ e; omega)
      case x => intro e; rcases e with e | e | e | e | e; all_goals first | omega | (have := hown _ e; omega)
      case l => intro e; rcases e with e | e | e | e | e; all_goals first | omega | (have := hown _ e; omega)
      case pl => intro e; have := hown _ e; omega
      case sl => intro e; have := hown _ e; omega
      case nl => intro e; have := hown _ e; omega
      case dl => intro e; have := hown _ e; omega
      all_goals omega
    have hmut : ∀ j, Mut B1 B2 w4.heap.size (w2.heap.size + 1) (.slice AL l1.length cL) j → w.heap.size ≤ j := by
      intro j e
      rcases e with e | e | e | e | e
      all_goals first | omega | (have := hown _ e; omega)
    have hst : St w.heap.size B0 B1 B2 w4.heap.size (w2.heap.size + 1) (w4.heap.size + 1) w2.heap.size l0.length c0 c1 A0 A1 l0 l1 first days (.slice AL l1.length cL) [] l1 ([], -1) W7 := {
      p0 := mv _ _ _ (by omega) P0
      p1 := mv _ _ _ (by omega) P1
      p2 := mv _ _ _ (by omega) P2
      p3 := mv _ _ _ (by omega) P3
      fn := x7
      nowc := o7.cell (fun e => k2 e.symm) n5
      nowf := (o7.froz (fun e => k2 e.symm) (by rw [hs5]; omega)).trans nf5
      nowr := own_move hown4 (fun k hk => by
        have hk' : w2.heap.size + 1 = k := by simpa [Value.ownBlock] using hk
        exact (o7.block k (by omega) (fun e => by have : k = B2 := e; omega)).trans (o45.block k (by omega) (fun e => e)))
      leftc := o7.cell (fun e => by have : w2.heap.size = B2 := e; omega) (o45.cell (fun e => e) hlc4)
      leftr := own_move (base := w.heap.size) ⟨HO2.out.1, HO2.out.2.imp id fun ⟨g, cap, cur, e, hg, r⟩ => ⟨g, cap, cur, e, Nat.le_trans hw1 hg, r⟩⟩ (fun k hk => by have := hown k hk; exact mb k this.2 (by omega))
      sumc := s7
      sumf := sf7
      perf := (o7.froz (fun e => n12 e) (by omega)).trans ((o27.froz (fun e => e) z1).trans QF)
      per := ⟨_, mv _ _ _ n12 Q0, Kd.R_nil _ _ _ _ _⟩ }
    have hb7 : Below w.heap.size w W7 := ⟨(o7.os.trans o27.os).trans HB2.out.os, (o7.tape.trans o27.tape).trans HB2.out.tape, (o7.output.trans o27.output).trans HB2.out.output, Nat.le_trans hwz (Nat.le_trans o27.size o7.size), fun k hk => (mb k (by omega) (by omega)).trans (HB2.out.block k hk)⟩
    refine (next_calls ap hmut h6 rfl HOK.out.len1 H0 hc0 H1 hc1 (Lib.hid fun j hj => ⟨(HOK.out.asset hj).c0, (HOK.out.asset hj).c1⟩) l0.length [] l1 0 ([], -1) W7 (by simp) rfl (fun i hi => HOK.out.bud _ (by rw [List.getElem!_eq_getElem?_getD, List.getElem?_eq_getElem hi]; exact List.getElem_mem hi)) hb7 hst).mono ?_
    rintro e w8 ⟨rfl, S8, O8⟩
    obtain ⟨pv, hpv, hpr⟩ := S8.per
    have s8 := S8.sumc
    have sf8 := S8.sumf
    have pf8 := S8.perf
    have hR := HR.out
    unfold chooseF at hR
    rw [HP.out, if_pos rfl] at hR
    subst hR
    generalize hB : chSearch l0 l1 first days l0.length ([] : List Int).length l1 [] 0 ([], -1) = BB at *
    have hb8 : Below w.heap.size w w8 := hb7.trans (O8.below hb7.size hmut)
    have HB8 := Lib.hid hb8
    have HAP := Lib.hid ap
    obtain ⟨Ap, cp, rfl⟩ := Kd.R_slice hpr
    have HK := fun (u : World) (hu : Below w8.heap.size w8 u) => And.intro (keep_cell hu hpv) (And.intro (keep_cell hu s8) (And.intro (keep_froz hu hpv pf8) (keep_froz hu s8 sf8)))
    have HPR := Lib.hid hpr
    clear hpr
    clear hn ap hb8 hb7 hst h24 h25 o45 o27 o7 hQF5 h2QF S8 O8
    go_wp2_with fail
    refine wp_region_ext_list 5 (by kernel_rfl) (by kernel_rfl) [fun v _ => v = .slice Ap BB.1.length cp,
      fun v _ => v = .int .i64 BB.2,
      fun _ _ => True,
      fun _ _ => True,
      fun v _ => v = .int .i64 0] rfl ?hst10 ?lit10 ?hlit10 ?steps10 ?rest10
    case hst10 => exact ⟨Stable.eq _, Stable.eq _, Stable.any, Stable.any, Stable.eq _, trivial⟩
    case hlit10 => intro vs; simp [putN, dstOf, Act.put]; exact rfl
    case steps10 =>
      simp only [List.take_succ_cons, List.take_zero]
      refine StepsFrom.cons (fun vs w' hb hav => ?_) ?_
      · -- 0
        (obtain ⟨k0, k1, k2, k3⟩ := HK w' hb; exact ExtOp.val rfl (v := .slice Ap BB.1.length cp) (by simp [go_sem, k0, k1, k2, k3]) rfl)
      refine StepsFrom.cons (fun vs w' hb hav => ?_) ?_
      · -- 1
        (obtain ⟨k0, k1, k2, k3⟩ := HK w' hb; exact ExtOp.val rfl (v := .int .i64 BB.2) (by simp [go_sem, k0, k1, k2, k3]) rfl)
      refine StepsFrom.cons (fun vs w' hb hav => ?_) ?_
      · -- 2
        (obtain ⟨k0, k1, k2, k3⟩ := HK w' hb; have h0 : vs 0 = .slice Ap BB.1.length cp := hav 0 (by kernel_rfl); exact ExtOp.noop rfl (by simp [go_sem, h0, k0, k2, setCell_self k0]) trivial)
      refine StepsFrom.cons (fun vs w' hb hav => ?_) ?_
      · -- 3
        (obtain ⟨k0, k1, k2, k3⟩ := HK w' hb; have h1 : vs 1 = .int .i64 BB.2 := hav 1 (by kernel_rfl); exact ExtOp.noop rfl (by simp [go_sem, h1, k1, k3, setCell_self k1]) trivial)
      refine StepsFrom.cons (fun vs w' hb hav => ?_) ?_
      · -- 4
        (obtain ⟨k0, k1, k2, k3⟩ := HK w' hb; exact ExtOp.val rfl (v := .int .i64 0) (by simp [go_sem]) rfl)
      exact StepsFrom.nil
    case rest10 =>
      rintro vs w' hb ⟨h0, h1, h2, h3, h4, -⟩
      have hpv' := keep_cell hb hpv
      have s8' := keep_cell hb s8
      have HPR' := Lib.hid (Kd.R_below HPR.out hb)
      have HB9 := Lib.hid (HB8.out.trans (hb.mono HB8.out.size))
      clear hb hpv s8 pf8 sf8 HPR HK HB8
      simp only [List.drop_succ_cons, List.drop_zero, List.drop_nil]
      go_wp2_with fail
      exact bodyPost_ret (v := .tuple #[.slice Ap BB.1.length cp, .int .i64 BB.2, .int .i64 0]) (by simp [results, Tryz.results30, go_sem, hpv', s8', h4]) rfl ⟨_, rfl, Kd.R_mono HPR'.out (fun _ _ => trivial), HB9.out⟩
  · have hR := HR.out
    unfold chooseF at hR
    rw [HP.out, if_neg he] at hR
    subst hR
    go_wp2_with fail
    refine bodyPost_ret (v := .tuple #[.slice none 0 0, .int .i64 0, .int .i64 er]) (by simp [results, Tryz.results30, go_sem, q0, s0]) rfl ⟨_, rfl, Kd.R_nil _ _ _ _ _, ?_⟩
    exact (HB1.out.setCell (by have := HN.out; show w.heap.size ≤ B1; omega) _).setCell (by have := HN.out; show w.heap.size ≤ B2; omega) _
def round_Choose.f (l0_0 : List S73) (l0_1 : List Int) (a0_2 a0_3 : Int) : Option (List Int × Int × Int) :=
  if (l0_0.all fun x => decide (x.f0.size ≤ 9223372036854775807)) = true then some (chooseF l0_0 l0_1 a0_2 a0_3) else none
theorem round_Choose.calls (A0_0 : Option Addr) (c0_0 : Nat) (l0_0 : List (S73)) (A0_1 : Option Addr) (c0_1 : Nat) (l0_1 : List Int) (a0_2 : Int) (a0_3 : Int) (r1 : List Int) (r2 : Int) (r3 : Int) (w : World) (hr0_0 : Kd.C k73 w A0_0 l0_0.length l0_0) (hc0_0 : l0_0.length ≤ c0_0) (hr0_1 : Kd.C (Kd.int .i64) w A0_1 l0_1.length l0_1) (hc0_1 : l0_1.length ≤ c0_1) (h : round_Choose.f l0_0 l0_1 a0_2 a0_3 = some (r1, r2, r3)) :
    Calls Tryz.prog 30 #[.agg #[.slice A0_0 l0_0.length c0_0, .slice A0_1 l0_1.length c0_1, .int .i64 a0_2, .int .i64 a0_3]] w fun e w' => ∃ v0_ : Value, e = .returned (.tuple #[v0_, .int .i64 r2, .int .i64 r3]) ∧ Kd.R (Kd.int .i64) 3 w' w.heap.size (fun _ => True) v0_ r1 ∧ Below w.heap.size w w' := by
  unfold round_Choose.f at h
  split at h
  · rename_i hs
    have h' := Option.some.inj h
    refine (choose_walk hr0_0 hc0_0 hr0_1 hc0_1 (fun x hx => by have := List.all_eq_true.1 hs x hx; simpa using this)).mono ?_
    rw [h']
    rintro e w' ⟨v, he, hr, hb⟩
    exact ⟨v, he, hr, hb⟩
  · cases h
end Go.Proofs.YtfoaglfnnomdkaaGreatDoor.C
