/- RoundRicher: the walk through the law. -/
import Derived.Test.YtfoaglfnnomdkaaGreatDoorHandRicherA
import Derived.Test.YtfoaglfnnomdkaaGreatDoorHandAwake
import Derived.Laws.AppendOwn
set_option linter.all false
namespace Go.Proofs.YtfoaglfnnomdkaaGreatDoor.C
open Go.RowKit Go.Shelf Go.Proofs.YtfoaglfnnomdkaaGreatDoorW.PrintWords Go.Proofs.YtfoaglfnnomdkaaGreatDoorW.PrintMore

theorem alloc_at (w : World) (o : Obj) : (w.alloc o).heap[w.heap.size]? = some o := by
  show (w.heap.push o)[w.heap.size]? = some o
  exact Array.getElem?_push_size
theorem own_slice {w : World} {B n : Nat} {v : Value} {xs : List Value} (h : w.ownsRow B 3 1 v n xs) (hn : 0 < n) : ∃ g cap, v = .slice (some ⟨g, 0, none⟩) n cap := by
  rcases h.2 with ⟨-, e2⟩ | ⟨g, cap, cur, e1, -⟩
  · omega
  · exact ⟨g, cap, e1⟩
theorem own_C {w : World} {B g n cap : Nat} {l : List Int} (h : w.ownsRow B 3 1 (.slice (some ⟨g, 0, none⟩) n cap) n (encs (Value.int .i64) l)) (hn : l.length = n) : l.length ≤ cap ∧ (Kd.int .i64).C w (some ⟨g, 0, none⟩) l.length l := by
  subst hn
  have hc : l.length ≤ cap ∧ cap ≤ maxLen := by
    rcases h.2 with ⟨e, -⟩ | ⟨g', cap', cur, e, -, -, h1, h2, -⟩
    · cases e
    · injection e with e1 e2 e3
      subst e3
      exact ⟨h1, h2⟩
  refine ⟨hc.1, rfl, by have := hc.2; unfold maxLen at this; omega, fun _ => ⟨_, rfl, fun j p hp => ⟨[.int .i64 p], rfl, rfl, fun i u hu => ?_⟩⟩⟩
  have hj : j < l.length := (List.getElem?_eq_some_iff.1 hp).1
  cases i with
  | zero =>
    have hu' : u = .int .i64 p := by simpa using hu.symm
    subst hu'
    have e : (⟨g, 0, none⟩ : Addr).add (j * (Kd.int .i64).sz + 0) = ⟨g, j, none⟩ := by
      show (⟨g, 0, none⟩ : Addr).add (j * 1 + 0) = _
      rw [Addr.add_lit]
      simp
    rw [e, h.cellAt j (by omega)]
    unfold encs
    rw [List.getElem?_map, hp]
    rfl
  | succ i => simp at hu
theorem choose_ok {l0 : List S73} {l1 : List Int} {first days : Int} {ps : List Int} {best : Int} (h : chooseF l0 l1 first days = (ps, best, 0)) : (progF l0 l1 first days).2 = 0 := by
  unfold chooseF at h
  split at h
  · assumption
  · injection h with _ h
    injection h with _ h
theorem rem_nat (x : Int) (n : Nat) (h : 0 ≤ x) (hn : 0 < n) : Int.tmod x (n : Int) = ((x.toNat % n : Nat) : Int) := by
  obtain ⟨m, rfl⟩ : ∃ m : Nat, x = (m : Int) := ⟨x.toNat, by omega⟩
  rw [Int.toNat_natCast]
  exact (Int.ofNat_tmod m n).symm
theorem richer_choose {l0 : List S73} {l1 : List Int} {first days : Int} {ps : List Int} {best x : Int} {k : Nat} (h : chooseF l0 l1 first days = (ps, best, 0)) (hk : k < l1.length) (hx : 0 ≤ x) :
    ∃ qs more, chooseF l0 (l1.set k (min 10000000 (l1[k]! + x))) first days = (qs, more, 0) ∧ best ≤ more := by
  have hp := choose_ok h
  obtain ⟨h0, h1, hle⟩ := set_more (progOk hp) hk hx
  have hp' := prog_set hp k h0 h1
  have hm := ch_more (l0 := l0) (first := first) (days := days) (List.length_set ..) hle
  unfold chooseF at h ⊢
  rw [if_pos hp] at h
  rw [hp', if_pos hp]
  refine ⟨_, _, rfl, ?_⟩
  injection h with _ h
  injection h with h _
  omega
theorem richer_bound {l0 : List S73} {l1 : List Int} {first days : Int} {ps : List Int} {best x : Int} {k : Nat} (h : chooseF l0 l1 first days = (ps, best, 0)) (hk : k < l1.length) (hx : 0 ≤ x) (pr : List Int) :
    ∃ a b e, boundF l0 l1 first days pr = (a, e) ∧ boundF l0 (l1.set k (min 10000000 (l1[k]! + x))) first days pr = (b, e) ∧ a ≤ b := by
  have hp := choose_ok h
  obtain ⟨h0, h1, hle⟩ := set_more (progOk hp) hk hx
  have hp' := prog_set hp k h0 h1
  obtain ⟨h2, h3⟩ := bound_more hp (by rw [hp']; exact hp) (List.length_set ..) hle pr
  refine ⟨(boundF l0 l1 first days pr).1, (boundF l0 (l1.set k (min 10000000 (l1[k]! + x))) first days pr).1, (boundF l0 l1 first days pr).2, rfl, ?_, h3⟩
  rw [h2]
set_option maxRecDepth 100000 in
set_option maxHeartbeats 4000000 in
theorem richer_walk {A0 : Option Addr} {c0 : Nat} {l0 : List S73} {A1 : Option Addr} {c1 : Nat} {l1 : List Int} {first days : Int} {A2 : Option Addr} {c2 : Nat} {pr : List Int} {x0 x1 : Int} {w : World} (hG : Glob w)
    (hr0 : Kd.C k73 w A0 l0.length l0) (hc0 : l0.length ≤ c0) (hr1 : Kd.C (Kd.int .i64) w A1 l1.length l1) (hc1 : l1.length ≤ c1) (hr2 : Kd.C (Kd.int .i64) w A2 pr.length pr) (hs : ∀ x ∈ l0, x.f0.size ≤ 9223372036854775807) (hx0 : 0 ≤ x0 ∧ x0 ≤ 65535) (hx1 : 0 ≤ x1 ∧ x1 ≤ 65535) :
    Calls Tryz.prog 10 #[.agg #[.slice A0 l0.length c0, .slice A1 l1.length c1, .int .i64 first, .int .i64 days], .slice A2 pr.length c2, .agg #[.int .u16 x0, .int .u16 x1]] w fun e w' => e = .returned (.bool true) ∧ Below w.heap.size w w' := by
  generalize hP : chooseF l0 l1 first days = R
  obtain ⟨ps, best, er⟩ := R
  have HP := Lib.hid hP
  have H0 := Lib.hid hr0
  have H1 := Lib.hid hr1
  have H2 := Lib.hid hr2
  have HS := Lib.hid hs
  have HG := Lib.hid hG
  have hl0 := hr0.2.1
  have hl1 := hr1.2.1
  have hl2 := hr2.2.1
  clear hr0 hr1 hr2 hs hP hG
  go_enter Tryz.func10, Tryz.ntmps10
  go_wp2_with fail
  have HB0 : Hid (Below w.heap.size w ((w.alloc (.cells #[.slice A0 l0.length c0, .slice A1 l1.length c1, .int .i64 first, .int .i64 days] 66)).alloc (.cells #[.int .u16 x0, .int .u16 x1] 87))) := Lib.hid (by (repeat (first | (with_reducible exact Below.refl _ _) | (with_reducible assumption) | (with_reducible exact Hid.out (by assumption)) | (with_reducible refine Below.setCell ?_ (by first | (simp; done) | omega | (simp; omega)) _) | (with_reducible refine Below.alloc ?_ (by first | (simp; done) | omega | (simp; omega)) _) | (with_reducible refine Below.drew ?_) | (with_reducible refine pw_below_drewN ?_ _))))
  refine (choose_walk (Kd.C_below H0.out HB0.out) hc0 (Kd.C_below H1.out HB0.out) hc1 HS.out).mono ?_
  rw [HP.out]
  rintro e w1 ⟨pv, rfl, -, hb1⟩
  have p0 : w1.cell? ⟨w.heap.size, 0, none⟩ = some (.slice A0 l0.length c0) := keep_cell hb1 (by simp [go_sem])
  have p1 : w1.cell? ⟨w.heap.size, 1, none⟩ = some (.slice A1 l1.length c1) := keep_cell hb1 (by simp [go_sem])
  have p2 : w1.cell? ⟨w.heap.size, 2, none⟩ = some (.int .i64 first) := keep_cell hb1 (by simp [go_sem])
  have p3 : w1.cell? ⟨w.heap.size, 3, none⟩ = some (.int .i64 days) := keep_cell hb1 (by simp [go_sem])
  have y0 : w1.cell? ⟨w.heap.size + 1, 0, none⟩ = some (.int .u16 x0) := keep_cell hb1 (by simp [go_sem])
  have y1 : w1.cell? ⟨w.heap.size + 1, 1, none⟩ = some (.int .u16 x1) := keep_cell hb1 (by simp [go_sem])
  have t0 : ∃ cs, w1.heap[w.heap.size]? = some (.cells cs 66 (0, 0)) := ⟨_, (hb1.block _ (by rw [World.size_alloc, World.size_alloc]; omega)).trans ((((Below.refl _ _).alloc (Nat.le_refl _) _).block _ (by rw [World.size_alloc]; omega)).trans (alloc_at w _))⟩
  have t1 : ∃ cs, w1.heap[w.heap.size + 1]? = some (.cells cs 87 (0, 0)) := ⟨_, (hb1.block _ (by rw [World.size_alloc, World.size_alloc]; omega)).trans (by have h := alloc_at (w.alloc (.cells #[.slice A0 l0.length c0, .slice A1 l1.length c1, .int .i64 first, .int .i64 days] 66)) (.cells #[.int .u16 x0, .int .u16 x1] 87); rwa [World.size_alloc] at h)⟩
  have HB1 : Hid (Below w.heap.size w w1) := Lib.hid (after HB0.out hb1)
  clear hb1 HB0
  generalize hN1 : w.heap.size + 1 = N1 at y0 y1 t1 ⊢
  generalize hN0 : w.heap.size = N0 at p0 p1 p2 p3 t0 ⊢
  have T0 := Lib.hid t0
  have T1 := Lib.hid t1
  clear t0 t1
  have HN : Hid (N0 = w.heap.size ∧ N1 = w.heap.size + 1) := Lib.hid (by omega)
  clear hN0 hN1
  by_cases he : er = 0
  · subst he
    by_cases hl : l1.length = 0
    · have hl' : ((l1.length : Int) == 0) = true := by simp [hl]
      go_wp2_with fail
      refine (awake_calls _ (glob_below HG.out HB1.out)).mono ?_
      rintro e w5 ⟨rfl, hb5⟩
      have HB5 : Hid (Below w.heap.size w w5) := Lib.hid (after HB1.out hb5)
      clear hb5 HB1
      go_wp2_with fail
      go_ret
      exact ⟨rfl, HB5.out⟩
    · have hl' : ((l1.length : Int) == 0) = false := beq_eq_false_iff_ne.2 (by omega)
      have m0 : N0 < w1.heap.size := World.block_lt_of_cell? _ _ p0
      have m1 : N1 < w1.heap.size := World.block_lt_of_cell? _ _ y0
      have n0 : N0 ≠ w1.heap.size := by omega
      have n1 : N0 ≠ w1.heap.size + 1 := by omega
      have n2 : N1 ≠ w1.heap.size := by omega
      have n3 : N1 ≠ w1.heap.size + 1 := by omega
      have ok := progOk (l0 := l0) (l1 := l1) (first := first) (days := days) (choose_ok HP.out)
      have h3 := ok.len1
      have HOK := Lib.hid ok
      clear ok
      obtain ⟨i0, hi3, hz0, hz1, hz2⟩ := info_parts info3
      obtain ⟨ba, off, rfl, hbl, hcells⟩ := int_row (Kd.C_below H1.out HB1.out) (by omega)
      have hrow : ((w1.alloc (.cells #[.slice A0 l0.length c0, .slice (some ⟨ba, off, none⟩) l1.length c1, .int .i64 first, .int .i64 days] 66)).alloc (.cells #[] 3)).ownsRow w.heap.size 3 1 (.slice (some ⟨w1.heap.size + 1, 0, none⟩) 0 0) 0 [] :=
        ⟨rfl, .inr ⟨w1.heap.size + 1, 0, #[], rfl, by have := HB1.out.size; omega, by have h := alloc_at (w1.alloc (.cells #[.slice A0 l0.length c0, .slice (some ⟨ba, off, none⟩) l1.length c1, .int .i64 first, .int .i64 days] 66)) (.cells #[] 3); rwa [World.size_alloc] at h, by omega, by decide, rfl, rfl⟩⟩
      have hnews : ∀ j u, (encs (Value.int .i64) l1)[j]? = some u → ((w1.alloc (.cells #[.slice A0 l0.length c0, .slice (some ⟨ba, off, none⟩) l1.length c1, .int .i64 first, .int .i64 days] 66)).alloc (.cells #[] 3)).cell? ((⟨ba, off, none⟩ : Addr).add j) = some u := fun j u hu => by
        have hj : j < l1.length := by have := (List.getElem?_eq_some_iff.1 hu).1; simpa [encs] using this
        rw [int_get _ _ hj] at hu
        rw [Addr.add_lit, ← hu]
        exact (World.cell?_alloc_lt _ _ _ (by rw [World.size_alloc]; show ba < w1.heap.size + 1; omega)).trans ((World.cell?_alloc_lt _ _ _ hbl).trans (hcells j hj))
      have hsz2 : w.heap.size ≤ ((w1.alloc (.cells #[.slice A0 l0.length c0, .slice (some ⟨ba, off, none⟩) l1.length c1, .int .i64 first, .int .i64 days] 66)).alloc (.cells #[] 3)).heap.size := by rw [World.size_alloc, World.size_alloc]; have := HB1.out.size; omega
      have ex : ∀ o v, ((w1.alloc (.cells #[.slice A0 l0.length c0, .slice (some ⟨ba, off, none⟩) l1.length c1, .int .i64 first, .int .i64 days] 66)).cell? ⟨w1.heap.size, o, none⟩ = some v) → (((w1.alloc (.cells #[.slice A0 l0.length c0, .slice (some ⟨ba, off, none⟩) l1.length c1, .int .i64 first, .int .i64 days] 66)).alloc (.cells #[] 3)).cell? ⟨w1.heap.size, o, none⟩ = some v) := fun o v h => (World.cell?_alloc_lt _ _ _ (by rw [World.size_alloc]; show w1.heap.size < w1.heap.size + 1; omega)).trans h
      have e0 := ex 0 (.slice A0 l0.length c0) (by simp [go_sem])
      have e1 := ex 1 (.slice (some ⟨ba, off, none⟩) l1.length c1) (by simp [go_sem])
      have e2 := ex 2 (.int .i64 first) (by simp [go_sem])
      have e3 := ex 3 (.int .i64 days) (by simp [go_sem])
      have ef : (((w1.alloc (.cells #[.slice A0 l0.length c0, .slice (some ⟨ba, off, none⟩) l1.length c1, .int .i64 first, .int .i64 days] 66)).alloc (.cells #[] 3)).frozen? ⟨w1.heap.size, 1, none⟩ = false) := keep_froz ((Below.refl _ _).alloc (Nat.le_refl _) _) (v := false) (u := .slice (some ⟨ba, off, none⟩) l1.length c1) (by simp [go_sem]) (by simp [go_sem])
      have f0 : (((w1.alloc (.cells #[.slice A0 l0.length c0, .slice (some ⟨ba, off, none⟩) l1.length c1, .int .i64 first, .int .i64 days] 66)).alloc (.cells #[] 3)).cell? ⟨N1, 0, none⟩ = some (.int .u16 x0)) := keep_cell ((Below.refl _ _).alloc (Nat.le_refl _) _) (keep_cell ((Below.refl _ _).alloc (Nat.le_refl _) _) y0)
      have f1 : (((w1.alloc (.cells #[.slice A0 l0.length c0, .slice (some ⟨ba, off, none⟩) l1.length c1, .int .i64 first, .int .i64 days] 66)).alloc (.cells #[] 3)).cell? ⟨N1, 1, none⟩ = some (.int .u16 x1)) := keep_cell ((Below.refl _ _).alloc (Nat.le_refl _) _) (keep_cell ((Below.refl _ _).alloc (Nat.le_refl _) _) y1)
      have hrem := rem_nat x0 l1.length hx0.1 (by omega)
      go_wp2_with (at_builtin; go_loud (refine wpList_append_own _ rfl (.tmp 33) (.tmp 35) 41 rfl w.heap.size 3 i0 (.int .i64 0) 1 8 Tryz.underlying41 hi3 hz0 hz1 hz2 rfl (by decide) (.slice (some ⟨w1.heap.size + 1, 0, none⟩) 0 0) 0 [] rfl hrow ⟨ba, off, none⟩ l1.length c1 (encs (Value.int .i64) l1) rfl (by simp [encs]) hnews (ints_oneCell .i64 l1) (by unfold maxLen; omega) (by omega) hsz2 ?_)
                   intro v' w2 hown hgrow _
                   go_loud (obtain ⟨g, cap, rfl⟩ := own_slice hown (by omega))
                   go_loud (have HO2 := Lib.hid (Only.of_grown (S := fun k => k = w1.heap.size + 1) hgrow (fun k e => by simpa [Value.ownBlock] using e.symm)))
                   go_loud (have HOWN := Lib.hid hown)
                   go_loud (have q0 := HO2.out.cell (g := w1.heap.size) (o := 0) (by omega) e0)
                   go_loud (have q1 := HO2.out.cell (g := w1.heap.size) (o := 1) (by omega) e1)
                   go_loud (have q2 := HO2.out.cell (g := w1.heap.size) (o := 2) (by omega) e2)
                   go_loud (have q3 := HO2.out.cell (g := w1.heap.size) (o := 3) (by omega) e3)
                   go_loud (have qf := (HO2.out.froz (g := w1.heap.size) (o := 1) (by omega) (by rw [World.size_alloc, World.size_alloc]; omega)).trans ef)
                   go_loud (have z0 := HO2.out.cell (g := N1) (o := 0) (by omega) f0)
                   go_loud (have z1 := HO2.out.cell (g := N1) (o := 1) (by omega) f1)
                   clear hown hgrow)
      -- the blocks are different ones, by their types
      have tq : ∃ cs, w2.heap[w1.heap.size]? = some (.cells cs 66 (0, 0)) := ⟨_, (HO2.out.block _ (by rw [World.size_alloc, World.size_alloc]; omega) (by omega)).trans ((((Below.refl _ _).alloc (Nat.le_refl _) _).block _ (by rw [World.size_alloc]; omega)).trans (alloc_at w1 _))⟩
      have t02 : ∃ cs, w2.heap[N0]? = some (.cells cs 66 (0, 0)) := by
        obtain ⟨cs, h⟩ := T0.out
        exact ⟨cs, (HO2.out.block _ (by rw [World.size_alloc, World.size_alloc]; omega) (by omega)).trans ((((Below.refl _ _).alloc (Nat.le_refl _) _).block _ (by rw [World.size_alloc]; omega)).trans ((((Below.refl _ _).alloc (Nat.le_refl _) _).block _ m0).trans h))⟩
      have t12 : ∃ cs, w2.heap[N1]? = some (.cells cs 87 (0, 0)) := by
        obtain ⟨cs, h⟩ := T1.out
        exact ⟨cs, (HO2.out.block _ (by rw [World.size_alloc, World.size_alloc]; omega) (by omega)).trans ((((Below.refl _ _).alloc (Nat.le_refl _) _).block _ (by rw [World.size_alloc]; omega)).trans ((((Below.refl _ _).alloc (Nat.le_refl _) _).block _ m1).trans h))⟩
      obtain ⟨cg, tg⟩ := own_typed HOWN.out g rfl
      have dq : w1.heap.size ≠ g := by intro e; obtain ⟨cs, h⟩ := tq; rw [e, tg] at h; cases h
      have d0 : N0 ≠ g := by intro e; obtain ⟨cs, h⟩ := t02; rw [e, tg] at h; cases h
      have d1 : N1 ≠ g := by intro e; obtain ⟨cs, h⟩ := t12; rw [e, tg] at h; cases h
      have hg : w.heap.size ≤ g := own_base HOWN.out g rfl
      have P0 := HO2.out.cell (g := N0) (o := 0) (by omega) (keep_cell ((Below.refl _ _).alloc (Nat.le_refl _) _) (keep_cell ((Below.refl _ _).alloc (Nat.le_refl _) _) p0))
      have P1 := HO2.out.cell (g := N0) (o := 1) (by omega) (keep_cell ((Below.refl _ _).alloc (Nat.le_refl _) _) (keep_cell ((Below.refl _ _).alloc (Nat.le_refl _) _) p1))
      have P2 := HO2.out.cell (g := N0) (o := 2) (by omega) (keep_cell ((Below.refl _ _).alloc (Nat.le_refl _) _) (keep_cell ((Below.refl _ _).alloc (Nat.le_refl _) _) p2))
      have P3 := HO2.out.cell (g := N0) (o := 3) (by omega) (keep_cell ((Below.refl _ _).alloc (Nat.le_refl _) _) (keep_cell ((Below.refl _ _).alloc (Nat.le_refl _) _) p3))
      have HB2 : Below w.heap.size w w2 := by
        have h1 := ((HB1.out.alloc HB1.out.size (.cells #[.slice A0 l0.length c0, .slice (some ⟨ba, off, none⟩) l1.length c1, .int .i64 first, .int .i64 days] 66)).alloc (by rw [World.size_alloc]; have := HB1.out.size; omega) (.cells #[] 3))
        exact h1.trans (HO2.out.below h1.size (fun k hk => by have := HB1.out.size; omega))
      have o3 : Only (fun k => k = w1.heap.size) w2 (w2.setCell ⟨w1.heap.size, 1, none⟩ (.slice (some ⟨g, 0, none⟩) l1.length cap)) := Only.set (S := fun k => k = w1.heap.size) w2 (p := ⟨w1.heap.size, 1, none⟩) rfl _
      have HB3 : Hid (Below w.heap.size w (w2.setCell ⟨w1.heap.size, 1, none⟩ (.slice (some ⟨g, 0, none⟩) l1.length cap))) := Lib.hid (HB2.setCell HB1.out.size _)
      have own3 := own_setCell (p := ⟨w1.heap.size, 1, none⟩) HOWN.out (fun e => dq (by simpa [Value.ownBlock] using e)) (.slice (some ⟨g, 0, none⟩) l1.length cap)
      replace q0 := (World.cell?_setCell_other w2 ⟨w1.heap.size, 1, none⟩ ⟨w1.heap.size, 0, none⟩ (.slice (some ⟨g, 0, none⟩) l1.length cap) (by simp)).trans q0
      replace q1 := World.cell?_setCell_same w2 ⟨w1.heap.size, 1, none⟩ (.slice (some ⟨g, 0, none⟩) l1.length cap) q1
      replace q2 := (World.cell?_setCell_other w2 ⟨w1.heap.size, 1, none⟩ ⟨w1.heap.size, 2, none⟩ (.slice (some ⟨g, 0, none⟩) l1.length cap) (by simp)).trans q2
      replace q3 := (World.cell?_setCell_other w2 ⟨w1.heap.size, 1, none⟩ ⟨w1.heap.size, 3, none⟩ (.slice (some ⟨g, 0, none⟩) l1.length cap) (by simp)).trans q3
      replace P0 := o3.cell (g := N0) (o := 0) n0 P0
      replace P1 := o3.cell (g := N0) (o := 1) n0 P1
      replace P2 := o3.cell (g := N0) (o := 2) n0 P2
      replace P3 := o3.cell (g := N0) (o := 3) n0 P3
      replace z1 := o3.cell (g := N1) (o := 1) n2 z1
      clear e0 e1 e2 e3 ef f0 f1 ex hnews hrow hsz2 p0 p1 p2 p3 y0 y1 tq t02 t12 tg HB2 HO2 HOWN o3 qf z0 hcells T0 T1 n1 n3
      generalize (w2.setCell ⟨w1.heap.size, 1, none⟩ (.slice (some ⟨g, 0, none⟩) l1.length cap)) = w3 at *
      clear w2
      generalize w1.heap.size = Q at *
      have hkk : max x0 0 % (l1.length : Int) = ((x0.toNat % l1.length : Nat) : Int) := by rw [Int.natCast_emod]; congr 1; omega
      have hklt : x0.toNat % l1.length < l1.length := Nat.mod_lt _ (by omega)
      rw [hkk]
      clear hrem hkk
      generalize x0.toNat % l1.length = k at hklt ⊢
      have hki : (k : Int) < (l1.length : Int) := by omega
      have hk0 : (0 : Int) ≤ (k : Int) := by omega
      obtain ⟨qs, more, hQ, hle⟩ := richer_choose HP.out hklt hx1.1
      obtain ⟨ba_, bb_, be_, hB1, hB2, hble⟩ := richer_bound HP.out hklt hx1.1 pr
      have hbd := HOK.out.bud _ (at_mem l1 k hklt)
      have own4 : w3.ownsRow w.heap.size 3 1 (.slice (some ⟨g, 0, none⟩) l1.length cap) l1.length (encs (Value.int .i64) l1) := by simpa using own3
      have ck : w3.cell? ⟨g, k, none⟩ = some (.int .i64 l1[k]!) := by rw [own4.cellAt k (by omega), int_get _ _ hklt]
      have fk : w3.frozen? ⟨g, k, none⟩ = false := own4.frozenAt k
      generalize hbk : l1[k]! = b at *
      have HBK := Lib.hid hbk
      have HQ := Lib.hid hQ
      have HBA := Lib.hid hB1
      have HBB := Lib.hid hB2
      have HOWN := Lib.hid own4
      clear own3 own4 hbk hQ hB1 hB2
      have hwx : IntKind.i64.wrap x1 = x1 := by rw [IntKind.wrap_i64]; omega
      have hwb : IntKind.i64.wrap (b + x1) = b + x1 := by rw [IntKind.wrap_i64]; omega
      have hmin := True.intro
      have HK := fun (u : World) (hu : Below w3.heap.size w3 u) => And.intro (keep_cell hu q1) (And.intro (keep_cell hu ck) (keep_cell hu z1))
      refine wp_region_ext_list 14 (by kernel_rfl) (by kernel_rfl) [fun v _ => v = .pointer (some ⟨Q, 1, none⟩),
        fun v _ => v = .slice (some ⟨g, 0, none⟩) l1.length cap,
        fun v _ => v = .int .i64 (k : Int),
        fun v _ => v = .pointer (some ⟨Q, 1, none⟩),
        fun v _ => v = .slice (some ⟨g, 0, none⟩) l1.length cap,
        fun v _ => v = .int .i64 (k : Int),
        fun v _ => v = .pointer (some ⟨g, k, none⟩),
        fun v _ => v = .int .i64 b,
        fun v _ => v = .pointer (some ⟨N1, 1, none⟩),
        fun v _ => v = .int .u16 x1,
        fun v _ => v = .int .i64 x1,
        fun v _ => v = .int .i64 (b + x1),
        fun v _ => v = .int .i64 (min 10000000 (b + x1)),
        fun v _ => v = .pointer (some ⟨g, k, none⟩)] rfl ?hst7 ?lit7 ?hlit7 ?steps7 ?rest7
      case hst7 => exact ⟨Stable.eq _, Stable.eq _, Stable.eq _, Stable.eq _, Stable.eq _, Stable.eq _, Stable.eq _, Stable.eq _, Stable.eq _, Stable.eq _, Stable.eq _, Stable.eq _, Stable.eq _, Stable.eq _, trivial⟩
      case hlit7 => intro vs; simp [putN, dstOf, Act.put]; exact rfl
      case steps7 =>
        simp only [List.take_succ_cons, List.take_zero]
        refine StepsFrom.cons (fun vs w' hb hav => ?_) ?_
        · -- 0
          (obtain ⟨k0, k1, k2⟩ := HK w' hb; exact ExtOp.val rfl (v := .pointer (some ⟨Q, 1, none⟩)) (by simp [go_sem]) rfl)
        refine StepsFrom.cons (fun vs w' hb hav => ?_) ?_
        · -- 1
          (obtain ⟨k0, k1, k2⟩ := HK w' hb; have h0 : vs 0 = .pointer (some ⟨Q, 1, none⟩) := hav 0 (by kernel_rfl); exact ExtOp.val rfl (v := .slice (some ⟨g, 0, none⟩) l1.length cap) (by simp [go_sem, h0, k0, k1, k2]) rfl)
        refine StepsFrom.cons (fun vs w' hb hav => ?_) ?_
        · -- 2
          (obtain ⟨k0, k1, k2⟩ := HK w' hb; exact ExtOp.val rfl (v := .int .i64 (k : Int)) (by simp [go_sem]) rfl)
        refine StepsFrom.cons (fun vs w' hb hav => ?_) ?_
        · -- 3
          (obtain ⟨k0, k1, k2⟩ := HK w' hb; exact ExtOp.val rfl (v := .pointer (some ⟨Q, 1, none⟩)) (by simp [go_sem]) rfl)
        refine StepsFrom.cons (fun vs w' hb hav => ?_) ?_
        · -- 4
          (obtain ⟨k0, k1, k2⟩ := HK w' hb; have h3 : vs 3 = .pointer (some ⟨Q, 1, none⟩) := hav 3 (by kernel_rfl); exact ExtOp.val rfl (v := .slice (some ⟨g, 0, none⟩) l1.length cap) (by simp [go_sem, h3, k0, k1, k2]) rfl)
        refine StepsFrom.cons (fun vs w' hb hav => ?_) ?_
        · -- 5
          (obtain ⟨k0, k1, k2⟩ := HK w' hb; exact ExtOp.val rfl (v := .int .i64 (k : Int)) (by simp [go_sem]) rfl)
        refine StepsFrom.cons (fun vs w' hb hav => ?_) ?_
        · -- 6
          (obtain ⟨k0, k1, k2⟩ := HK w' hb; have h4 : vs 4 = .slice (some ⟨g, 0, none⟩) l1.length cap := hav 4 (by kernel_rfl); have h5 : vs 5 = .int .i64 (k : Int) := hav 5 (by kernel_rfl); exact ExtOp.val rfl (v := .pointer (some ⟨g, k, none⟩)) (by simp [go_sem, h4, h5, hki, hk0]) rfl)
        refine StepsFrom.cons (fun vs w' hb hav => ?_) ?_
        · -- 7
          (obtain ⟨k0, k1, k2⟩ := HK w' hb; have h6 : vs 6 = .pointer (some ⟨g, k, none⟩) := hav 6 (by kernel_rfl); exact ExtOp.val rfl (v := .int .i64 b) (by simp [go_sem, h6, k0, k1, k2, k1]) rfl)
        refine StepsFrom.cons (fun vs w' hb hav => ?_) ?_
        · -- 8
          (obtain ⟨k0, k1, k2⟩ := HK w' hb; exact ExtOp.val rfl (v := .pointer (some ⟨N1, 1, none⟩)) (by simp [go_sem]) rfl)
        refine StepsFrom.cons (fun vs w' hb hav => ?_) ?_
        · -- 9
          (obtain ⟨k0, k1, k2⟩ := HK w' hb; have h8 : vs 8 = .pointer (some ⟨N1, 1, none⟩) := hav 8 (by kernel_rfl); exact ExtOp.val rfl (v := .int .u16 x1) (by simp [go_sem, h8, k0, k1, k2]) rfl)
        refine StepsFrom.cons (fun vs w' hb hav => ?_) ?_
        · -- 10
          (obtain ⟨k0, k1, k2⟩ := HK w' hb; have h9 : vs 9 = .int .u16 x1 := hav 9 (by kernel_rfl); exact ExtOp.val rfl (v := .int .i64 x1) (by simp [go_sem, h9, hwx]) rfl)
        refine StepsFrom.cons (fun vs w' hb hav => ?_) ?_
        · -- 11
          (obtain ⟨k0, k1, k2⟩ := HK w' hb; have h7 : vs 7 = .int .i64 b := hav 7 (by kernel_rfl); have h10 : vs 10 = .int .i64 x1 := hav 10 (by kernel_rfl); exact ExtOp.val rfl (v := .int .i64 (b + x1)) (by simp [go_sem, h7, h10, hwb]) rfl)
        refine StepsFrom.cons (fun vs w' hb hav => ?_) ?_
        · -- 12
          (obtain ⟨k0, k1, k2⟩ := HK w' hb; have h11 : vs 11 = .int .i64 (b + x1) := hav 11 (by kernel_rfl); exact ExtOp.val rfl (v := .int .i64 (min 10000000 (b + x1))) (by simp [go_sem, h11, hmin]) rfl)
        refine StepsFrom.cons (fun vs w' hb hav => ?_) ?_
        · -- 13
          (obtain ⟨k0, k1, k2⟩ := HK w' hb; have h1 : vs 1 = .slice (some ⟨g, 0, none⟩) l1.length cap := hav 1 (by kernel_rfl); have h2 : vs 2 = .int .i64 (k : Int) := hav 2 (by kernel_rfl); exact ExtOp.val rfl (v := .pointer (some ⟨g, k, none⟩)) (by simp [go_sem, h1, h2, hki, hk0]) rfl)
        exact StepsFrom.nil
      case rest7 =>
        rintro vs w' hb ⟨h0, h1, h2, h3, h4, h5, h6, h7, h8, h9, h10, h11, h12, h13, -⟩
        have dg : g ≠ Q := fun e => dq e.symm
        have own5 := own_move HOWN.out (fun j hj => hb.block j (own_lt HOWN.out j hj))
        have hst := (own_store_of own5 (k : Int) (min 10000000 (b + x1))).1
        rw [Int.toNat_natCast] at hst
        have o4 : Only (fun j => j = g) w' (w'.setCell ⟨g, k, none⟩ (.int .i64 (min 10000000 (b + x1)))) := Only.set (S := fun j => j = g) w' (p := ⟨g, k, none⟩) rfl _
        have hb4 : Below w.heap.size w w' := HB3.out.trans (hb.mono HB3.out.size)
        have HB4 : Hid (Below w.heap.size w (w'.setCell ⟨g, k, none⟩ (.int .i64 (min 10000000 (b + x1))))) := Lib.hid (hb4.setCell hg _)
        have r0 := o4.cell (g := Q) (o := 0) dq (keep_cell hb q0)
        have r1 := o4.cell (g := Q) (o := 1) dq (keep_cell hb q1)
        have r2 := o4.cell (g := Q) (o := 2) dq (keep_cell hb q2)
        have r3 := o4.cell (g := Q) (o := 3) dq (keep_cell hb q3)
        have s0 := o4.cell (g := N0) (o := 0) d0 (keep_cell hb P0)
        have s1 := o4.cell (g := N0) (o := 1) d0 (keep_cell hb P1)
        have s2 := o4.cell (g := N0) (o := 2) d0 (keep_cell hb P2)
        have s3 := o4.cell (g := N0) (o := 3) d0 (keep_cell hb P3)
        have ck' := keep_cell hb ck
        have fk' := keep_froz hb ck fk
        clear q0 q1 q2 q3 P0 P1 P2 P3 z1 ck fk HK hb hb4 o4 own5 HOWN HB3 h0 h1 h2 h3 h4 h5 h6 h7 h8 h9 h10 h11
        simp only [List.drop_succ_cons, List.drop_zero]
        go_wp2_with fail
        generalize (w'.setCell ⟨g, k, none⟩ (.int .i64 (min 10000000 (b + x1)))) = w4 at *
        obtain ⟨hcap, hC4⟩ := own_C hst (List.length_set ..)
        have hch := choose_walk (Kd.C_below H0.out HB4.out) hc0 hC4 hcap HS.out (first := first) (days := days)
        rw [List.length_set] at hch
        refine hch.mono ?_
        rw [HQ.out]
        rintro e w5 ⟨pv2, rfl, -, hb5⟩
        replace r0 := keep_cell hb5 r0
        replace r1 := keep_cell hb5 r1
        replace r2 := keep_cell hb5 r2
        replace r3 := keep_cell hb5 r3
        replace s0 := keep_cell hb5 s0
        replace s1 := keep_cell hb5 s1
        replace s2 := keep_cell hb5 s2
        replace s3 := keep_cell hb5 s3
        have HC5 := Lib.hid (Kd.C_below hC4 hb5)
        have HB5 : Hid (Below w.heap.size w w5) := Lib.hid (after HB4.out hb5)
        have hlt : ¬ more < best := by omega
        have hlt' : decide (more < best) = false := decide_eq_false hlt
        clear hb5 HB4 hC4 hch hst
        go_wp2_with fail
        refine (bound_walk (Kd.C_below H0.out HB5.out) hc0 (Kd.C_below H1.out HB5.out) hc1 (Kd.C_below H2.out HB5.out) HS.out).mono ?_
        rw [HBA.out]
        rintro e w6 ⟨rfl, hb6⟩
        replace r0 := keep_cell hb6 r0
        replace r1 := keep_cell hb6 r1
        replace r2 := keep_cell hb6 r2
        replace r3 := keep_cell hb6 r3
        have HC6 := Lib.hid (Kd.C_below HC5.out hb6)
        have HB6 : Hid (Below w.heap.size w w6) := Lib.hid (after HB5.out hb6)
        clear hb6 HB5 HC5 s0 s1 s2 s3
        go_wp2_with fail
        have hbw := bound_walk (Kd.C_below H0.out HB6.out) hc0 HC6.out hcap (Kd.C_below H2.out HB6.out) HS.out (first := first) (days := days) (c2 := c2)
        rw [List.length_set] at hbw
        refine hbw.mono ?_
        rw [HBB.out]
        rintro e w7 ⟨rfl, hb7⟩
        have HB7 : Hid (Below w.heap.size w w7) := Lib.hid (after HB6.out hb7)
        have e1 : (be_ == be_) = true := by simp
        have e2 : decide (ba_ ≤ bb_) = true := decide_eq_true hble
        clear hb7 HB6 HC6 hbw r0 r1 r2 r3
        go_wp2_with fail
        refine (awake_calls _ (glob_below HG.out HB7.out)).mono ?_
        rintro e w8 ⟨rfl, hb8⟩
        have HB8 : Hid (Below w.heap.size w w8) := Lib.hid (after HB7.out hb8)
        clear hb8 HB7
        go_wp2_with fail
        go_ret
        exact ⟨rfl, HB8.out⟩
  · go_wp2_with fail
    refine (awake_calls _ (glob_below HG.out HB1.out)).mono ?_
    rintro e w5 ⟨rfl, hb5⟩
    have HB5 : Hid (Below w.heap.size w w5) := Lib.hid (after HB1.out hb5)
    clear hb5 HB1
    go_wp2_with fail
    go_ret
    exact ⟨rfl, HB5.out⟩
end Go.Proofs.YtfoaglfnnomdkaaGreatDoor.C
