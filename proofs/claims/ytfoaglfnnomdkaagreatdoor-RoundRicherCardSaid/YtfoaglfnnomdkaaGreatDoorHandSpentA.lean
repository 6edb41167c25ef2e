/- The plain law of RoundBounds: the search finds the best programme; no programme is worth more than the bound. -/
import Derived.Test.YtfoaglfnnomdkaaGreatDoorHandBound
import Derived.Test.YtfoaglfnnomdkaaGreatDoorHandChoose
import Derived.Test.YtfoaglfnnomdkaaGreatDoorHandProgOk
set_option linter.all false
namespace Go.Proofs.YtfoaglfnnomdkaaGreatDoor.C
open Go.RowKit Go.Proofs.YtfoaglfnnomdkaaGreatDoorW.PrintWords Go.Proofs.YtfoaglfnnomdkaaGreatDoorW.PrintMore

/-- What a programme's periods are worth; the budgets are spent as they come. -/
def spV (l0 : List S73) (l1 : List Int) (first days : Int) : Nat → List Int → List Int → Int → Option Int
  | _, [], _, so => some so
  | k, p :: ps, left, so =>
    if p = -1 then spV l0 l1 first days (k + 1) ps left so
    else if p < 0 ∨ (left.length : Int) ≤ p then none
    else if left[p.toNat]! < l0[k]!.f1 then none
    else spV l0 l1 first days (k + 1) ps (left.set p.toNat (left[p.toNat]! - l0[k]!.f1)) (wrap64 (so + benV l0 l1 first days l0[k]! p))
/-! ### the loop over the periods -/
theorem chLoop_mono {rec : List Int → Int → List Int × Int → List Int × Int} {cost : Int} {left : List Int} (hr : ∀ l i b, b.2 ≤ (rec l i b).2) : ∀ (f i : Nat) (b : List Int × Int), b.2 ≤ (chLoop rec cost left f i b).2 := by
  intro f
  induction f with
  | zero => intro i b; exact Int.le_refl _
  | succ f ih =>
    intro i b
    rw [chLoop]
    split
    · exact ih _ _
    · exact Int.le_trans (hr _ _ b) (ih _ _)
theorem chLoop_covers {rec : List Int → Int → List Int × Int → List Int × Int} {cost : Int} {left : List Int} (hr : ∀ l i b, b.2 ≤ (rec l i b).2) {q : Nat} {v : Int} (hq : ¬ left[q]! < cost) (hv : ∀ b, v ≤ (rec (left.set q (left[q]! - cost)) (q : Int) b).2) :
    ∀ (f i : Nat) (b : List Int × Int), i ≤ q → q < i + f → v ≤ (chLoop rec cost left f i b).2 := by
  intro f
  induction f with
  | zero => intro i b h1 h2; omega
  | succ f ih =>
    intro i b h1 h2
    rw [chLoop]
    by_cases e : i = q
    · subst e
      rw [if_neg hq]
      exact Int.le_trans (hv b) (chLoop_mono hr _ _ _)
    · split
      · exact ih _ _ (by omega) (by omega)
      · exact ih _ _ (by omega) (by omega)
theorem chLoop_found {rec : List Int → Int → List Int × Int → List Int × Int} {cost : Int} {left : List Int} {A : List Int → Int → List Int × Int → Prop} (hr : ∀ l i b, rec l i b = b ∨ A l i (rec l i b)) :
    ∀ (f i : Nat) (b : List Int × Int), chLoop rec cost left f i b = b ∨ ∃ q : Nat, i ≤ q ∧ q < i + f ∧ ¬ left[q]! < cost ∧ A (left.set q (left[q]! - cost)) (q : Int) (chLoop rec cost left f i b) := by
  intro f
  induction f with
  | zero => intro i b; exact .inl rfl
  | succ f ih =>
    intro i b
    rw [chLoop]
    split
    · rcases ih (i + 1) b with h | ⟨q, h1, h2, h3, h4⟩
      · exact .inl h
      · exact .inr ⟨q, by omega, by omega, h3, h4⟩
    · rename_i hn
      rcases ih (i + 1) (rec (left.set i (left[i]! - cost)) (i : Int) b) with h | ⟨q, h1, h2, h3, h4⟩
      · rw [h]
        rcases hr (left.set i (left[i]! - cost)) (i : Int) b with h' | h'
        · exact .inl h'
        · exact .inr ⟨i, by omega, by omega, hn, h'⟩
      · exact .inr ⟨q, by omega, by omega, h3, h4⟩
section
variable {l0 : List S73} {l1 : List Int} {first days : Int}
theorem ch_mono : ∀ (d k : Nat) (left now : List Int) (so : Int) (b : List Int × Int), b.2 ≤ (chSearch l0 l1 first days d k left now so b).2 := by
  intro d
  induction d with
  | zero =>
    intro k left now so b
    rw [chSearch]
    split
    · simp only; omega
    · exact Int.le_refl _
  | succ d ih =>
    intro k left now so b
    rw [chSearch]
    exact Int.le_trans (ih _ _ _ _ b) (chLoop_mono (fun l i b => ih _ _ _ _ b) _ _ _)
/-- No programme that begins so is worth more than what the search yields. -/
theorem ch_covers : ∀ (d k : Nat) (left now : List Int) (so : Int) (b : List Int × Int) (ps : List Int) (v : Int), ps.length = d → left.length = l1.length → spV l0 l1 first days k ps left so = some v → v ≤ (chSearch l0 l1 first days d k left now so b).2 := by
  intro d
  induction d with
  | zero =>
    intro k left now so b ps v hp _ hv
    obtain rfl := List.eq_nil_of_length_eq_zero hp
    obtain rfl : so = v := by simpa [spV] using hv
    rw [chSearch]
    split
    · exact Int.le_refl _
    · omega
  | succ d ih =>
    intro k left now so b ps v hp hl hv
    obtain ⟨p, ps, rfl⟩ : ∃ p qs, ps = p :: qs := by cases ps with | nil => simp at hp | cons p qs => exact ⟨p, qs, rfl⟩
    have hp' : ps.length = d := by simpa using hp
    rw [spV] at hv
    rw [chSearch]
    by_cases h1 : p = -1
    · rw [if_pos h1] at hv
      exact Int.le_trans (ih (k + 1) left (now ++ [-1]) so b ps v hp' hl hv) (chLoop_mono (fun l i b => ch_mono _ _ _ _ _ b) _ _ _)
    · rw [if_neg h1] at hv
      by_cases h2 : p < 0 ∨ (left.length : Int) ≤ p
      · rw [if_pos h2] at hv; cases hv
      · rw [if_neg h2] at hv
        by_cases h3 : left[p.toNat]! < l0[k]!.f1
        · rw [if_pos h3] at hv; cases hv
        · rw [if_neg h3] at hv
          obtain ⟨q, rfl⟩ : ∃ q : Nat, p = (q : Int) := ⟨p.toNat, by omega⟩
          rw [Int.toNat_natCast] at hv h3
          exact chLoop_covers (rec := fun left' i b' => chSearch l0 l1 first days d (k + 1) left' (now ++ [i]) (wrap64 (so + benV l0 l1 first days l0[k]! i)) b') (fun l i b => ch_mono _ _ _ _ _ b) h3 (fun b => ih (k + 1) _ _ _ b ps v hp' (by rw [List.length_set]; exact hl) hv) l1.length 0 _ (Nat.zero_le _) (by omega)
/-- What the search yields is the best so far, or a programme's periods and worth. -/
theorem ch_found : ∀ (d k : Nat) (left now : List Int) (so : Int) (b : List Int × Int), left.length = l1.length →
    chSearch l0 l1 first days d k left now so b = b ∨ ∃ ps, ps.length = d ∧ (chSearch l0 l1 first days d k left now so b).1 = now ++ ps ∧ spV l0 l1 first days k ps left so = some (chSearch l0 l1 first days d k left now so b).2 := by
  intro d
  induction d with
  | zero =>
    intro k left now so b _
    rw [chSearch]
    split
    · exact .inr ⟨[], rfl, by simp, rfl⟩
    · exact .inl rfl
  | succ d ih =>
    intro k left now so b hl
    rw [chSearch]
    rcases chLoop_found (cost := l0[k]!.f1) (left := left) (A := fun l i r => l.length = l1.length → ∃ ps, ps.length = d ∧ r.1 = (now ++ [i]) ++ ps ∧ spV l0 l1 first days (k + 1) ps l (wrap64 (so + benV l0 l1 first days l0[k]! i)) = some r.2)
      (rec := fun left' i b' => chSearch l0 l1 first days d (k + 1) left' (now ++ [i]) (wrap64 (so + benV l0 l1 first days l0[k]! i)) b')
      (fun l i b' => by
        by_cases e : l.length = l1.length
        · rcases ih (k + 1) l (now ++ [i]) (wrap64 (so + benV l0 l1 first days l0[k]! i)) b' e with h | h
          · exact .inl h
          · exact .inr fun _ => h
        · exact .inr fun h => absurd h e) l1.length 0 (chSearch l0 l1 first days d (k + 1) left (now ++ [-1]) so b) with h | ⟨q, _, h2, h3, h4⟩
    · rw [h]
      rcases ih (k + 1) left (now ++ [-1]) so b hl with h' | ⟨ps, a1, a2, a3⟩
      · exact .inl h'
      · exact .inr ⟨-1 :: ps, by simp [a1], by rw [a2]; simp, by rw [spV, if_pos rfl]; exact a3⟩
    · obtain ⟨ps, a1, a2, a3⟩ := h4 (by rw [List.length_set]; exact hl)
      refine .inr ⟨(q : Int) :: ps, by simp [a1], by rw [a2]; simp, ?_⟩
      rw [spV, if_neg (by omega), if_neg (by omega), Int.toNat_natCast, if_neg h3]
      exact a3
/-- All assets left out. -/
theorem spV_none : ∀ (d k : Nat) (left : List Int) (so : Int), spV l0 l1 first days k (List.replicate d (-1)) left so = some so := by
  intro d
  induction d with
  | zero => intro k left so; rfl
  | succ d ih => intro k left so; rw [List.replicate_succ, spV, if_pos rfl]; exact ih _ _ _
/-- The search from the start. -/
theorem ch_top : (chSearch l0 l1 first days l0.length 0 l1 [] 0 ([], -1)).1.length = l0.length ∧
    spV l0 l1 first days 0 (chSearch l0 l1 first days l0.length 0 l1 [] 0 ([], -1)).1 l1 0 = some (chSearch l0 l1 first days l0.length 0 l1 [] 0 ([], -1)).2 := by
  have h0 := ch_covers (l0 := l0) (l1 := l1) (first := first) (days := days) l0.length 0 l1 [] 0 ([], -1) (List.replicate l0.length (-1)) 0 (by simp) rfl (spV_none _ _ _ _)
  rcases ch_found (l0 := l0) (l1 := l1) (first := first) (days := days) l0.length 0 l1 [] 0 ([], -1) rfl with h | ⟨ps, a1, a2, a3⟩
  · rw [h] at h0
    simp at h0
  · rw [List.nil_append] at a2
    rw [a2]
    exact ⟨a1, a3⟩
/-! ### no programme is worth more than the bound -/
/-- The prices of the budgets. -/
def dot : List Int → List Int → Int
  | a :: xs, b :: ys => a * b + dot xs ys
  | _, _ => 0
theorem dot_set : ∀ (xs ys : List Int) (i : Nat) (v : Int), i < xs.length → i < ys.length → dot xs (ys.set i v) = dot xs ys + xs[i]! * (v - ys[i]!)
  | [], _, _, _, h, _ => by simp at h
  | _ :: _, [], _, _, _, h => by simp at h
  | a :: xs, b :: ys, 0, v, _, _ => by
    simp only [List.set_cons_zero, dot]
    have e : (a :: xs)[0]! * (v - (b :: ys)[0]!) = a * v - a * b := by rw [show (a :: xs)[0]! = a from rfl, show (b :: ys)[0]! = b from rfl, Int.mul_sub]
    rw [e]
    omega
  | a :: xs, b :: ys, i + 1, v, h, h' => by
    have ih := dot_set xs ys i v (by simpa using h) (by simpa using h')
    simp only [List.set_cons_succ, dot]
    rw [ih]
    have e : (a :: xs)[i + 1]! = xs[i]! := by simp
    have e' : (b :: ys)[i + 1]! = ys[i]! := by simp
    rw [e, e']
    omega
theorem dot_nonneg : ∀ (xs ys : List Int), (∀ x ∈ xs, 0 ≤ x) → (∀ x ∈ ys, 0 ≤ x) → 0 ≤ dot xs ys
  | [], _, _, _ => by simp [dot]
  | _ :: _, [], _, _ => by simp [dot]
  | a :: xs, b :: ys, h, h' => by
    have ih := dot_nonneg xs ys (fun x hx => h x (by simp [hx])) (fun x hx => h' x (by simp [hx]))
    have := Int.mul_nonneg (h a (by simp)) (h' b (by simp))
    simp only [dot]
    omega
theorem at_mem (l : List Int) (i : Nat) (h : i < l.length) : l[i]! ∈ l := by
  rw [List.getElem!_eq_getElem?_getD, List.getElem?_eq_getElem h]
  exact List.getElem_mem h
theorem bndSum_eq {pr bu : List Int} (hp : ∀ x ∈ pr, 0 ≤ x ∧ x ≤ 1000000) (hb : ∀ x ∈ bu, 0 ≤ x ∧ x ≤ 10000000) (hl : pr.length = bu.length) (h3 : pr.length ≤ 3) :
    ∀ (f i : Nat) (acc : Int), i + f = pr.length → 0 ≤ acc → acc ≤ 10000000000000 * i → bndSum pr bu f i acc = acc + dot (pr.drop i) (bu.drop i) ∧ 0 ≤ bndSum pr bu f i acc ∧ bndSum pr bu f i acc ≤ 30000000000000 := by
  intro f
  induction f with
  | zero =>
    intro i acc hi h0 h1
    rw [List.drop_of_length_le (by omega), bndSum]
    refine ⟨by simp [dot], h0, by omega⟩
  | succ f ih =>
    intro i acc hi h0 h1
    have hip : i < pr.length := by omega
    have hib : i < bu.length := by omega
    have m := mul_bd (hp _ (at_mem pr i hip)).1 (hp _ (at_mem pr i hip)).2 (hb _ (at_mem bu i hib)).1 (hb _ (at_mem bu i hib)).2
    rw [bndSum, wrap_id (x := pr[i]! * bu[i]!) (by omega) (by omega)]
    have e1 : pr.drop i = pr[i]! :: pr.drop (i + 1) := by rw [List.getElem!_eq_getElem?_getD, List.getElem?_eq_getElem hip]; exact List.drop_eq_getElem_cons hip
    have e2 : bu.drop i = bu[i]! :: bu.drop (i + 1) := by rw [List.getElem!_eq_getElem?_getD, List.getElem?_eq_getElem hib]; exact List.drop_eq_getElem_cons hib
    rw [e1, e2, dot]
    generalize pr[i]! * bu[i]! = z at m
    rw [wrap_id (x := acc + z) (by omega) (by omega)]
    obtain ⟨a1, a2, a3⟩ := ih (i + 1) (acc + z) (by omega) (by omega) (by omega)
    refine ⟨by omega, a2, a3⟩
theorem benV_bd (h : ProgOk l0 l1 first days) {x : S73} (hx : AssetOk first x) {p : Int} (p0 : 0 ≤ p) (p1 : p ≤ (l1.length : Int) - 1) : 0 ≤ benV l0 l1 first days x p ∧ benV l0 l1 first days x p ≤ 5760000000 := by
  obtain ⟨e, -, -, -, -, -, -, -, -, b0, b1⟩ := benV_eq h hx p0 p1
  rw [e]
  generalize ((l1.length : Int) - p) * days * (first + p * days - x.f4) * (x.f2 * x.f3) = z at b0 b1
  rw [Int.tdiv_eq_ediv_of_nonneg b0]
  omega
theorem bndMost_le (h : ProgOk l0 l1 first days) {x : S73} (hx : AssetOk first x) {pr : List Int} (hl : pr.length = l1.length) (hp : ∀ y ∈ pr, 0 ≤ y ∧ y ≤ 1000000) :
    ∀ (f i : Nat) (acc : Int), i + f = pr.length → 0 ≤ acc → acc ≤ 5760000000000 → acc ≤ bndMost l0 l1 first days x pr f i acc ∧ bndMost l0 l1 first days x pr f i acc ≤ 5760000000000 ∧ ∀ q : Nat, i ≤ q → q < pr.length → 1000 * benV l0 l1 first days x (q : Int) - pr[q]! * x.f1 ≤ bndMost l0 l1 first days x pr f i acc := by
  intro f
  induction f with
  | zero => intro i acc hi h0 h1; rw [bndMost]; exact ⟨Int.le_refl _, h1, fun q a b => by omega⟩
  | succ f ih =>
    intro i acc hi h0 h1
    have hip : i < pr.length := by omega
    have hb := benV_bd h hx (p := (i : Int)) (by omega) (by omega)
    have m := mul_bd (hp _ (at_mem pr i hip)).1 (hp _ (at_mem pr i hip)).2 hx.c0 hx.c1
    rw [bndMost]
    have e : wrap64 (wrap64 (1000 * benV l0 l1 first days x (i : Int)) - wrap64 (pr[i]! * x.f1)) = 1000 * benV l0 l1 first days x (i : Int) - pr[i]! * x.f1 := by
      rw [wrap_id (x := 1000 * benV l0 l1 first days x (i : Int)) (by omega) (by omega), wrap_id (x := pr[i]! * x.f1) (by omega) (by omega), wrap_id (by omega) (by omega)]
    rw [e]
    obtain ⟨a1, a2, a3⟩ := ih (i + 1) (max acc (1000 * benV l0 l1 first days x (i : Int) - pr[i]! * x.f1)) (by omega) (by omega) (by omega)
    refine ⟨by omega, a2, fun q hq1 hq2 => ?_⟩
    by_cases e : q = i
    · subst e; omega
    · exact a3 q (by omega) hq2
/-- The most that the assets from i on are worth. -/
def mostSum (l0 : List S73) (l1 : List Int) (first days : Int) (pr : List Int) : Nat → Nat → Int
  | 0, _ => 0
  | f + 1, i => bndMost l0 l1 first days l0[i]! pr pr.length 0 0 + mostSum l0 l1 first days pr f (i + 1)
theorem bndAll_eq (h : ProgOk l0 l1 first days) {pr : List Int} (hl : pr.length = l1.length) (hp : ∀ y ∈ pr, 0 ≤ y ∧ y ≤ 1000000) :
    ∀ (f i : Nat) (acc : Int), i + f = l0.length → 0 ≤ acc → acc ≤ 30000000000000 + 5760000000000 * i → bndAll l0 l1 first days pr f i acc = acc + mostSum l0 l1 first days pr f i ∧ 0 ≤ bndAll l0 l1 first days pr f i acc ∧ bndAll l0 l1 first days pr f i acc ≤ 70000000000000 := by
  intro f
  have h6 := h.len0
  induction f with
  | zero => intro i acc hi h0 h1; rw [bndAll, mostSum]; exact ⟨by omega, h0, by omega⟩
  | succ f ih =>
    intro i acc hi h0 h1
    obtain ⟨m1, m2, -⟩ := bndMost_le h (h.asset (j := i) (by omega)) hl hp pr.length 0 0 (by omega) (by omega) (by omega)
    rw [bndAll, mostSum]
    generalize bndMost l0 l1 first days l0[i]! pr pr.length 0 0 = z at m1 m2
    rw [wrap_id (x := acc + z) (by omega) (by omega)]
    obtain ⟨a1, a2, a3⟩ := ih (i + 1) (acc + z) (by omega) (by omega) (by omega)
    exact ⟨by omega, a2, a3⟩
theorem set_mem {l : List Int} {P : Int → Prop} (h : ∀ x ∈ l, P x) {i : Nat} {v : Int} (hv : P v) : ∀ x ∈ l.set i v, P x := fun x hx => by
  rcases List.mem_or_eq_of_mem_set hx with h' | h'
  · exact h x h'
  · exact h' ▸ hv
/-- Weak duality. -/
theorem spV_bound (h : ProgOk l0 l1 first days) {pr : List Int} (hl : pr.length = l1.length) (hp : ∀ y ∈ pr, 0 ≤ y ∧ y ≤ 1000000) :
    ∀ (ps : List Int) (k : Nat) (left : List Int) (so v : Int), k + ps.length = l0.length → left.length = l1.length → (∀ x ∈ left, 0 ≤ x) → 0 ≤ so → so ≤ 5760000000 * k → spV l0 l1 first days k ps left so = some v →
      1000 * v ≤ 1000 * so + mostSum l0 l1 first days pr ps.length k + dot pr left := by
  intro ps
  have h6 := h.len0
  induction ps with
  | nil =>
    intro k left so v hk hll h0 s0 s1 hv
    obtain rfl : so = v := by simpa [spV] using hv
    have := dot_nonneg pr left (fun x hx => (hp x hx).1) h0
    simp only [List.length_nil, mostSum]
    omega
  | cons p ps ih =>
    intro k left so v hk hll h0 s0 s1 hv
    have hk' : k + 1 + ps.length = l0.length := by simp only [List.length_cons] at hk; omega
    obtain ⟨m1, m2, m3⟩ := bndMost_le h (h.asset (j := k) (by omega)) hl hp pr.length 0 0 (by omega) (by omega) (by omega)
    have hx := h.asset (j := k) (by omega)
    rw [spV] at hv
    rw [List.length_cons, mostSum]
    split at hv
    · have := ih (k + 1) left so v hk' hll h0 s0 (by omega) hv
      omega
    · split at hv
      · cases hv
      · rename_i h2
        split at hv
        · cases hv
        · rename_i h3
          obtain ⟨q, rfl⟩ : ∃ q : Nat, p = (q : Int) := ⟨p.toNat, by omega⟩
          rw [Int.toNat_natCast] at hv h3
          have hq : q < pr.length := by omega
          have hb := benV_bd h hx (p := (q : Int)) (by omega) (by omega)
          rw [wrap_id (x := so + benV l0 l1 first days l0[k]! (q : Int)) (by omega) (by omega)] at hv
          have hc := hx.c0
          have ihq := ih (k + 1) _ _ v hk' (by rw [List.length_set]; exact hll) (set_mem h0 (by omega)) (by omega) (by omega) hv
          rw [dot_set pr left q _ hq (by omega)] at ihq
          have e : pr[q]! * (left[q]! - l0[k]!.f1 - left[q]!) = -(pr[q]! * l0[k]!.f1) := by
            rw [show left[q]! - l0[k]!.f1 - left[q]! = -l0[k]!.f1 by omega, Int.mul_neg]
          rw [e] at ihq
          have m4 := m3 q (Nat.zero_le _) hq
          omega
theorem bound_ge (h : (progF l0 l1 first days).2 = 0) {pr : List Int} (h0 : (boundF l0 l1 first days pr).2 = 0) : (chSearch l0 l1 first days l0.length 0 l1 [] 0 ([], -1)).2 ≤ (boundF l0 l1 first days pr).1 := by
  have ok := progOk h
  unfold boundF at h0 ⊢
  rw [if_pos h] at h0 ⊢
  split at h0
  · rename_i hl
    rw [if_pos hl]
    split at h0
    · cases h0
    · rename_i ha
      rw [if_neg ha]
      have hp : ∀ y ∈ pr, 0 ≤ y ∧ y ≤ 1000000 := fun y hy => by
        have ha' : ¬ ∃ n ∈ pr, outB n 0 1000000 = true := by simpa using ha
        refine outB_false ?_
        cases hc : outB y 0 1000000 with
        | false => rfl
        | true => exact absurd ⟨y, hy, hc⟩ ha'
      obtain ⟨s1, s2, s3⟩ := bndSum_eq hp ok.bud hl (by have := ok.len1; omega) pr.length 0 0 (by omega) (by omega) (by omega)
      obtain ⟨a1, a2, a3⟩ := bndAll_eq ok hl hp l0.length 0 (bndSum pr l1 pr.length 0 0) (by omega) s2 (by omega)
      obtain ⟨t1, t2⟩ := ch_top (l0 := l0) (l1 := l1) (first := first) (days := days)
      have hw := spV_bound ok hl hp _ 0 l1 0 _ (by rw [t1]; omega) rfl (fun x hx => (ok.bud x hx).1) (by omega) (by omega) t2
      rw [t1] at hw
      simp only [List.drop_zero] at s1
      generalize bndAll l0 l1 first days pr l0.length 0 (bndSum pr l1 pr.length 0 0) = z at *
      show _ ≤ wrap64 (Int.tdiv z 1000)
      rw [Int.tdiv_eq_ediv_of_nonneg a2, wrap_id (by omega) (by omega)]
      omega
  · cases h0
end
end Go.Proofs.YtfoaglfnnomdkaaGreatDoor.C
