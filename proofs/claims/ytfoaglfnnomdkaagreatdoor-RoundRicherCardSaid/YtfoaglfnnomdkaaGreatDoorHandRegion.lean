/- A law of my own: a region that draws its order, whose first n operations only read, reckon, call what makes new memory, or make new memory: one proof for all orders.
   'Post i v w': what operation i leaves in its temporary; it must hold on in every world that only has new blocks ('stable'). -/
import Derived.StillTail
import Derived.Below
set_option linter.all false
namespace Go.Proofs.YtfoaglfnnomdkaaGreatDoor.C
open Go Go.RowKit
section
variable {P : Program} {ops : Array Oper} {Q : Exit → Act → World → Prop}

def dstOf (ops : Array Oper) (i : Nat) : Option Tmp := (ops[i]?).bind (·.dst)
def putN (ops : Array Oper) (vs : Nat → Value) (L : Nat → Bool) : Nat → Act → Act
  | 0, a => a
  | k + 1, a => if L k then (putN ops vs L k a).put (dstOf ops k) (vs k) else putN ops vs L k a
def ExtOp (P : Program) (o : Oper) (ops : Array Oper) (a : Act) (w : World) (R : Value → World → Prop) : Prop :=
  if Region.wanted o (yielded ops a.tmps) = true then
    match (execOp a.eval o).run P w with
    | .ok (.value v) w' => Below w.heap.size w w' ∧ R v w'
    | .ok .skip w' => Below w.heap.size w w' ∧ R undef w'
    | .ok (.enter f args) w' => Calls P f args w' fun e w'' => ∃ v, e = .returned v ∧ Below w.heap.size w w'' ∧ R v w''
    | _ => False
  else R undef w
def isSelect (o : Oper) : Bool := match o.op with | .select _ _ => true | _ => false
/-- Operation t comes up behind operation j, by way of others if need be. -/
def depB (md : Region.Mode) (ops : Array Oper) : Nat → Nat → Nat → Bool
  | 0, t, j => Region.waitsFor md ops t j
  | f + 1, t, j => Region.waitsFor md ops t j || (List.range t).any fun m => Region.waitsFor md ops t m && depB md ops f m j
theorem dep_listed {md : Region.Mode} {listed : Array Bool} (hcl : ∀ t o, ops[t]? = some o → listed.getD t false = true → ∀ e ∈ o.after, Region.binds md e = true → listed.getD e.on false = true) :
    ∀ (f t j : Nat), depB md ops f t j = true → (∀ o, ops[t]? = some o → ∀ e ∈ o.after, Region.binds md e = true → listed.getD e.on false = true) → listed.getD j false = true := by
  intro f
  have dir : ∀ t j, Region.waitsFor md ops t j = true → (∀ o, ops[t]? = some o → ∀ e ∈ o.after, Region.binds md e = true → listed.getD e.on false = true) → listed.getD j false = true := by
    intro t j hw ht
    obtain ⟨oj, hoj, e, he, hb, hon⟩ := Region.waitsFor_spec hw
    have := ht oj hoj e he hb
    rwa [hon] at this
  induction f with
  | zero => exact fun t j h ht => dir t j h ht
  | succ f ih =>
    intro t j h ht
    simp only [depB, Bool.or_eq_true, List.any_eq_true, Bool.and_eq_true] at h
    rcases h with h | ⟨m, -, hw, hd⟩
    · exact dir t j h ht
    · exact ih m j hd (fun o ho e he hb => hcl m o ho (dir t m hw ht) e he hb)
def extB (md : Region.Mode) (ops : Array Oper) (n : Nat) : Bool :=
  decide (n ≤ ops.size) &&
  ((List.range ops.size).all fun i => match ops[i]? with | some o => o.after.all fun e => !Region.binds md e || decide (e.on < i) | none => true) &&
  ((List.range n).all fun i => (List.range n).all fun j => i == j || (dstOf ops i).isNone || dstOf ops i != dstOf ops j) &&
  ((List.range n).all fun i => match ops[i]? with
    | some o => !isSelect o && (o.looksAt ops).all fun d => (List.range n).all fun j => dstOf ops j != some d || Region.waitsFor md ops i j
    | none => false) &&
  ((List.range ops.size).all fun t => decide (t < n) || (List.range t).all fun j => if j < n then depB md ops ops.size t j else Region.waitsFor md ops t j)

structure ExtOk (md : Region.Mode) (ops : Array Oper) (n : Nat) : Prop where
  le : n ≤ ops.size
  back : ∀ i o, ops[i]? = some o → ∀ e ∈ o.after, Region.binds md e = true → e.on < i
  apart : ∀ i j d, i < n → j < n → i ≠ j → dstOf ops i = some d → dstOf ops j ≠ some d
  looks : ∀ i o, i < n → ops[i]? = some o → (∀ cs b, o.op ≠ .select cs b) ∧ ∀ d ∈ o.looksAt ops, ∀ j, j < n → dstOf ops j = some d → Region.waitsFor md ops i j = true
  tail : ∀ t j, n ≤ t → t < ops.size → j < t → n ≤ j → Region.waitsFor md ops t j = true
  deps : ∀ t j, n ≤ t → t < ops.size → j < n → depB md ops ops.size t j = true
theorem extOk {md : Region.Mode} {n : Nat} (h : extB md ops n = true) : ExtOk md ops n := by
  simp only [extB, Bool.and_eq_true, decide_eq_true_eq, List.all_eq_true, List.mem_range] at h
  obtain ⟨⟨⟨⟨h1, h2⟩, h3⟩, h4⟩, h5⟩ := h
  refine ⟨h1, fun i o ho e he hb => ?_, fun i j d hi hj hne hd => ?_, fun i o hi ho => ?_, fun t j ht ht' hj hnj => ?_, fun t j ht ht' hj => ?_⟩
  · have hi : i < ops.size := (Array.getElem?_eq_some_iff.1 ho).1
    have := h2 i hi
    simp only [ho, Array.all_eq_true_iff_forall_mem, Bool.or_eq_true, Bool.not_eq_true', decide_eq_true_eq] at this
    rcases this e he with h | h
    · rw [hb] at h; cases h
    · exact h
  · have := h3 i hi j hj
    simp only [hd, Option.isNone_some, Bool.or_false, Bool.or_eq_true, beq_iff_eq, bne_iff_ne] at this
    rcases this with h | h
    · exact absurd h hne
    · exact fun e => h e.symm
  · have := h4 i hi
    simp only [ho, Bool.and_eq_true, Bool.not_eq_true', List.all_eq_true, List.mem_range, Bool.or_eq_true, bne_iff_ne] at this
    refine ⟨fun cs b e => ?_, fun d hd j hj e => ?_⟩
    · have := this.1; simp [isSelect, e] at this
    · rcases this.2 d hd j hj with h | h
      · exact absurd e h
      · exact h
  · have := h5 t ht'
    simp only [Bool.or_eq_true, decide_eq_true_eq, List.all_eq_true, List.mem_range] at this
    rcases this with h | h
    · omega
    · have := h j hj
      rwa [if_neg (by omega)] at this
  · have := h5 t ht'
    simp only [Bool.or_eq_true, decide_eq_true_eq, List.all_eq_true, List.mem_range] at this
    rcases this with h | h
    · omega
    · have := h j (by omega)
      rwa [if_pos hj] at this

theorem putN_size (vs : Nat → Value) (L : Nat → Bool) (a : Act) : ∀ k, (putN ops vs L k a).tmps.size = a.tmps.size
  | 0 => rfl
  | k + 1 => by
    have ih := putN_size vs L a k
    unfold putN
    split
    · cases h : dstOf ops k <;> simp [Act.put, ih]
    · exact ih
theorem putN_at (vs : Nat → Value) (L L' : Nat → Bool) (a : Act) (t : Tmp) : ∀ k, (∀ j, j < k → dstOf ops j = some t → L j = L' j) → (putN ops vs L k a).tmps[t]? = (putN ops vs L' k a).tmps[t]?
  | 0, _ => rfl
  | k + 1, h => by
    have ih := putN_at vs L L' a t k (fun j hj => h j (by omega))
    have s1 := putN_size (ops := ops) vs L a k
    have s2 := putN_size (ops := ops) vs L' a k
    have hput : ∀ A : Act, dstOf ops k ≠ some t → (A.put (dstOf ops k) (vs k)).tmps[t]? = A.tmps[t]? := by
      intro A hne
      cases hd : dstOf ops k with
      | none => rfl
      | some d => simp only [Act.put]; rw [Array.getElem?_setIfInBounds_ne (fun e => hne (by rw [hd, e]))]
    unfold putN
    by_cases he : dstOf ops k = some t
    · rw [h k (by omega) he]
      split
      · rw [he]; simp only [Act.put, Array.getElem?_setIfInBounds_self]; rw [s1, s2]
      · exact ih
    · split <;> split
      · rw [hput _ he, hput _ he]; exact ih
      · rw [hput _ he]; exact ih
      · rw [hput _ he]; exact ih
      · exact ih
theorem putN_congr (vs vs' : Nat → Value) (L L' : Nat → Bool) (a : Act) : ∀ k, (∀ j, j < k → L j = L' j ∧ vs j = vs' j) → putN ops vs L k a = putN ops vs' L' k a
  | 0, _ => rfl
  | k + 1, h => by
    unfold putN
    rw [putN_congr vs vs' L L' a k (fun j hj => h j (by omega)), (h k (by omega)).1, (h k (by omega)).2]
theorem putN_more (vs : Nat → Value) (L : Nat → Bool) (a : Act) (n i : Nat) (v : Value) (hL : L i = false) (hap : ∀ j d, j < n → i ≠ j → dstOf ops i = some d → dstOf ops j ≠ some d) :
    ∀ k, i < k → k ≤ n → putN ops (fun j => if j = i then v else vs j) (fun j => if j = i then true else L j) k a = (putN ops vs L k a).put (dstOf ops i) v := by
  intro k
  induction k with
  | zero => intro h; omega
  | succ k ih =>
    intro hk hn
    rcases Nat.lt_or_ge i k with h | h
    · have e := ih h (by omega)
      show (if (if k = i then true else L k) then (putN ops _ _ k a).put (dstOf ops k) (if k = i then v else vs k) else putN ops _ _ k a) = _
      have e1 : (if k = i then true else L k) = L k := if_neg (by omega)
      have e2 : (if k = i then v else vs k) = vs k := if_neg (by omega)
      rw [e1, e2, e]
      show _ = (if L k then (putN ops vs L k a).put (dstOf ops k) (vs k) else putN ops vs L k a).put (dstOf ops i) v
      split
      · exact Act.put_comm _ v (vs k) (fun d hd => hap k d (by omega) (by omega) hd)
      · rfl
    · obtain rfl : i = k := by omega
      show (if (if i = i then true else L i) then (putN ops _ _ i a).put (dstOf ops i) (if i = i then v else vs i) else putN ops _ _ i a) = (if L i then (putN ops vs L i a).put (dstOf ops i) (vs i) else putN ops vs L i a).put (dstOf ops i) v
      have e1 : (if i = i then true else L i) = true := if_pos rfl
      have e2 : (if i = i then v else vs i) = v := if_pos rfl
      rw [e1, e2, hL]
      simp only [if_true, Bool.false_eq_true, if_false]
      rw [putN_congr _ vs _ L a i (fun j hj => ⟨by rw [if_neg (by omega)], by rw [if_neg (by omega)]⟩)]

theorem same_looks {n : Nat} {md : Region.Mode} (H : ExtOk md ops n) (vs : Nat → Value) (L : Nat → Bool) (a : Act) {i : Nat} {o : Oper} (hi : i < n) (ho : ops[i]? = some o) (hL : ∀ j, j < n → Region.waitsFor md ops i j = true → L j = true) :
    execOp (putN ops vs L n a).eval o = execOp (putN ops vs (fun _ => true) n a).eval o ∧ Region.wanted o (yielded ops (putN ops vs L n a).tmps) = Region.wanted o (yielded ops (putN ops vs (fun _ => true) n a).tmps) := by
  obtain ⟨hs, hl⟩ := H.looks i o hi ho
  have key : ∀ t, t ∈ o.looksAt ops → (putN ops vs L n a).tmps[t]? = (putN ops vs (fun _ => true) n a).tmps[t]? := fun t ht => putN_at vs L _ a t n (fun j hj hd => hL j hj (hl t ht j hj hd))
  refine ⟨execOp_congr o hs fun x hx => ?_, ?_⟩
  · cases x with
    | tmp t =>
      have ht : t ∈ o.looksAt ops := by
        unfold Oper.looksAt
        refine List.mem_append_left _ (List.mem_filterMap.2 ⟨.tmp t, by simpa using hx, rfl⟩)
      simp only [Act.eval, Array.getD_eq_getD_getElem?, key t ht]
    | _ => rfl
  · unfold Region.wanted
    cases hg : o.guard with
    | none => rfl
    | some g =>
      obtain ⟨j, b⟩ := g
      have : yielded ops (putN ops vs L n a).tmps j = yielded ops (putN ops vs (fun _ => true) n a).tmps j := by
        unfold yielded
        cases hd : (ops[j]?).bind (·.dst) with
        | none => rfl
        | some t =>
          have ht : t ∈ o.looksAt ops := by
            unfold Oper.looksAt
            refine List.mem_append_right _ ?_
            rw [hg]
            simp [hd]
          simp only [Option.bind_some]
          rw [key t ht]
      simp only [this]

/-- Behind the head: the operations that are left wait for all that stand before them. -/
theorem tail_any {n : Nat} {md : Region.Mode} (H : ExtOk md ops n) : ∀ (f k : Nat) (listed : Array Bool) (a : Act) (w : World), k + f = ops.size → n ≤ k → listed.size = ops.size → (∀ j, j < k → listed.getD j false = true) → (∀ j, k ≤ j → j < ops.size → listed.getD j true = false) →
    wpList P ops Q (ops.toList.drop k) a w → wpAny P md ops Q f listed a w := by
  intro f
  induction f with
  | zero =>
    intro k listed a w hk hn hs hl hu h
    have hr : Region.ready md ops listed = [] := by
      refine List.eq_nil_iff_forall_not_mem.2 fun j hj => ?_
      obtain ⟨h1, o, ho, _⟩ := mem_ready.1 hj
      have hj' : j < ops.size := (Array.getElem?_eq_some_iff.1 ho).1
      have := hl j (by omega)
      rw [Array.getD_eq_getD_getElem?, Array.getElem?_eq_getElem (by omega)] at h1 this
      simp at h1 this
      rw [h1] at this; cases this
    refine ⟨hr, ?_⟩
    rw [List.drop_of_length_le (by simp; omega)] at h
    exact h
  | succ f ih =>
    intro k listed a w hk hn hs hl hu h
    have hkl : k < ops.size := by omega
    have hok : ops[k]? = some ops[k] := Array.getElem?_eq_getElem hkl
    have hready : k ∈ Region.ready md ops listed := mem_ready.2 ⟨hu k (Nat.le_refl _) hkl, _, hok, fun e he hb => hl _ (H.back k _ hok e he hb)⟩
    refine ⟨fun hr => (by rw [hr] at hready; cases hready), fun i hi => ?_⟩
    obtain ⟨h1, o, ho, hall⟩ := mem_ready.1 hi
    have hi' : i < ops.size := (Array.getElem?_eq_some_iff.1 ho).1
    have hik : i = k := by
      rcases Nat.lt_trichotomy i k with h2 | h2 | h2
      · have := hl i h2
        rw [Array.getD_eq_getD_getElem?, Array.getElem?_eq_getElem (by omega)] at h1 this
        simp at h1 this
        rw [h1] at this; cases this
      · exact h2
      · obtain ⟨oj, hoj, e, he, hb, hon⟩ := Region.waitsFor_spec (H.tail i k (by omega) hi' h2 (by omega))
        rw [ho] at hoj; cases hoj
        have := hall e he hb
        rw [hon] at this
        have h3 := hu k (Nat.le_refl _) hkl
        rw [Array.getD_eq_getD_getElem?, Array.getElem?_eq_getElem (by omega)] at h3 this
        simp at h3 this
        rw [h3] at this; cases this
    subst hik
    have hdrop : ops.toList.drop i = ops[i] :: ops.toList.drop (i + 1) := by
      rw [List.drop_eq_getElem_cons (by simpa using hi')]
      simp
    rw [hdrop] at h
    have hop : wpOp P ops Q i (wpList P ops Q (ops.toList.drop (i + 1))) a w := by
      unfold wpOp
      rw [hok]
      unfold wpList at h
      exact h
    refine wpOp_mono (fun a' w' h' => ih (i + 1) _ a' w' (by omega) (by omega) (by simp [hs]) (fun j hj => ?_) (fun j hj hj' => ?_) h') hop
    · by_cases e : i = j
      · subst e
        rw [Array.getD_eq_getD_getElem?, Array.getElem?_setIfInBounds_self]
        simp [hs, hi']
      · rw [getD_set_ne _ e]; exact hl j (by omega)
    · rw [getD_set_ne _ (by omega)]; exact hu j (by omega) hj'

theorem ExtOp.wpOp {o : Oper} {i : Nat} {a : Act} {w : World} {R : Value → World → Prop} {K : Act → World → Prop} (ho : ops[i]? = some o) (h : ExtOp P o ops a w R)
    (hK : ∀ v w', Below w.heap.size w w' → R v w' → K (a.put o.dst v) w') : Go.wpOp P ops Q i K a w := by
  unfold Go.wpOp
  rw [ho]
  unfold ExtOp at h
  simp only
  split
  · rename_i hw
    rw [if_pos hw] at h
    refine .inl ?_
    unfold Oper.wp
    generalize (execOp a.eval o).run P w = r at h
    cases r with
    | ok n w' =>
      cases n <;> simp only [Oper.upon] at h ⊢
      case value v => exact hK v w' h.1 h.2
      case skip => exact hK undef w' h.1 h.2
      case enter f args =>
        refine h.mono ?_
        rintro e w'' ⟨v, rfl, hb, hr⟩
        exact hK v w'' hb hr
    | halt x w' => exact h.elim
  · rename_i hw
    rw [if_neg hw] at h
    exact hK undef w (Below.refl _ _) h

theorem count_set {l : List Bool} {i : Nat} (h : l[i]? = some false) : (l.set i true).count false + 1 = l.count false := by
  have hi : i < l.length := (List.getElem?_eq_some_iff.1 h).1
  have hv : l[i] = false := (List.getElem?_eq_some_iff.1 h).2
  rw [List.count_set hi, hv]
  have : 0 < l.count false := List.count_pos_iff.2 (hv ▸ List.getElem_mem hi)
  simp
  omega

theorem head_any {n : Nat} {md : Region.Mode} (H : ExtOk md ops n) (a0 : Act) (w0 : World) (Post : Nat → Value → World → Prop)
    (stable : ∀ i v w w', i < n → Post i v w → Below w.heap.size w w' → Post i v w')
    (step : ∀ i o, i < n → ops[i]? = some o → ∀ vs w, Below w0.heap.size w0 w → (∀ j, j < n → Region.waitsFor md ops i j = true → Post j (vs j) w) → ExtOp P o ops (putN ops vs (fun _ => true) n a0) w (Post i))
    (rest : ∀ vs w, Below w0.heap.size w0 w → (∀ j, j < n → Post j (vs j) w) → wpList P ops Q (ops.toList.drop n) (putN ops vs (fun _ => true) n a0) w) :
    ∀ (f : Nat) (listed : Array Bool) (vs : Nat → Value) (w : World), listed.toList.count false = f → listed.size = ops.size → (∀ t, n ≤ t → t < ops.size → listed.getD t true = false) → Below w0.heap.size w0 w →
      (∀ i, i < n → listed.getD i false = true → Post i (vs i) w) →
      (∀ t o, ops[t]? = some o → listed.getD t false = true → ∀ e ∈ o.after, Region.binds md e = true → listed.getD e.on false = true) → wpAny P md ops Q f listed (putN ops vs (fun j => listed.getD j false) n a0) w := by
  intro f
  induction f with
  | zero =>
    intro listed vs w hf hs ht hb hp _
    have hall : ∀ j, j < ops.size → listed.getD j false = true := by
      intro j hj
      have hm : listed[j]'(by omega) ∈ listed.toList := by simp
      cases hv : listed[j]'(by omega) with
      | true => rw [Array.getD_eq_getD_getElem?, Array.getElem?_eq_getElem (by omega), hv]; rfl
      | false => rw [hv] at hm; have := List.count_pos_iff.2 hm; omega
    rw [putN_congr vs vs _ (fun _ => true) a0 n (fun j hj => ⟨hall j (by have := H.le; omega), rfl⟩)]
    have hn : n = ops.size := by
      rcases Nat.lt_or_ge n ops.size with h | h
      · have h1 := ht n (Nat.le_refl _) h
        have h2 := hall n h
        rw [Array.getD_eq_getD_getElem?, Array.getElem?_eq_getElem (by omega)] at h1 h2
        simp at h1 h2
        rw [h1] at h2; cases h2
      · have := H.le; omega
    exact tail_any H 0 n listed _ w (by omega) (Nat.le_refl _) hs (fun j hj => hall j (by omega)) (fun j hj hj' => by omega) (rest vs w hb (fun j hj => hp j hj (hall j (by omega))))
  | succ f ih =>
    intro listed vs w hf hs ht hb hp hcl
    by_cases hall : ∀ j, j < n → listed.getD j false = true
    · rw [putN_congr vs vs _ (fun _ => true) a0 n (fun j hj => ⟨hall j hj, rfl⟩)]
      have hcount : n + (f + 1) = ops.size := by
        have hsplit : listed.toList = List.replicate n true ++ List.replicate (ops.size - n) false := by
          refine List.ext_getElem? fun j => ?_
          have hle := H.le
          rcases Nat.lt_or_ge j n with h | h
          · have := hall j h
            rw [Array.getD_eq_getD_getElem?, Array.getElem?_eq_getElem (by omega)] at this
            simp at this
            rw [List.getElem?_append_left (by simpa using h), Array.getElem?_toList, Array.getElem?_eq_getElem (by omega), this, List.getElem?_replicate, if_pos h]
          · rcases Nat.lt_or_ge j ops.size with h2 | h2
            · have := ht j h h2
              rw [Array.getD_eq_getD_getElem?, Array.getElem?_eq_getElem (by omega)] at this
              simp at this
              rw [List.getElem?_append_right (by simpa using h)]
              simp only [List.length_replicate, Array.getElem?_toList]
              rw [Array.getElem?_eq_getElem (by omega), this, List.getElem?_replicate, if_pos (by omega)]
            · rw [List.getElem?_eq_none (by simp [hs]; omega), List.getElem?_eq_none (by simp; omega)]
        rw [hsplit, List.count_append, List.count_replicate, List.count_replicate] at hf
        simp at hf
        have := H.le
        omega
      exact tail_any H (f + 1) n listed _ w hcount (Nat.le_refl _) hs hall ht (rest vs w hb (fun j hj => hp j hj (hall j hj)))
    · -- the least one that has not come up is ready
      obtain ⟨m, hm1, hm2, hm3⟩ : ∃ m, m < n ∧ listed.getD m false ≠ true ∧ ∀ j, j < m → listed.getD j false = true := by
        have hex : ∃ j, j < n ∧ listed.getD j false ≠ true := by
          refine Classical.byContradiction fun hne => hall fun j hj => ?_
          refine Classical.byContradiction fun h2 => hne ⟨j, hj, h2⟩
        clear hall
        obtain ⟨j, hj⟩ := hex
        induction j using Nat.strongRecOn with
        | ind j ihj =>
          by_cases hlt : ∃ k, k < j ∧ listed.getD k false ≠ true
          · obtain ⟨k, hk, hk2⟩ := hlt
            exact ihj k hk ⟨by omega, hk2⟩
          · exact ⟨j, hj.1, hj.2, fun k hk => Classical.byContradiction fun h2 => hlt ⟨k, hk, h2⟩⟩
      have hle := H.le
      have unl : ∀ j, j < ops.size → listed.getD j false ≠ true → listed.getD j true = false := by
        intro j hj h
        rw [Array.getD_eq_getD_getElem?, Array.getElem?_eq_getElem (by omega)] at h ⊢
        simpa using h
      have hready : m ∈ Region.ready md ops listed := mem_ready.2 ⟨unl m (by omega) hm2, ops[m]'(by omega), Array.getElem?_eq_getElem (by omega), fun e he hb' => hm3 _ (H.back m _ (Array.getElem?_eq_getElem (by omega)) e he hb')⟩
      refine ⟨fun hr => (by rw [hr] at hready; cases hready), fun i hi => ?_⟩
      obtain ⟨h1, o, ho, hwait⟩ := mem_ready.1 hi
      have hi' : i < ops.size := (Array.getElem?_eq_some_iff.1 ho).1
      have hin : i < n := by
        refine Nat.lt_of_not_le fun h => ?_
        exact hm2 (dep_listed hcl _ i m (H.deps i m h hi' hm1) (fun o' ho' e he hb' => by rw [ho] at ho'; cases ho'; exact hwait e he hb'))
      have hLi : listed.getD i false = false := by
        rw [Array.getD_eq_getD_getElem?, Array.getElem?_eq_getElem (by omega)] at h1 ⊢
        simpa using h1
      have hwaits : ∀ j, j < n → Region.waitsFor md ops i j = true → listed.getD j false = true := by
        intro j hj hw
        obtain ⟨oj, hoj, e, he, hb', hon⟩ := Region.waitsFor_spec hw
        rw [ho] at hoj; cases hoj
        have := hwait e he hb'
        rwa [hon] at this
      have hst := step i o hin ho vs w hb (fun j hj hw => hp j hj (hwaits j hj hw))
      obtain ⟨s1, s2⟩ := same_looks H vs (fun j => listed.getD j false) a0 hin ho hwaits
      have hst' : ExtOp P o ops (putN ops vs (fun j => listed.getD j false) n a0) w (Post i) := by
        unfold ExtOp at hst ⊢
        rw [s1, s2]
        exact hst
      refine hst'.wpOp ho fun v w' hb' hR => ?_
      have hput : (putN ops vs (fun j => listed.getD j false) n a0).put o.dst v = putN ops (fun j => if j = i then v else vs j) (fun j => (listed.setIfInBounds i true).getD j false) n a0 := by
        have hd : dstOf ops i = o.dst := by unfold dstOf; rw [ho]; rfl
        rw [← hd, ← putN_more vs (fun j => listed.getD j false) a0 n i v hLi (fun j d hj hne hd' => H.apart i j d hin hj hne hd') n hin (Nat.le_refl _)]
        refine putN_congr _ _ _ _ a0 n (fun j hj => ⟨?_, rfl⟩)
        by_cases e : j = i
        · subst e
          rw [if_pos rfl, Array.getD_eq_getD_getElem?, Array.getElem?_setIfInBounds_self]
          simp [hs, hi']
        · rw [if_neg e, getD_set_ne _ (fun e' => e e'.symm)]
      rw [hput]
      refine ih (listed.setIfInBounds i true) _ w' ?_ (by simp [hs]) (fun t ht1 ht2 => by rw [getD_set_ne _ (by omega)]; exact ht t ht1 ht2) (hb.trans (hb'.mono hb.size)) (fun j hj hl => ?_) (fun t ot hot hl e he hbe => ?_)
      · have hc : listed.toList[i]? = some false := by
          rw [Array.getElem?_toList, Array.getElem?_eq_getElem (by omega)]
          rw [Array.getD_eq_getD_getElem?, Array.getElem?_eq_getElem (by omega)] at hLi
          simpa using hLi
        have := count_set hc
        rw [Array.toList_setIfInBounds]
        omega
      · by_cases e : j = i
        · subst e; simp only [if_true]; exact hR
        · simp only [if_neg e]
          rw [getD_set_ne _ (fun e' => e e'.symm)] at hl
          exact stable j _ w w' hj (hp j hj hl) hb'
      · have up : ∀ j, listed.getD j false = true → (listed.setIfInBounds i true).getD j false = true := by
          intro j hj
          by_cases e : j = i
          · subst e; rw [Array.getD_eq_getD_getElem?, Array.getElem?_setIfInBounds_self]; simp [hs, hi']
          · rw [getD_set_ne _ (fun e' => e e'.symm)]; exact hj
        by_cases e' : t = i
        · subst e'
          rw [ho] at hot; cases hot
          exact up _ (hwait e he hbe)
        · rw [getD_set_ne _ (fun e'' => e' e''.symm)] at hl
          exact up _ (hcl t ot hot hl e he hbe)

theorem wp_region_ext {id n : Nat} (hm : P.follows .mixedOrders = true) (hB : extB .any ops n = true) (a0 : Act) (w0 : World) (Post : Nat → Value → World → Prop)
    (stable : ∀ i v w w', i < n → Post i v w → Below w.heap.size w w' → Post i v w')
    (step : ∀ i o, i < n → ops[i]? = some o → ∀ vs w, Below w0.heap.size w0 w → (∀ j, j < n → Region.waitsFor .any ops i j = true → Post j (vs j) w) → ExtOp P o ops (putN ops vs (fun _ => true) n a0) w (Post i))
    (rest : ∀ vs w, Below w0.heap.size w0 w → (∀ j, j < n → Post j (vs j) w) → wpList P ops Q (ops.toList.drop n) (putN ops vs (fun _ => true) n a0) w) :
    (Code.region id ops true).wp P Q a0 w0 := by
  have H := extOk hB
  refine wp_region_any hm ?_
  have h := head_any (Q := Q) H a0 w0 Post stable step rest ops.size (Array.replicate ops.size false) (fun _ => undef) { w0 with drawn := w0.drawn + 1 } (by simp) (by simp)
    (fun t _ ht => by simp [Array.getD_eq_getD_getElem?, ht]) ⟨rfl, rfl, rfl, Nat.le_refl _, fun _ _ => rfl⟩ (fun i hi hl => by simp [Array.getD_eq_getD_getElem?, Array.getElem?_replicate] at hl; split at hl <;> simp at hl)
    (fun i o ho hl => by simp [Array.getD_eq_getD_getElem?, Array.getElem?_replicate] at hl; split at hl <;> simp at hl)
  rw [putN_congr _ _ _ (fun _ => false) a0 n (fun j hj => ⟨by simp [Array.getD_eq_getD_getElem?, Array.getElem?_replicate]; split <;> rfl, rfl⟩)] at h
  have h0 : ∀ k, putN ops (fun _ => undef) (fun _ => false) k a0 = a0 := by
    intro k
    induction k with
    | zero => rfl
    | succ k ih => unfold putN; simpa using ih
  rw [h0] at h
  exact h
theorem ExtOp.val {o : Oper} {a : Act} {w : World} {R : Value → World → Prop} {v : Value} (hg : o.guard = none) (h : (execOp a.eval o).run P w = .ok (.value v) w) (hR : R v w) : ExtOp P o ops a w R := by
  unfold ExtOp
  rw [if_pos (by simp [Region.wanted, hg]), h]
  exact ⟨Below.refl _ _, hR⟩
theorem ExtOp.make {o : Oper} {a : Act} {w w' : World} {R : Value → World → Prop} {v : Value} (hg : o.guard = none) (h : (execOp a.eval o).run P w = .ok (.value v) w') (hb : Below w.heap.size w w') (hR : R v w') : ExtOp P o ops a w R := by
  unfold ExtOp
  rw [if_pos (by simp [Region.wanted, hg]), h]
  exact ⟨hb, hR⟩
theorem ExtOp.call {o : Oper} {a : Act} {w : World} {R : Value → World → Prop} {f : FuncId} {args : Array Value} (hg : o.guard = none) (h : (execOp a.eval o).run P w = .ok (.enter f args) w)
    (hc : Calls P f args w fun e w'' => ∃ v, e = .returned v ∧ Below w.heap.size w w'' ∧ R v w'') : ExtOp P o ops a w R := by
  unfold ExtOp
  rw [if_pos (by simp [Region.wanted, hg]), h]
  exact hc
/-! ### the same, told by lists -/
def Stable (p : Value → World → Prop) : Prop := ∀ v w w', p v w → Below w.heap.size w w' → p v w'
theorem Stable.eq (t : Value) : Stable fun v _ => v = t := fun _ _ _ h _ => h
theorem Stable.any : Stable fun _ _ => True := fun _ _ _ h _ => h
def StableAll : List (Value → World → Prop) → Prop
  | [] => True
  | p :: ps => Stable p ∧ StableAll ps
def postAt (ps : List (Value → World → Prop)) (i : Nat) : Value → World → Prop := ps.getD i fun _ _ => True
def AllFrom (vs : Nat → Value) (w : World) : Nat → List (Value → World → Prop) → Prop
  | _, [] => True
  | k, p :: ps => p (vs k) w ∧ AllFrom vs w (k + 1) ps
theorem StableAll.at_ : ∀ {ps : List (Value → World → Prop)}, StableAll ps → ∀ i, Stable (postAt ps i)
  | [], _, _ => by unfold postAt; simp; exact Stable.any
  | p :: ps, h, 0 => h.1
  | p :: ps, h, i + 1 => by have := StableAll.at_ h.2 i; unfold postAt at *; simpa using this
theorem allFrom_of {vs : Nat → Value} {w : World} : ∀ (ps : List (Value → World → Prop)) (k : Nat), (∀ j, j < ps.length → postAt ps j (vs (k + j)) w) → AllFrom vs w k ps
  | [], _, _ => trivial
  | p :: ps, k, h => ⟨h 0 (by simp), allFrom_of ps (k + 1) fun j hj => by have := h (j + 1) (by simp; omega); unfold postAt at *; rw [show k + 1 + j = k + (j + 1) by omega]; simpa using this⟩
def StepsFrom (P : Program) (ops : Array Oper) (lit : (Nat → Value) → Act) (w0 : World) (ps : List (Value → World → Prop)) : Nat → List Oper → Prop
  | _, [] => True
  | k, o :: rest => (∀ vs w, Below w0.heap.size w0 w → (∀ j, Region.waitsFor .any ops k j = true → postAt ps j (vs j) w) → ExtOp P o ops (lit vs) w (postAt ps k)) ∧ StepsFrom P ops lit w0 ps (k + 1) rest
theorem StepsFrom.nil {lit : (Nat → Value) → Act} {w0 : World} {ps : List (Value → World → Prop)} {k : Nat} : StepsFrom P ops lit w0 ps k [] := trivial
theorem StepsFrom.cons {lit : (Nat → Value) → Act} {w0 : World} {ps : List (Value → World → Prop)} {k : Nat} {o : Oper} {rest : List Oper}
    (h : ∀ vs w, Below w0.heap.size w0 w → (∀ j, Region.waitsFor .any ops k j = true → postAt ps j (vs j) w) → ExtOp P o ops (lit vs) w (postAt ps k)) (hs : StepsFrom P ops lit w0 ps (k + 1) rest) : StepsFrom P ops lit w0 ps k (o :: rest) := ⟨h, hs⟩
theorem StepsFrom.at_ {lit : (Nat → Value) → Act} {w0 : World} {ps : List (Value → World → Prop)} : ∀ (l : List Oper) (k : Nat), StepsFrom P ops lit w0 ps k l → ∀ i o, l[i]? = some o →
    ∀ vs w, Below w0.heap.size w0 w → (∀ j, Region.waitsFor .any ops (k + i) j = true → postAt ps j (vs j) w) → ExtOp P o ops (lit vs) w (postAt ps (k + i))
  | [], _, _, _, _, h => by simp at h
  | o :: rest, k, h, 0, o', ho => by
    simp only [List.getElem?_cons_zero, Option.some.injEq] at ho
    subst ho
    exact h.1
  | o :: rest, k, h, i + 1, o', ho => by
    have := StepsFrom.at_ rest (k + 1) h.2 i o' (by simpa using ho)
    rw [show k + (i + 1) = k + 1 + i by omega]
    exact this
theorem wp_region_ext_list {id : Nat} {l : List Oper} {a0 : Act} {w0 : World} (n : Nat) (hm : P.follows .mixedOrders = true) (hB : extB .any l.toArray n = true) (ps : List (Value → World → Prop)) (hn : ps.length = n) (hst : StableAll ps)
    (lit : (Nat → Value) → Act) (hlit : ∀ vs, putN l.toArray vs (fun _ => true) n a0 = lit vs) (steps : StepsFrom P l.toArray lit w0 ps 0 (l.take n))
    (rest : ∀ vs w, Below w0.heap.size w0 w → AllFrom vs w 0 ps → wpList P l.toArray Q (l.drop n) (lit vs) w) : (Code.region id l.toArray true).wp P Q a0 w0 := by
  have H := extOk hB
  refine wp_region_ext hm hB a0 w0 (postAt ps) (fun i v w w' _ hp hb => hst.at_ i v w w' hp hb) (fun i o hi ho vs w hb hav => ?_) (fun vs w hb hall => ?_)
  · rw [hlit]
    have ho' : (l.take n)[i]? = some o := by
      rw [List.getElem?_take_of_lt hi]
      simpa using ho
    have := StepsFrom.at_ (l.take n) 0 steps i o ho' vs w hb
    rw [Nat.zero_add] at this
    refine this fun j hj => ?_
    obtain ⟨oj, hoj, e, he, hb', hon⟩ := Region.waitsFor_spec hj
    have hlt := H.back i oj hoj e he hb'
    exact hav j (by omega) hj
  · rw [hlit]
    refine rest vs w hb (allFrom_of ps 0 fun j hj => ?_)
    rw [Nat.zero_add]
    exact hall j (by omega)
end
end Go.Proofs.YtfoaglfnnomdkaaGreatDoor.C
