/- Arguments of the claim, opened into the words of the print: whatever kind is built of integers, bools, strings, slices and structs. -/
import Derived.Test.YtfoaglfnnomdkaaGreatDoorCx0
import Derived.Deep.Slices
import Derived.Deep.Fields
import Derived.ChangeSame
set_option linter.all false
namespace Go.Proofs.YtfoaglfnnomdkaaGreatDoor.C
open Go.RowKit Go.ChangeShapes Go.WideShapes Go.Deep Go.Proofs.YtfoaglfnnomdkaaGreatDoorW.PrintWords Go.Proofs.YtfoaglfnnomdkaaGreatDoorW.PrintMore

/-- Whatever reads as type t is of kind d. -/
def Opens {α : Type} (P : Program) (d : Kd α) (t : TypeId) (ok : α → Prop) : Prop :=
  P.cellsOf t = d.sz ∧ ∀ {H : Type} (enc : TypeId × Value → H) (w : World) (base : Nat) (spare : Nat → Bool) (held : Bool) (n : Nat) (cs : List Value) (x : DataW H × List MemPlace),
    DataW.trod enc P w base spare held n t cs = some x → ∃ a, d.K w a cs ∧ ok a
/-- The fields of a struct, one cell each. -/
def OpensL {α : Type} (P : Program) (d : Kd α) (ts : List TypeId) (ok : α → Prop) : Prop :=
  ts.length = d.sz ∧ ∀ {H : Type} (enc : TypeId × Value → H) (w : World) (base : Nat) (spare : Nat → Bool) (held : Bool) (n : Nat) (vs : List Value), vs.length = ts.length →
    (∀ (i : Nat) (v : Value) (t : TypeId), vs[i]? = some v → ts[i]? = some t → ∃ x, DataW.trod enc P w base spare held n t [v] = some x) → ∃ a, d.K w a vs ∧ ok a
variable {P : Program}
theorem opens_int {k : IntKind} {t : TypeId} (ht : P.underlying t = some (.int k)) (hc : P.cellsOf t = 1) : Opens P (Kd.int k) t (fun n => (Lit.int k n).wf = true) :=
  ⟨hc, fun enc w base spare held n cs x h => by
    obtain ⟨m, rfl, -, hw⟩ := DataW.trod_int ht h
    exact ⟨m, rfl, hw⟩⟩
theorem opens_string {t : TypeId} (ht : P.underlying t = some .string) (hc : P.cellsOf t = 1) : Opens P Kd.string t (fun s => s.size ≤ maxLen) :=
  ⟨hc, fun enc w base spare held n cs x h => by
    obtain ⟨m, rfl, -, hw⟩ := DataW.trod_string ht h
    exact ⟨m, rfl, hw⟩⟩
theorem list_of {α : Type} {p : Nat → α → Prop} : ∀ n, (∀ i, i < n → ∃ a, p i a) → ∃ xs : List α, xs.length = n ∧ ∀ i a, xs[i]? = some a → p i a := by
  intro n
  induction n with
  | zero => exact fun _ => ⟨[], rfl, fun i a h => by simp at h⟩
  | succ n ih =>
    intro h
    obtain ⟨xs, hl, hx⟩ := ih (fun i hi => h i (by omega))
    obtain ⟨a, ha⟩ := h n (by omega)
    refine ⟨xs ++ [a], by simp [hl], fun i b hb => ?_⟩
    rw [List.getElem?_append] at hb
    split at hb
    · exact hx i b hb
    · rename_i hlt
      have : i = n := by
        rcases Nat.lt_or_ge (i - xs.length) 1 with h1 | h1
        · omega
        · rw [List.getElem?_eq_none (by simpa using h1)] at hb; cases hb
      subst this
      rw [hl] at hb
      simp at hb
      exact hb ▸ ha
theorem opens_slice {α : Type} {d : Kd α} {t e : TypeId} {ok : α → Prop} (ht : P.underlying t = some (.slice e)) (hc : P.cellsOf t = 1) (h : Opens P d e ok) :
    Opens P (Kd.slice e d) t (fun xs => xs.length ≤ maxLen ∧ ∀ x ∈ xs, ok x) :=
  ⟨hc, fun enc w base spare held n cs x hx => by
    rcases open_slice ht hx with ⟨rfl, -⟩ | ⟨a, len, cap, m, n', D, Pl, rfl, hb, hl, hm, hmm, -, hi⟩
    · exact ⟨[], ⟨none, 0, rfl, Nat.le_refl _, Kd.C_nil d w⟩, Nat.zero_le _, fun x hx => by cases hx⟩
    · have hlm : len ≤ m := by rw [hmm]; split <;> omega
      obtain ⟨xs, hxl, hxs⟩ := list_of (p := fun i b => (∃ c, c.length = d.sz ∧ d.K w b c ∧ ∀ j u, c[j]? = some u → w.cell? (a.add (i * d.sz + j)) = some u) ∧ ok b) len (fun i hil => by
        obtain ⟨cs', h1, h2⟩ := hi i (by omega)
        obtain ⟨b, hk, hok⟩ := h.2 enc w base spare held n' cs' _ h2
        obtain ⟨_, hcl, hat⟩ := World.cells?_some h1
        rw [h.1] at hcl hat
        refine ⟨b, ⟨cs', hcl, hk, fun j u hu => ?_⟩, hok⟩
        have hj : j < d.sz := by
          have := (List.getElem?_eq_some_iff.1 hu).1
          omega
        rw [← Go.Deep.add_add, hat j hj]; exact hu)
      have hC : d.C w (some a) len xs := ⟨hxl, by unfold maxLen at hm; omega, fun _ => ⟨a, rfl, fun j p hp => (hxs j p hp).1⟩⟩
      refine ⟨xs, ⟨some a, cap, by rw [hxl], by omega, by rw [hxl]; exact hC⟩, by omega, fun x hx => ?_⟩
      · obtain ⟨i, hi⟩ := List.getElem?_of_mem hx
        exact (hxs i x hi).2⟩
theorem opensL_iso {α β : Type} {d : Kd α} {ts : List TypeId} {ok : α → Prop} (f : β → α) (g : α → β) (hfg : ∀ x, f (g x) = x) (h : OpensL P d ts ok) : OpensL P (Kd.iso d f) ts (fun b => ok (f b)) :=
  ⟨h.1, fun enc w base spare held n cs hl hx => by
    obtain ⟨a, hk, hok⟩ := h.2 enc w base spare held n cs hl hx
    exact ⟨g a, by show d.K w (f (g a)) cs; rw [hfg]; exact hk, by show ok (f (g a)); rw [hfg]; exact hok⟩⟩
theorem opensL_one {α : Type} {d : Kd α} {t : TypeId} {ok : α → Prop} (h1 : d.sz = 1) (h : Opens P d t ok) : OpensL P d [t] ok :=
  ⟨h1.symm, fun enc w base spare held n vs hl hx => by
    match vs, hl with
    | [v], _ =>
      obtain ⟨x, hx⟩ := hx 0 v t rfl rfl
      exact h.2 enc w base spare held n [v] x hx⟩
theorem opensL_cons {α β : Type} {d : Kd α} {d' : Kd β} {t : TypeId} {ts : List TypeId} {ok : α → Prop} {ok' : β → Prop} (h1 : d.sz = 1) (h : Opens P d t ok) (h' : OpensL P d' ts ok') :
    OpensL P (Kd.pair d d') (t :: ts) (fun x => ok x.1 ∧ ok' x.2) :=
  ⟨by show ts.length + 1 = d.sz + d'.sz; rw [h1, h'.1]; omega, fun enc w base spare held n vs hl hx => by
    match vs, hl with
    | v :: vs, hl =>
      obtain ⟨x, hx0⟩ := hx 0 v t rfl rfl
      obtain ⟨a, hk, hok⟩ := h.2 enc w base spare held n [v] x hx0
      obtain ⟨b, hk', hok'⟩ := h'.2 enc w base spare held n vs (by simpa using hl) (fun i u t' hu ht' => hx (i + 1) u t' (by simpa using hu) (by simpa using ht'))
      exact ⟨(a, b), ⟨[v], vs, rfl, hk, hk'⟩, hok, hok'⟩⟩
theorem opens_struct {α : Type} {d : Kd α} {t : TypeId} {fs : Array Field} {ok : α → Prop} (ht : P.underlying t = some (.struct fs)) (hone : oneCellFields P fs = true) (hC : P.cellsOf t = fs.size) (h : OpensL P d (fs.toList.map (·.type)) ok) :
    Opens P d t ok :=
  ⟨by rw [hC, ← h.1]; simp, fun enc w base spare held n cs x hx => by
    obtain ⟨ys, n', rfl, -, hlen, hyl, hf⟩ := DataW.trod_struct ht hx
    refine h.2 enc w base spare held n' cs (by rw [hlen, hC]; simp) (fun i v t' hv ht' => ?_)
    rw [List.getElem?_map] at ht'
    obtain ⟨f, hfi, rfl⟩ := Option.map_eq_some_iff.1 ht'
    have hfi' : fs[i]? = some f := by simpa using hfi
    obtain ⟨ho, hk⟩ := hone_of hone i f hfi'
    have h1 := hf i f hfi'
    rw [ho, hk] at h1
    have hil : i < cs.length := (List.getElem?_eq_some_iff.1 hv).1
    have hone' : (cs.drop i).take 1 = [v] := by
      rw [List.drop_eq_getElem_cons hil]
      have := (List.getElem?_eq_some_iff.1 hv).2
      rw [this]
      rfl
    rw [hone'] at h1
    have hiy : i < ys.length := by rw [hyl]; exact (Array.getElem?_eq_some_iff.1 hfi').1
    exact ⟨_, h1.trans (List.getElem?_eq_getElem hiy)⟩⟩
end Go.Proofs.YtfoaglfnnomdkaaGreatDoor.C
