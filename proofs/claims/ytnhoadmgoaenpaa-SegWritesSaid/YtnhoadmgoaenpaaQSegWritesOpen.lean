/- Arguments laid open: what a reading tells of the cells, by the kinds of values (the words' Kd); no condition. -/
import Derived.Test.YtnhoadmgoaenpaaWWords
import Derived.Deep.Slices
import Derived.ChangeSame
import Derived.SizedLaws
namespace Go.Proofs.Ytnhoadmgoaenpaa.Open
open Go Go.ChangeShapes Go.WideShapes Go.Deep Go.RowKit Go.Proofs.YtnhoadmgoaenpaaW.PrintWords
set_option linter.unusedVariables false
set_option linter.unusedSimpArgs false

def Opens {α : Type} (P : Program) (d : Kd α) (t : TypeId) (ok : α → Prop) : Prop :=
  ∀ (H : Type) (enc : TypeId × Value → H) (w : World) (base : Nat) (spare : Nat → Bool) (held : Bool) (fuel : Nat) (cs : List Value) (x : DataW H × List MemPlace),
    DataW.trod enc P w base spare held fuel t cs = some x → (∀ m ∈ x.1.weights P t, m ≤ reachBytes) → ∃ a, d.K w a cs ∧ ok a
def OpensFs {α : Type} (P : Program) (d : Kd α) (fs : List Field) (o : Nat) (ok : α → Prop) : Prop :=
  ∀ (H : Type) (enc : TypeId × Value → H) (w : World) (base : Nat) (spare : Nat → Bool) (held : Bool) (n : Nat) (cs : List Value) (ys : List (DataW H × List MemPlace)),
    ys.length = fs.length → (∀ (i : Nat) (f : Field), fs[i]? = some f → DataW.trod enc P w base spare held n f.type ((cs.drop f.offset).take (P.cellsOf f.type)) = ys[i]?) →
    (∀ m ∈ DataW.weightsEach P (fs.map (·.type)) (ys.map (·.1)), m ≤ reachBytes) → ∃ a, d.K w a ((cs.drop o).take d.sz) ∧ ok a
theorem list_of {α : Type} {p : Nat → α → Prop} : ∀ (n : Nat), (∀ i, i < n → ∃ a, p i a) → ∃ xs : List α, xs.length = n ∧ ∀ (i : Nat) (h : i < xs.length), p i xs[i] := by
  intro n
  induction n with
  | zero => intro _; exact ⟨[], rfl, fun i h => absurd h (by simp)⟩
  | succ n ih =>
    intro h
    obtain ⟨xs, hl, hx⟩ := ih (fun i hi => h i (by omega))
    obtain ⟨a, ha⟩ := h n (by omega)
    refine ⟨xs ++ [a], by simp [hl], fun i hi => ?_⟩
    by_cases e : i < xs.length
    · rw [List.getElem_append_left e]
      exact hx i e
    · have e2 : i = xs.length := by simp at hi; omega
      subst e2
      rw [List.getElem_append_right (Nat.le_refl _)]
      simp only [Nat.sub_self, List.getElem_cons_zero]
      rw [hl]
      exact ha
section
variable {P : Program} {t : TypeId}
theorem opens_int {k : IntKind} (ht : P.underlying t = some (.int k)) : Opens P (Kd.int k) t (fun n => (Lit.int k n).wf = true) := by
  intro H enc w base spare held fuel cs x h hm
  obtain ⟨n, rfl, rfl, hw⟩ := DataW.trod_int ht h
  exact ⟨n, rfl, hw⟩
theorem opens_bool (ht : P.underlying t = some .bool) : Opens P Kd.bool t (fun _ => True) := by
  intro H enc w base spare held fuel cs x h hm
  obtain ⟨n, rfl, rfl⟩ := DataW.trod_bool ht h
  exact ⟨n, rfl, trivial⟩
theorem opens_string (ht : P.underlying t = some .string) : Opens P Kd.string t (fun s => s.size ≤ reachBytes) := by
  intro H enc w base spare held fuel cs x h hm
  obtain ⟨s, rfl, rfl, hw⟩ := DataW.trod_string ht h
  refine ⟨s, rfl, ?_⟩
  have := hm s.data.toList.length (by simp [DataW.weights])
  simpa using this
theorem opens_iso {α β : Type} {d : Kd α} {f : β → α} {ok : α → Prop} (g : α → β) (hg : ∀ a, f (g a) = a) (h : Opens P d t ok) : Opens P (Kd.iso d f) t (fun b => ok (f b)) := by
  intro H enc w base spare held fuel cs x hx hm
  obtain ⟨a, ha, hk⟩ := h H enc w base spare held fuel cs x hx hm
  refine ⟨g a, ?_, ?_⟩
  · show d.K w (f (g a)) cs
    rw [hg]
    exact ha
  · show ok (f (g a))
    rw [hg]
    exact hk
theorem fs_last {α : Type} {d : Kd α} {f : Field} {ok : α → Prop} (hs : P.cellsOf f.type = d.sz) (h : Opens P d f.type ok) : OpensFs P d [f] f.offset ok := by
  intro H enc w base spare held n cs ys hl hy hm
  match ys, hl with
  | [y], _ =>
    have h0 := hy 0 f rfl
    rw [hs] at h0
    exact h H enc w base spare held n _ y h0 (fun m hmm => hm m (by simp [DataW.weightsEach, hmm]))
theorem fs_cons {α β : Type} {d : Kd α} {d' : Kd β} {f : Field} {fs : List Field} {ok : α → Prop} {ok' : β → Prop} (hs : P.cellsOf f.type = d.sz) (h : Opens P d f.type ok) (h' : OpensFs P d' fs (f.offset + d.sz) ok') :
    OpensFs P (Kd.pair d d') (f :: fs) f.offset (fun x => ok x.1 ∧ ok' x.2) := by
  intro H enc w base spare held n cs ys hl hy hm
  match ys, hl with
  | y :: ys, hl =>
    have h0 := hy 0 f rfl
    rw [hs] at h0
    obtain ⟨a, ha, hka⟩ := h H enc w base spare held n _ y h0 (fun m hmm => hm m (by simp [DataW.weightsEach, hmm]))
    obtain ⟨b, hb, hkb⟩ := h' H enc w base spare held n cs ys (by simpa using hl) (fun i g hg => hy (i + 1) g hg) (fun m hmm => hm m (by simp [DataW.weightsEach, hmm]))
    refine ⟨(a, b), ⟨_, _, ?_, ha, hb⟩, hka, hkb⟩
    show (cs.drop f.offset).take (d.sz + d'.sz) = _
    rw [List.take_add, List.drop_drop]
theorem opens_struct {α : Type} {d : Kd α} {fs : Array Field} {ok : α → Prop} (ht : P.underlying t = some (.struct fs)) (hs : P.cellsOf t = d.sz) (h : OpensFs P d fs.toList 0 ok) : Opens P d t ok := by
  intro H enc w base spare held fuel cs x hx hm
  obtain ⟨ys, n, rfl, rfl, hl, hyl, hy⟩ := DataW.trod_struct ht hx
  obtain ⟨a, ha, hk⟩ := h H enc w base spare held n cs ys (by simpa using hyl) (fun i f hf => hy i f (by simpa using hf)) (fun m hmm => hm m (by simpa [DataW.weights, ht] using hmm))
  refine ⟨a, ?_, hk⟩
  rw [List.drop_zero, ← hs, ← hl, List.take_length] at ha
  exact ha
theorem opens_slice {α : Type} {d : Kd α} {e : TypeId} {ok : α → Prop} {b : Nat} (ht : P.underlying t = some (.slice e)) (hs : P.cellsOf e = d.sz) (hb : P.bytesOf e = b) (h : Opens P d e ok) :
    Opens P (Kd.slice e d) t (fun xs => (∀ x ∈ xs, ok x) ∧ xs.length ≤ maxLen ∧ xs.length * b ≤ reachBytes) := by
  intro H enc w base spare held fuel cs x hx hm
  rcases DataW.trod_slice ht hx with ⟨rfl, rfl⟩ | ⟨ad, len, cap, elems, rest, n, rfl, rfl, rfl, hba, hl, hcm, hlen, hel, _, _⟩
  · refine ⟨[], ⟨none, 0, rfl, Nat.le_refl _, rfl, by simp, fun h0 => absurd h0 (by simp)⟩, by simp, by simp, by simp⟩
  have hw : ∀ m ∈ DataW.weightsAll P e (elems.map (·.1)), m ≤ reachBytes := fun m hmm => hm m (by simp [DataW.weights, ht, hmm])
  have hsz := hm ((elems.length + rest.length) * P.bytesOf e) (by simp [DataW.weights, ht])
  have each : ∀ i, i < len → ∃ a, ∃ c, w.cells? base (ad.add (i * d.sz)) d.sz = some c ∧ d.K w a c ∧ ok a := by
    intro i hi
    have hi' : i < elems.length := by omega
    have h1 := hel i hi
    rw [List.getElem?_eq_getElem hi', hs] at h1
    obtain ⟨c, h2, h3⟩ := Option.bind_eq_some_iff.1 h1
    obtain ⟨a, ha, hk⟩ := h H enc w base spare held n c elems[i] h3 (fun m hmm => hw m (by
      have : ∀ (L : List (DataW H × List MemPlace)) (j : Nat) (hj : j < L.length), m ∈ (L[j]).1.weights P e → m ∈ DataW.weightsAll P e (L.map (·.1)) := by
        intro L
        induction L with
        | nil => intro j hj; simp at hj
        | cons y L ih =>
          intro j hj hm2
          cases j with
          | zero => simp only [List.map_cons, DataW.weightsAll, List.mem_append]; exact .inl hm2
          | succ j => simp only [List.map_cons, DataW.weightsAll, List.mem_append]; exact .inr (ih j (by simpa using hj) hm2)
      exact this elems i hi' hmm))
    exact ⟨a, c, h2, ha, hk⟩
  obtain ⟨xs, hxl, hxs⟩ := list_of len each
  refine ⟨xs, ⟨some ad, cap, by rw [hxl], by omega, ?_⟩, ?_, ?_, ?_⟩
  · refine ⟨rfl, by have : maxLen = 9223372036854775807 := by decide
                    omega, fun _ => ⟨ad, rfl, fun j p hj => ?_⟩⟩
    obtain ⟨hj1, rfl⟩ := List.getElem?_eq_some_iff.1 hj
    obtain ⟨c, h1, h2, h3⟩ := hxs j hj1
    obtain ⟨_, hcl, hcell⟩ := World.cells?_some h1
    refine ⟨c, hcl, h2, fun i u hu => ?_⟩
    obtain ⟨hi, rfl⟩ := List.getElem?_eq_some_iff.1 hu
    have := hcell i (by omega)
    rw [Go.Deep.add_add] at this
    simpa [List.getElem?_eq_getElem hi] using this
  · intro x hx
    obtain ⟨j, hj, rfl⟩ := List.getElem_of_mem hx
    obtain ⟨c, _, _, h3⟩ := hxs j hj
    exact h3
  · omega
  · rw [hxl, ← hb]
    refine Nat.le_trans (Nat.mul_le_mul_right _ ?_) hsz
    omega
end
end Go.Proofs.Ytnhoadmgoaenpaa.Open
