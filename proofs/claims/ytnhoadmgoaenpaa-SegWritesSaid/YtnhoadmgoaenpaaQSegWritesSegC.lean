/- Plain laws of segments: what the two checks and lengths come to; no condition. -/
import Derived.Test.YtnhoadmgoaenpaaQSegWritesOptsC
namespace Go.Proofs.Ytnhoadmgoaenpaa.Pure
open Go.RowKit Go.Proofs.Ytnhoadmgoaenpaa.PSegWrites Go.Proofs.YtnhoadmgoaenpaaW.PrintWords Go.Proofs.YtnhoadmgoaenpaaW.PrintLast Go.Proofs.YtnhoadmgoaenpaaW.PrintMore
set_option linter.unusedVariables false
set_option linter.unusedSimpArgs false

def has (f m : Int) : Bool := Go.bits .and .i64 f m == m
theorem optsCode_cases (mss scale stamp echo : Int) (scaled ok st : Bool) (l : List S68) : optsCode mss scale stamp echo scaled ok st l = 0 ∨ optsCode mss scale stamp echo scaled ok st l = 70 := by
  unfold optsCode tailCode
  repeat' split
  all_goals first | exact .inl rfl | exact .inr rfl
section
variable (fr dst sq ak fl wi ur mss scale stamp echo : Int) (scaled ok st : Bool) (l : List S68) (d : ByteArray)
noncomputable def segCode : Int :=
  if (fr < 0 ∨ fr > 65535) ∨ (dst < 0 ∨ dst > 65535) ∨ (wi < 0 ∨ wi > 65535) ∨ (ur < 0 ∨ ur > 65535) ∨ (fl < 0 ∨ fl > 63) then 80
  else if chk sq ≠ 0 ∨ chk ak ≠ 0 ∨ optsCode mss scale stamp echo scaled ok st l ≠ 0 ∨ d.size > 1480 then 80
  else if (ak ≠ 0 ∧ has fl 16 = false) ∨ (ur ≠ 0 ∧ has fl 32 = false) then 80 else 0
theorem sC_j1t : Ev (fun k => seg_Check.j1 k true fr dst sq ak fl wi ur mss scale stamp echo scaled ok st l d) 80 := Ev_succ (by simp only [seg_Check.j1]; exact evp (by trivial) (Ev.now _))
theorem sC_j0t : Ev (fun k => seg_Check.j0 k true fr dst sq ak fl wi ur mss scale stamp echo scaled ok st l d) 80 := Ev_succ (by simp only [seg_Check.j0]; exact evp (by trivial) (sC_j1t ..))
theorem mn_lt {a b : Int} : mn a b < 0 ↔ a < 0 ∨ b < 0 := by unfold mn; split <;> omega
theorem mx_gt {a b c : Int} : mx a b > c ↔ a > c ∨ b > c := by unfold mx; split <;> omega
theorem segCheck_is (hl : l.length ≤ 1152921504606846976) (hd : (d.size : Int) ≤ 1152921504606846976) :
    Ev (fun k => seg_Check.f k fr dst sq ak fl wi ur mss scale stamp echo scaled ok st l d) (segCode fr dst sq ak fl wi ur mss scale stamp echo scaled ok st l d) := by
  unfold segCode
  have j0t := sC_j0t fr dst sq ak fl wi ur mss scale stamp echo scaled ok st l d
  have j1t := sC_j1t fr dst sq ak fl wi ur mss scale stamp echo scaled ok st l d
  by_cases h1 : (fr < 0 ∨ fr > 65535) ∨ (dst < 0 ∨ dst > 65535) ∨ (wi < 0 ∨ wi > 65535) ∨ (ur < 0 ∨ ur > 65535) ∨ (fl < 0 ∨ fl > 63)
  · rw [if_pos h1]
    simp only [seg_Check.f]
    refine evs (fun _ => j0t) (fun a => evs (fun _ => j0t) (fun b => ?_))
    simp only [mn_lt, mx_gt] at a b
    rw [decide_eq_true (by omega)]
    exact j0t
  rw [if_neg h1]
  simp only [seg_Check.f]
  refine evn (by simp only [mn_lt]; omega) (evn (by simp only [mx_gt]; omega) ?_)
  rw [decide_eq_false (by omega)]
  refine Ev_succ ?_
  simp only [seg_Check.j0]
  refine evn (by simp) ?_
  refine evc (seq_Check_is _) (evc (seq_Check_is _) ?_)
  refine Ev.bind (oCheck_is mss scale stamp echo scaled ok st l hl) ?_
  have c1 := chk_le sq
  have c2 := chk_le ak
  have c3 := optsCode_cases mss scale stamp echo scaled ok st l
  by_cases h2 : chk sq ≠ 0 ∨ chk ak ≠ 0 ∨ optsCode mss scale stamp echo scaled ok st l ≠ 0 ∨ d.size > 1480
  · rw [if_pos h2]
    refine evs (fun _ => j1t) (fun b => ?_)
    simp only [mx_gt] at b
    rw [decide_eq_true (by omega)]
    exact j1t
  rw [if_neg h2]
  refine evn (by simp only [mx_gt]; omega) ?_
  rw [decide_eq_false (by omega)]
  have hak : okNum ak := chk_zero.1 (by omega)
  unfold okNum at hak
  refine Ev_succ ?_
  simp only [seg_Check.j1, seg_Has.f, Option.bind_some]
  refine evn (by simp) ?_
  change Ev (fun k => if ak > 0 then (if has fl 16 = true then (if ur > 0 then (if has fl 32 = true then some 0 else some 80) else some 0) else some 80) else (if ur > 0 then (if has fl 32 = true then some 0 else some 80) else some 0)) _
  generalize has fl 16 = p
  generalize has fl 32 = q
  refine ⟨0, fun _ _ => ?_⟩
  by_cases x : ak > 0 <;> by_cases y : ur > 0 <;> cases p <;> cases q <;> simp [x, y] <;> omega
theorem sg_l0 (v : List Int) (r : Int) (hv : v.length ≤ 1000) (hr : Ev (fun k => sternpostref08_Check.l0 k v v.length fr dst sq ak fl wi ur mss scale stamp echo scaled ok st l d) r) : ∀ (n i : Nat), i + n = v.length →
    Ev (fun k => sternpostref08_Check.l0 k v i fr dst sq ak fl wi ur mss scale stamp echo scaled ok st l d) (if ∃ x ∈ v.drop i, x < 0 ∨ x > 65535 then 80 else r) := by
  intro n
  induction n with
  | zero =>
    intro i hi
    rw [List.drop_eq_nil_of_le (by omega), if_neg (by simp)]
    obtain rfl : i = v.length := by omega
    exact hr
  | succ n ih =>
    intro i hi
    have hlt : i < v.length := by omega
    have hdrop : v.drop i = v[i] :: v.drop (i + 1) := List.drop_eq_getElem_cons hlt
    have hrd : rd v i = v[i] := by unfold rd; simp [List.getD_eq_getElem?_getD, hlt]
    have hnext := ih (i + 1) (by omega)
    refine Ev_succ ?_
    simp only [sternpostref08_Check.l0, hrd]
    refine evp (by omega) (evp (by omega) ?_)
    by_cases hx : v[i] < 0 ∨ v[i] > 65535
    · rw [if_pos ⟨v[i], by rw [hdrop]; exact List.mem_cons_self, hx⟩]
      exact evs (fun _ => Ev.now _) (fun a => evs (fun _ => Ev.now _) (fun b => by omega))
    · refine evn (by omega) (evn (by omega) ?_)
      rw [w64 (n := (i : Int) + 1) (by omega) (by omega)]
      have e : (∃ x ∈ v.drop i, x < 0 ∨ x > 65535) ↔ ∃ x ∈ v.drop (i + 1), x < 0 ∨ x > 65535 := by
        rw [hdrop]
        constructor
        · rintro ⟨y, hy, h⟩
          rcases List.mem_cons.1 hy with rfl | hy
          · exact absurd h hx
          · exact ⟨y, hy, h⟩
        · rintro ⟨y, hy, h⟩
          exact ⟨y, List.mem_cons_of_mem _ hy, h⟩
      by_cases h : ∃ x ∈ v.drop (i + 1), x < 0 ∨ x > 65535
      · rw [if_pos (e.2 h)]
        rw [if_pos h] at hnext
        exact hnext
      · rw [if_neg (fun g => h (e.1 g))]
        rw [if_neg h] at hnext
        exact hnext
theorem refCheck_is : Ev (fun k => sternpostref08_Check.f k fr dst sq ak fl wi ur mss scale stamp echo scaled ok st l d) (segCode fr dst sq ak fl wi ur mss scale stamp echo scaled ok st l d) := by
  have hend : Ev (fun k => sternpostref08_Check.l0 k [fr, dst, wi, ur] (([fr, dst, wi, ur] : List Int).length) fr dst sq ak fl wi ur mss scale stamp echo scaled ok st l d)
      (if chk sq ≠ 0 ∨ chk ak ≠ 0 then 80 else if fl < 0 ∨ fl > 63 then 80 else if (has fl 16 = false ∧ ak ≠ 0) ∨ (has fl 32 = false ∧ ur ≠ 0) then 80 else if optsCode mss scale stamp echo scaled ok st l ≠ 0 then 80 else if d.size > 1480 then 80 else 0) := by
    refine Ev_succ ?_
    simp only [sternpostref08_Check.l0, sternpostref08_Has.f, Option.bind_some]
    refine evn (by simp) ?_
    have hopt : ∀ r : Int, (optsCode mss scale stamp echo scaled ok st l ≠ 0 → r = 80) → (optsCode mss scale stamp echo scaled ok st l = 0 → r = if d.size > 1480 then 80 else 0) →
        Ev (fun k => (sternpostref07_Check.f k mss scale stamp echo scaled ok st l).bind fun t => if t = 0 then (if (d.size : Int) > 1480 then some 80 else some 0) else some 80) r := by
      intro r ha hb
      refine Ev.bind (rCheck_is mss scale stamp echo scaled ok st l) (evs (fun c => ?_) (fun c => ?_))
      · rw [hb c]
        by_cases h : d.size > 1480
        · rw [if_pos h]
          exact evp (by omega) (Ev.now _)
        · rw [if_neg h]
          exact evn (by omega) (Ev.now _)
      · rw [ha c]
        exact Ev.now _
    refine evc (ref01_Check_is _) (evs (fun a => evc (ref01_Check_is _) (evs (fun b => ?_) (fun b => ?_))) (fun a => ?_))
    · rw [if_neg (show ¬ (chk sq ≠ 0 ∨ chk ak ≠ 0) by omega)]
      refine evs (fun c => ?_) (fun c => evs (fun e => ?_) (fun e => ?_))
      · rw [if_pos (.inl c)]
        exact Ev.now _
      · rw [if_pos (.inr e)]
        exact Ev.now _
      · rw [if_neg (show ¬ (fl < 0 ∨ fl > 63) by omega)]
        change Ev (fun k => if has fl 16 = true then _ else _) _
        refine evs (fun x => ?_) (fun x => evs (fun z => ?_) (fun z => ?_))
        · change Ev (fun k => if has fl 32 = true then _ else _) _
          refine evs (fun y => ?_) (fun y => evs (fun z => ?_) (fun z => ?_))
          · rw [if_neg (show ¬ ((has fl 16 = false ∧ ak ≠ 0) ∨ (has fl 32 = false ∧ ur ≠ 0)) by simp [x, y])]
            exact hopt _ (fun h => if_pos h) (fun h => if_neg (by simpa using h))
          · rw [if_neg (show ¬ ((has fl 16 = false ∧ ak ≠ 0) ∨ (has fl 32 = false ∧ ur ≠ 0)) by simp [x, z])]
            exact hopt _ (fun h => if_pos h) (fun h => if_neg (by simpa using h))
          · rw [if_pos (.inr ⟨by simpa using y, z⟩)]
            exact Ev.now _
        · change Ev (fun k => if has fl 32 = true then _ else _) _
          refine evs (fun y => ?_) (fun y => evs (fun z2 => ?_) (fun z2 => ?_))
          · rw [if_neg (show ¬ ((has fl 16 = false ∧ ak ≠ 0) ∨ (has fl 32 = false ∧ ur ≠ 0)) by simp [z, y])]
            exact hopt _ (fun h => if_pos h) (fun h => if_neg (by simpa using h))
          · rw [if_neg (show ¬ ((has fl 16 = false ∧ ak ≠ 0) ∨ (has fl 32 = false ∧ ur ≠ 0)) by simp [z, z2])]
            exact hopt _ (fun h => if_pos h) (fun h => if_neg (by simpa using h))
          · rw [if_pos (.inr ⟨by simpa using y, z2⟩)]
            exact Ev.now _
        · rw [if_pos (.inl ⟨by simpa using x, z⟩)]
          exact Ev.now _
    · rw [if_pos (.inr b)]
      exact Ev.now _
    · rw [if_pos (.inl a)]
      exact Ev.now _
  have h := sg_l0 fr dst sq ak fl wi ur mss scale stamp echo scaled ok st l d [fr, dst, wi, ur] _ (by simp) hend 4 0 (by simp)
  rw [List.drop_zero] at h
  have e : segCode fr dst sq ak fl wi ur mss scale stamp echo scaled ok st l d = if ∃ x ∈ [fr, dst, wi, ur], x < 0 ∨ x > 65535 then 80 else (if chk sq ≠ 0 ∨ chk ak ≠ 0 then 80 else if fl < 0 ∨ fl > 63 then 80 else if (has fl 16 = false ∧ ak ≠ 0) ∨ (has fl 32 = false ∧ ur ≠ 0) then 80 else if optsCode mss scale stamp echo scaled ok st l ≠ 0 then 80 else if d.size > 1480 then 80 else 0) := by
    unfold segCode
    have hx : (∃ x ∈ [fr, dst, wi, ur], x < 0 ∨ x > 65535) ↔ (fr < 0 ∨ fr > 65535) ∨ (dst < 0 ∨ dst > 65535) ∨ (wi < 0 ∨ wi > 65535) ∨ (ur < 0 ∨ ur > 65535) := by
      simp only [List.mem_cons, List.not_mem_nil, or_false, exists_eq_or_imp, exists_eq_left]
    by_cases hA : ∃ x ∈ [fr, dst, wi, ur], x < 0 ∨ x > 65535
    · rw [if_pos hA]
      have := hx.1 hA
      rw [if_pos (by omega)]
    rw [if_neg hA]
    have hA' := fun h => hA (hx.2 h)
    by_cases hF : fl < 0 ∨ fl > 63
    · rw [if_pos (by omega), if_pos hF]
      by_cases hB : chk sq ≠ 0 ∨ chk ak ≠ 0
      · rw [if_pos hB]
      · rw [if_neg hB]
    rw [if_neg hF, if_neg (by intro h; rcases h with h | h | h | h | h <;> first | exact hF h | exact hA' (by simp only [h, true_or, or_true]))]
    by_cases hB : chk sq ≠ 0 ∨ chk ak ≠ 0
    · rw [if_pos hB, if_pos (hB.elim (fun h => .inl h) (fun h => .inr (.inl h)))]
    rw [if_neg hB]
    by_cases hO : optsCode mss scale stamp echo scaled ok st l ≠ 0
    · rw [if_pos (.inr (.inr (.inl hO))), if_pos hO]
      split <;> rfl
    rw [if_neg hO]
    by_cases hD : d.size > 1480
    · rw [if_pos (.inr (.inr (.inr hD))), if_pos hD]
      split <;> rfl
    rw [if_neg hD, if_neg (by intro h; rcases h with h | h | h | h <;> first | exact hB (.inl h) | exact hB (.inr h) | exact hO h | exact hD h)]
    by_cases hH : (ak ≠ 0 ∧ has fl 16 = false) ∨ (ur ≠ 0 ∧ has fl 32 = false)
    · rw [if_pos hH, if_pos (hH.imp And.symm And.symm)]
    · rw [if_neg hH, if_neg (fun h => hH (h.imp And.symm And.symm))]
  rw [e]
  exact h
end
end Go.Proofs.Ytnhoadmgoaenpaa.Pure
