/- Plain laws of the options: what the two checks come to; no condition. -/
import Derived.Test.YtnhoadmgoaenpaaQSegWritesOpts7
namespace Go.Proofs.Ytnhoadmgoaenpaa.Pure
open Go.RowKit Go.Proofs.Ytnhoadmgoaenpaa.PSegWrites Go.Proofs.YtnhoadmgoaenpaaW.PrintWords Go.Proofs.YtnhoadmgoaenpaaW.PrintLast Go.Proofs.YtnhoadmgoaenpaaW.PrintMore
set_option linter.unusedVariables false
set_option linter.unusedSimpArgs false

theorem evs {α : Type} {c : Prop} [Decidable c] {A B : Nat → Option α} {r : α} (hA : c → Ev A r) (hB : ¬ c → Ev B r) : Ev (fun k => if c then A k else B k) r := by
  by_cases h : c
  · exact evp h (hA h)
  · exact evn h (hB h)
theorem chk_zero {a : Int} : chk a = 0 ↔ okNum a := by unfold chk okNum; split <;> simp_all
theorem chk_le (a : Int) : 0 ≤ chk a ∧ chk a ≤ 1 := by unfold chk; split <;> omega
theorem mx_pos {a b : Int} (ha : 0 ≤ a ∧ a ≤ 1) (hb : 0 ≤ b ∧ b ≤ 1) : mx a b > 0 ↔ ¬ (a = 0 ∧ b = 0) := by unfold mx; split <;> omega
def badR (r : S68) : Prop := ¬ okNum r.f0 ∨ ¬ okNum r.f1 ∨ r.f0 = r.f1
open Classical in
noncomputable def tailCode (mss scale stamp echo : Int) (scaled ok st : Bool) (l l2 : List S68) : Int :=
  if ∃ r ∈ l2, badR r then 70 else if 40 < (pad (bareB mss scale stamp echo scaled ok st l)).length then 70 else 0
open Classical in
noncomputable def optsCode (mss scale stamp echo : Int) (scaled ok st : Bool) (l : List S68) : Int :=
  if mss < 0 ∨ mss > 65535 ∨ scale < 0 ∨ scale > 14 ∨ 4 < l.length then 70
  else if ¬ okNum stamp ∨ ¬ okNum echo then 70
  else if (scaled = false ∧ scale ≠ 0) ∨ (st = false ∧ (stamp ≠ 0 ∨ echo ≠ 0)) then 70
  else tailCode mss scale stamp echo scaled ok st l l
theorem rangeBad_is (r : S68) : ∃ b : Bool, opts_Check_1.f r.f0 r.f1 = some b ∧ (b = true ↔ badR r) := by
  unfold opts_Check_1.f
  simp only [seq_Check_is, Option.bind_some]
  have hm := mx_pos (chk_le r.f0) (chk_le r.f1)
  by_cases h : mx (chk r.f0) (chk r.f1) > 0
  · rw [if_pos h]
    refine ⟨true, rfl, fun _ => ?_, fun _ => rfl⟩
    rw [hm, chk_zero, chk_zero] at h
    unfold badR
    by_cases h0 : okNum r.f0
    · exact .inr (.inl (fun h1 => h ⟨h0, h1⟩))
    · exact .inl h0
  · rw [if_neg h]
    refine ⟨_, rfl, ?_⟩
    have h2 : okNum r.f0 ∧ okNum r.f1 := by
      rw [← chk_zero, ← chk_zero]
      exact Classical.byContradiction fun hc => h (hm.2 hc)
    unfold badR
    rw [beq_iff_eq]
    exact ⟨fun h => .inr (.inr h), fun h => h.elim (fun h => absurd h2.1 h) (fun h => h.elim (fun h => absurd h2.2 h) id)⟩
theorem index_is (l : List S68) (hl : l.length ≤ 1152921504606846976) : ∃ n : Int, Ev (fun k => api_Range_60.f k l) n ∧ (n ≥ 0 ↔ ∃ r ∈ l, badR r) := by
  have key : ∀ (d i : Nat), i + d = l.length → ∃ n : Int, Ev (fun k => api_Range_60.l0 k l l.length i) n ∧ (n ≥ 0 ↔ ∃ r ∈ l.drop i, badR r) := by
    intro d
    induction d with
    | zero =>
      intro i hi
      refine ⟨-1, Ev_succ ?_, ?_⟩
      · simp only [api_Range_60.l0]
        exact evn (by omega) (Ev.now _)
      · rw [List.drop_eq_nil_of_le (by omega)]
        simp
    | succ d ih =>
      intro i hi
      have hlt : i < l.length := by omega
      have hdrop : l.drop i = l[i] :: l.drop (i + 1) := List.drop_eq_getElem_cons hlt
      obtain ⟨b, hb, hbad⟩ := rangeBad_is l[i]
      obtain ⟨n, hn, hiff⟩ := ih (i + 1) (by omega)
      by_cases hc : b = true
      · refine ⟨i, Ev_succ ?_, ?_⟩
        · simp only [api_Range_60.l0]
          refine evp (by omega) (evp (by omega) (evp (by omega) ?_))
          rw [rd_at l i hlt]
          exact evc hb (evp hc (Ev.now _))
        · rw [hdrop]
          exact ⟨fun _ => ⟨_, List.mem_cons_self, hbad.1 hc⟩, fun _ => by omega⟩
      · refine ⟨n, Ev_succ ?_, ?_⟩
        · simp only [api_Range_60.l0]
          refine evp (by omega) (evp (by omega) (evp (by omega) ?_))
          rw [rd_at l i hlt, w64 (n := (i : Int) + 1) (by omega) (by omega)]
          exact evc hb (evn hc hn)
        · rw [hiff, hdrop]
          constructor
          · rintro ⟨r, hr, h⟩
            exact ⟨r, List.mem_cons_of_mem _ hr, h⟩
          · rintro ⟨r, hr, h⟩
            rcases List.mem_cons.1 hr with rfl | hr
            · exact absurd (hbad.2 h) hc
            · exact ⟨r, hr, h⟩
  have := key l.length 0 (by omega)
  rw [List.drop_zero] at this
  exact this
theorem contains_is (l : List S68) (hl : l.length ≤ 1152921504606846976) : ∃ b : Bool, Ev (fun k => api_Range_47.f k l) b ∧ (b = true ↔ ∃ r ∈ l, badR r) := by
  obtain ⟨n, hn, hiff⟩ := index_is l hl
  refine ⟨decide (n ≥ 0), ?_, by rw [decide_eq_true_iff]; exact hiff⟩
  have := Ev.bind (f := fun _ (t : Int) => some (decide (t ≥ 0))) hn (Ev.now _)
  exact this
section
variable (mss scale stamp echo : Int) (scaled ok st : Bool) (l : List S68)
theorem oC_j2t : Ev (fun k => opts_Check.j2 k true mss scale stamp echo scaled ok st l) 70 := Ev_succ (by simp only [opts_Check.j2]; exact evp (by trivial) (Ev.now _))
theorem oC_j1t : Ev (fun k => opts_Check.j1 k true mss scale stamp echo scaled ok st l) 70 := Ev_succ (by simp only [opts_Check.j1]; exact evp (by trivial) (oC_j2t ..))
theorem oC_j0t : Ev (fun k => opts_Check.j0 k true mss scale stamp echo scaled ok st l) 70 := Ev_succ (by simp only [opts_Check.j0]; exact evp (by trivial) (oC_j1t ..))
theorem oCheck_is (hl : l.length ≤ 1152921504606846976) : Ev (fun k => opts_Check.f k mss scale stamp echo scaled ok st l) (optsCode mss scale stamp echo scaled ok st l) := by
  unfold optsCode
  by_cases h1 : mss < 0 ∨ mss > 65535 ∨ scale < 0 ∨ scale > 14 ∨ 4 < l.length
  · rw [if_pos h1]
    simp only [opts_Check.f]
    refine evs (fun _ => oC_j0t ..) (fun _ => ?_)
    refine evs (fun _ => oC_j0t ..) (fun _ => ?_)
    refine evs (fun _ => oC_j0t ..) (fun _ => ?_)
    refine evs (fun _ => oC_j0t ..) (fun _ => ?_)
    rw [decide_eq_true (by omega)]
    exact oC_j0t ..
  rw [if_neg h1]
  simp only [opts_Check.f]
  refine evn (by omega) (evn (by omega) (evn (by omega) (evn (by omega) ?_)))
  rw [decide_eq_false (by omega)]
  refine Ev_succ ?_
  simp only [opts_Check.j0]
  refine evn (by simp) ?_
  refine evc (seq_Check_is _) (evc (seq_Check_is _) ?_)
  have hm := mx_pos (chk_le stamp) (chk_le echo)
  rw [chk_zero, chk_zero] at hm
  by_cases h2 : ¬ okNum stamp ∨ ¬ okNum echo
  · rw [if_pos h2, decide_eq_true (hm.2 (fun h => h2.elim (fun g => g h.1) (fun g => g h.2)))]
    exact oC_j1t ..
  rw [if_neg h2]
  have h2' : okNum stamp ∧ okNum echo := ⟨Classical.byContradiction fun h => h2 (.inl h), Classical.byContradiction fun h => h2 (.inr h)⟩
  rw [decide_eq_false (fun h => hm.1 h h2')]
  have hmx : mx stamp echo > 0 ↔ (stamp ≠ 0 ∨ echo ≠ 0) := by
    have a := h2'.1
    have b := h2'.2
    unfold okNum at a b
    unfold mx
    split <;> omega
  refine Ev_succ ?_
  simp only [opts_Check.j1]
  refine evn (by simp) ?_
  by_cases h3 : (scaled = false ∧ scale ≠ 0) ∨ (st = false ∧ (stamp ≠ 0 ∨ echo ≠ 0))
  · rw [if_pos h3]
    refine evs (fun a => evs (fun b => ?_) (fun b => ?_)) (fun a => evs (fun b => oC_j2t ..) (fun b => evs (fun c => ?_) (fun c => ?_)))
    · simp [a, b] at h3
    · rw [decide_eq_true (hmx.2 (by simpa [a, b] using h3))]
      exact oC_j2t ..
    · have a' : scaled = false := by simpa using a
      have : scale = 0 := by omega
      simp [c, this] at h3
    · have : scale = 0 := by omega
      have c' : st = false := by simpa using c
      rw [decide_eq_true (hmx.2 (by simpa [this, c'] using h3))]
      exact oC_j2t ..
  rw [if_neg h3]
  have hj : Ev (fun k => opts_Check.j2 k false mss scale stamp echo scaled ok st l) (tailCode mss scale stamp echo scaled ok st l l) := by
    unfold tailCode
    obtain ⟨b, hb, hiff⟩ := contains_is l hl
    refine Ev_succ ?_
    simp only [opts_Check.j2]
    refine evn (by simp) ?_
    refine Ev.bind hb ?_
    by_cases h4 : ∃ r ∈ l, badR r
    · rw [if_pos h4]
      exact evp (hiff.2 h4) (Ev.now _)
    · rw [if_neg h4]
      refine evn (fun h => h4 (hiff.1 h)) ?_
      have hok : okOpts mss scale stamp echo l := ⟨by omega, by omega, h2'.1, h2'.2, by omega, fun r hr => by
        have hb : ¬ badR r := fun h => h4 ⟨r, hr, h⟩
        exact ⟨Classical.byContradiction fun h => hb (.inl h), Classical.byContradiction fun h => hb (.inr (.inl h))⟩⟩
      refine Ev.bind (otext_is mss scale stamp echo scaled ok st l hok) ?_
      rw [S_size]
      by_cases h5 : 40 < (pad (bareB mss scale stamp echo scaled ok st l)).length
      · rw [if_pos h5]
        exact evp (by omega) (Ev.now _)
      · rw [if_neg h5]
        exact evn (by omega) (Ev.now _)
  have hz : st = false → ¬ (stamp ≠ 0 ∨ echo ≠ 0) := fun a b => h3 (.inr ⟨a, b⟩)
  refine evs (fun a => evs (fun b => hj) (fun b => ?_)) (fun a => evs (fun b => ?_) (fun b => evs (fun c => hj) (fun c => ?_)))
  · rw [decide_eq_false (fun h => hz (by simpa using b) (hmx.1 h))]
    exact hj
  · exact absurd (.inl ⟨by simpa using a, by omega⟩) h3
  · rw [decide_eq_false (fun h => hz (by simpa using c) (hmx.1 h))]
    exact hj
theorem rC_j0t : Ev (fun k => sternpostref07_Check.j0 k true mss scale stamp echo scaled ok st l) 70 := Ev_succ (by simp only [sternpostref07_Check.j0]; exact evp (by trivial) (Ev.now _))
theorem rC_l0 (hok : (0 ≤ mss ∧ mss ≤ 65535) ∧ (0 ≤ scale ∧ scale ≤ 255) ∧ okNum stamp ∧ okNum echo ∧ l.length ≤ 4) : ∀ (d i : Nat), i + d = l.length → (∀ j (h : j < l.length), j < i → ¬ badR l[j]) →
    Ev (fun k => sternpostref07_Check.l0 k i mss scale stamp echo scaled ok st l) (tailCode mss scale stamp echo scaled ok st l (l.drop i)) := by
  intro d
  induction d with
  | zero =>
    intro i hi hpre
    unfold tailCode
    rw [List.drop_eq_nil_of_le (by omega), if_neg (by simp)]
    refine Ev_succ ?_
    simp only [sternpostref07_Check.l0]
    refine evn (by omega) ?_
    have hok2 : okOpts mss scale stamp echo l := ⟨hok.1, hok.2.1, hok.2.2.1, hok.2.2.2.1, by omega, fun r hr => by
      obtain ⟨j, hj, rfl⟩ := List.getElem_of_mem hr
      have hb := hpre j hj (by omega)
      exact ⟨Classical.byContradiction fun h => hb (.inl h), Classical.byContradiction fun h => hb (.inr (.inl h))⟩⟩
    refine Ev.bind (rBytes_is mss scale stamp echo scaled ok st l hok2) ?_
    rw [S_size]
    by_cases h5 : 40 < (pad (bareB mss scale stamp echo scaled ok st l)).length
    · rw [if_pos h5]
      exact evp (by omega) (Ev.now _)
    · rw [if_neg h5]
      exact evn (by omega) (Ev.now _)
  | succ d ih =>
    intro i hi hpre
    have hlt : i < l.length := by omega
    have hdrop : l.drop i = l[i] :: l.drop (i + 1) := List.drop_eq_getElem_cons hlt
    refine Ev_succ ?_
    simp only [sternpostref07_Check.l0]
    refine evp (by omega) (evp (by omega) ?_)
    rw [rd_at l i hlt]
    by_cases hb : badR l[i]
    · unfold tailCode
      rw [if_pos ⟨l[i], by rw [hdrop]; exact List.mem_cons_self, hb⟩]
      refine evc (ref01_Check_is _) (evs (fun a => evc (ref01_Check_is _) (evs (fun b => evs (fun c => Ev.now _) (fun c => ?_)) (fun b => Ev.now _))) (fun a => Ev.now _))
      rw [chk_zero] at a b
      rcases hb with h | h | h
      · exact absurd a h
      · exact absurd b h
      · exact absurd h c
    · have hb' : okNum l[i].f0 ∧ okNum l[i].f1 ∧ ¬ l[i].f0 = l[i].f1 := ⟨Classical.byContradiction fun h => hb (.inl h), Classical.byContradiction fun h => hb (.inr (.inl h)), fun h => hb (.inr (.inr h))⟩
      have hnext := ih (i + 1) (by omega) (fun j hj hji => by
        rcases Nat.lt_or_ge j i with h | h
        · exact hpre j hj h
        · obtain rfl : j = i := by omega
          exact hb)
      have e : (∃ r ∈ l.drop i, badR r) ↔ ∃ r ∈ l.drop (i + 1), badR r := by
        rw [hdrop]
        constructor
        · rintro ⟨r, hr, h⟩
          rcases List.mem_cons.1 hr with rfl | hr
          · exact absurd h hb
          · exact ⟨r, hr, h⟩
        · rintro ⟨r, hr, h⟩
          exact ⟨r, List.mem_cons_of_mem _ hr, h⟩
      have et : tailCode mss scale stamp echo scaled ok st l (l.drop i) = tailCode mss scale stamp echo scaled ok st l (l.drop (i + 1)) := by
        unfold tailCode
        by_cases h : ∃ r ∈ l.drop (i + 1), badR r
        · rw [if_pos (e.2 h), if_pos h]
        · rw [if_neg (fun g => h (e.1 g)), if_neg h]
      rw [et]
      refine evc (ref01_Check_is _) (evp (chk_zero.2 hb'.1) (evc (ref01_Check_is _) (evp (chk_zero.2 hb'.2.1) (evn hb'.2.2 ?_))))
      rw [w64 (n := (i : Int) + 1) (by omega) (by omega)]
      exact hnext
theorem rCheck_is : Ev (fun k => sternpostref07_Check.f k mss scale stamp echo scaled ok st l) (optsCode mss scale stamp echo scaled ok st l) := by
  have t := rC_j0t mss scale stamp echo scaled ok st l
  have t2 : ∀ b : Bool, b = true → Ev (fun k => sternpostref07_Check.j0 k b mss scale stamp echo scaled ok st l) 70 := fun b hb => by subst hb; exact t
  unfold optsCode
  simp only [sternpostref07_Check.f, ref01_Check_is, Option.bind_some]
  by_cases h1 : mss < 0 ∨ mss > 65535 ∨ scale < 0 ∨ scale > 14 ∨ 4 < l.length
  · rw [if_pos h1]
    repeat' (refine evs (fun _ => ?_) (fun _ => ?_))
    all_goals first | exact t | exact t2 _ (decide_eq_true (by omega))
  rw [if_neg h1]
  by_cases h2 : ¬ okNum stamp ∨ ¬ okNum echo
  · rw [if_pos h2]
    repeat' (refine evs (fun _ => ?_) (fun _ => ?_))
    all_goals first | exact t | (exfalso; rcases h2 with h | h <;> first | exact h (chk_zero.1 ‹chk stamp = 0›) | exact h (chk_zero.1 ‹chk echo = 0›))
  rw [if_neg h2]
  have h2' : okNum stamp ∧ okNum echo := ⟨Classical.byContradiction fun h => h2 (.inl h), Classical.byContradiction fun h => h2 (.inr h)⟩
  have c1 := chk_zero.2 h2'.1
  have c2 := chk_zero.2 h2'.2
  by_cases h3 : (scaled = false ∧ scale ≠ 0) ∨ (st = false ∧ (stamp ≠ 0 ∨ echo ≠ 0))
  · rw [if_pos h3]
    repeat' (refine evs (fun _ => ?_) (fun _ => ?_))
    all_goals first | exact t | (exfalso; simp_all)
  rw [if_neg h3]
  have hg : Ev (fun k => sternpostref07_Check.j0 k (decide ((l.length : Int) > 4)) mss scale stamp echo scaled ok st l) (tailCode mss scale stamp echo scaled ok st l l) := by
    rw [decide_eq_false (by omega)]
    refine Ev_succ ?_
    simp only [sternpostref07_Check.j0]
    refine evn (by simp) ?_
    have := rC_l0 mss scale stamp echo scaled ok st l ⟨by omega, by omega, h2'.1, h2'.2, by omega⟩ l.length 0 (by omega) (fun j hj h => by omega)
    rw [List.drop_zero] at this
    exact this
  repeat' (refine evs (fun _ => ?_) (fun _ => ?_))
  all_goals first | exact hg | (exfalso; omega) | (exfalso; exact absurd (chk_zero.2 h2'.1) ‹_›) | (exfalso; exact absurd (chk_zero.2 h2'.2) ‹_›) | (exfalso; simp_all; done) | (exfalso; simp_all; omega)
end
end Go.Proofs.Ytnhoadmgoaenpaa.Pure
