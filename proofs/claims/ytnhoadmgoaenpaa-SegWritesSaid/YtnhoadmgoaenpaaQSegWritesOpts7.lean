/- Plain laws of the options: what the reference 07's bytes come to, and the two checks; no condition. -/
import Derived.Test.YtnhoadmgoaenpaaQSegWritesOpts
namespace Go.Proofs.Ytnhoadmgoaenpaa.Pure
open Go.RowKit Go.Proofs.Ytnhoadmgoaenpaa.PSegWrites Go.Proofs.YtnhoadmgoaenpaaW.PrintWords Go.Proofs.YtnhoadmgoaenpaaW.PrintLast Go.Proofs.YtnhoadmgoaenpaaW.PrintMore
set_option linter.unusedVariables false
set_option linter.unusedSimpArgs false

theorem rbare_l0 (mss scale stamp echo : Int) (scaled ok st : Bool) (l : List S68) (hl : l.length ≤ 1000000) : ∀ (d i : Nat) (acc : List Int), i + d = l.length → acc.length ≤ 1000000 + 8 * i →
    Ev (fun k => sternpostref07_bare.l0 k (strOfNums acc) i mss scale stamp echo scaled ok st l) (strOfNums (acc ++ (l.drop i).flatMap rng)) := by
  intro d
  induction d with
  | zero =>
    intro i acc hi ha
    have hdrop : l.drop i = [] := List.drop_eq_nil_of_le (by omega)
    rw [hdrop]
    simp only [List.flatMap_nil, List.append_nil]
    refine Ev_succ ?_
    simp only [sternpostref07_bare.l0]
    exact evn (by omega) (Ev.now _)
  | succ d ih =>
    intro i acc hi ha
    have hlt : i < l.length := by omega
    have hdrop : l.drop i = l[i] :: l.drop (i + 1) := List.drop_eq_getElem_cons hlt
    have hnext := ih (i + 1) (acc ++ rng l[i]) (by omega) (by rw [List.length_append, rng_length]; omega)
    rw [hdrop, List.flatMap_cons, ← List.append_assoc]
    refine Ev_succ ?_
    simp only [sternpostref07_bare.l0]
    refine evp (by omega) ?_
    refine evp (by omega) ?_
    rw [rd_at l i hlt]
    refine Ev.bind (text4 _) ?_
    refine Ev.bind (text4 _) ?_
    refine evp (by simp only [S_size, be_length]; omega) ?_
    rw [S_app]
    refine evp (by simp only [S_size, List.length_append, be_length]; omega) ?_
    rw [S_app, w64 (by omega) (by omega)]
    exact hnext
theorem rbare_is (mss scale stamp echo : Int) (scaled ok st : Bool) (l : List S68) (h : okOpts mss scale stamp echo l) :
    Ev (fun k => sternpostref07_bare.f k mss scale stamp echo scaled ok st l) (strOfNums (bareB mss scale stamp echo scaled ok st l)) := by
  obtain ⟨hm, hs, ht, he, hl, hr⟩ := h
  have hb0 : (b0 mss).length ≤ 4 := by unfold b0; split <;> simp [be_length]
  have hb1 : (b1 scaled scale).length ≤ 3 := by unfold b1; split <;> simp [be_length]
  have hb2 : (b2 ok).length ≤ 2 := by unfold b2; split <;> simp
  have hb3 : (b3 st stamp echo).length ≤ 10 := by unfold b3; split <;> simp [be_length]
  have h4 : ∀ acc : List Int, acc.length ≤ 200 → Ev (fun k => sternpostref07_bare.j4 k (strOfNums acc) mss scale stamp echo scaled ok st l) (strOfNums (acc ++ l.flatMap rng)) := by
    intro acc ha
    refine Ev_succ ?_
    simp only [sternpostref07_bare.j4]
    have := rbare_l0 mss scale stamp echo scaled ok st l (by omega) l.length 0 acc (by omega) (by omega)
    rw [List.drop_zero] at this
    exact this
  have h3 : ∀ acc : List Int, acc.length ≤ 100 → Ev (fun k => sternpostref07_bare.j3 k (strOfNums acc) mss scale stamp echo scaled ok st l) (strOfNums (acc ++ sackB l)) := by
    intro acc ha
    refine Ev_succ ?_
    simp only [sternpostref07_bare.j3]
    by_cases hl0 : l = []
    · subst hl0
      refine evn (by simp) ?_
      have := h4 acc (by omega)
      simp only [sackB, if_true, List.flatMap_nil] at this ⊢
      exact this
    · have hpos : 0 < l.length := List.length_pos_iff.2 hl0
      refine evp (by omega) ?_
      rw [w64 (n := 8 * (l.length : Int)) (by omega) (by omega), w64 (by omega) (by omega)]
      refine Ev.bind (text1 _) ?_
      refine evp (by simp only [S_size, be_length]; omega) ?_
      have e5 : (⟨#[5]⟩ : ByteArray) ++ strOfNums (be 1 (2 + 8 * (l.length : Int))) = strOfNums [5, 2 + 8 * (l.length : Int)] := by
        rw [show (⟨#[5]⟩ : ByteArray) = strOfNums [5] from rfl, S_app]
        simp only [be, List.singleton_append, Nat.mul_zero, Int.pow_zero, Int.ediv_one]
        rw [show (2 + 8 * (l.length : Int)) % 256 = 2 + 8 * l.length from by omega]
      rw [e5]
      refine evp (by simp only [S_size, List.length_cons, List.length_nil]; omega) ?_
      rw [S_app]
      have := h4 (acc ++ [5, 2 + 8 * (l.length : Int)]) (by simp only [List.length_append, List.length_cons, List.length_nil]; omega)
      unfold sackB
      rw [if_neg hl0]
      simpa only [List.append_assoc, List.cons_append, List.nil_append] using this
  have h2 : ∀ acc : List Int, acc.length ≤ 50 → Ev (fun k => sternpostref07_bare.j2 k (strOfNums acc) mss scale stamp echo scaled ok st l) (strOfNums (acc ++ b3 st stamp echo ++ sackB l)) := by
    intro acc ha
    refine Ev_succ ?_
    simp only [sternpostref07_bare.j2]
    by_cases hc : st = true
    · refine evp hc ?_
      refine Ev.bind (text4 _) ?_
      refine evp (by simp only [S_size, be_length]; omega) ?_
      refine Ev.bind (text4 _) ?_
      rw [show (⟨#[8, 10]⟩ : ByteArray) = strOfNums [8, 10] from rfl, S_app]
      refine evp (by simp only [S_size, List.length_append, List.length_cons, List.length_nil, be_length]; omega) ?_
      rw [S_app]
      refine evp (by simp only [S_size, List.length_append, List.length_cons, List.length_nil, be_length]; omega) ?_
      rw [S_app]
      have := h3 (acc ++ b3 st stamp echo) (by rw [List.length_append]; omega)
      unfold b3 at this ⊢
      rw [if_pos hc] at this ⊢
      simpa only [List.append_assoc, List.cons_append, List.nil_append] using this
    · refine evn hc ?_
      unfold b3
      rw [if_neg hc, List.append_nil]
      exact h3 acc (by omega)
  have h1 : ∀ acc : List Int, acc.length ≤ 40 → Ev (fun k => sternpostref07_bare.j1 k (strOfNums acc) mss scale stamp echo scaled ok st l) (strOfNums (acc ++ b2 ok ++ b3 st stamp echo ++ sackB l)) := by
    intro acc ha
    refine Ev_succ ?_
    simp only [sternpostref07_bare.j1]
    by_cases hc : ok = true
    · refine evp hc ?_
      refine evp (by simp only [S_size]; omega) ?_
      rw [show (⟨#[4, 2]⟩ : ByteArray) = strOfNums [4, 2] from rfl, S_app]
      have := h2 (acc ++ b2 ok) (by rw [List.length_append]; omega)
      unfold b2 at this ⊢
      rw [if_pos hc] at this ⊢
      exact this
    · refine evn hc ?_
      unfold b2
      rw [if_neg hc, List.append_nil]
      exact h2 acc (by omega)
  have h0 : ∀ acc : List Int, acc.length ≤ 30 → Ev (fun k => sternpostref07_bare.j0 k (strOfNums acc) mss scale stamp echo scaled ok st l) (strOfNums (acc ++ b1 scaled scale ++ b2 ok ++ b3 st stamp echo ++ sackB l)) := by
    intro acc ha
    refine Ev_succ ?_
    simp only [sternpostref07_bare.j0]
    by_cases hc : scaled = true
    · refine evp hc ?_
      refine Ev.bind (text1 _) ?_
      refine evp (by simp only [S_size, be_length]; omega) ?_
      rw [show (⟨#[3, 3]⟩ : ByteArray) = strOfNums [3, 3] from rfl, S_app]
      refine evp (by simp only [S_size, List.length_append, List.length_cons, List.length_nil, be_length]; omega) ?_
      rw [S_app]
      have := h1 (acc ++ b1 scaled scale) (by rw [List.length_append]; omega)
      unfold b1 at this ⊢
      rw [if_pos hc] at this ⊢
      simpa only [List.append_assoc, List.cons_append, List.nil_append] using this
    · refine evn hc ?_
      unfold b1
      rw [if_neg hc, List.append_nil]
      exact h1 acc (by omega)
  unfold bareB
  simp only [sternpostref07_bare.f]
  by_cases hc : mss = 0
  · refine evp hc ?_
    have := h0 [] (by simp)
    unfold b0
    rw [if_pos (by omega)]
    exact this
  · refine evn hc ?_
    refine Ev.bind (text2 _) ?_
    refine evp (by simp only [S_size, be_length]; omega) ?_
    rw [show (⟨#[2, 4]⟩ : ByteArray) = strOfNums [2, 4] from rfl, S_app]
    refine evp (by simp only [S_size, List.length_append, List.length_cons, List.length_nil, be_length]; omega) ?_
    rw [S_nil, S_app]
    have := h0 (b0 mss) (by omega)
    unfold b0 at this ⊢
    rw [if_neg (by omega)] at this ⊢
    simpa only [List.append_assoc, List.cons_append, List.nil_append] using this
theorem rpad_is : ∀ (d : Nat) (l : List Int), l.length ≤ 100000 → (4 - l.length % 4) % 4 = d → Ev (fun k => sternpostref07_Bytes.l0 k (strOfNums l)) (strOfNums (l ++ List.replicate d 0)) := by
  intro d
  induction d with
  | zero =>
    intro l hl hd
    refine Ev_succ ?_
    simp only [sternpostref07_Bytes.l0, S_size]
    refine evp (by omega) ?_
    simp only [List.replicate_zero, List.append_nil]
    exact Ev.now _
  | succ d ih =>
    intro l hl hd
    refine Ev_succ ?_
    simp only [sternpostref07_Bytes.l0, S_size]
    refine evn (by omega) ?_
    refine evp (by omega) ?_
    rw [show (⟨#[0]⟩ : ByteArray) = strOfNums [0] from rfl, S_app]
    have hbig : l.length ≤ 99999 ∨ l.length = 100000 := by omega
    rcases hbig with hb | hb
    · have := ih (l ++ [0]) (by simp only [List.length_append, List.length_singleton]; omega) (by simp only [List.length_append, List.length_singleton]; omega)
      rwa [List.append_assoc, List.singleton_append, ← List.replicate_succ] at this
    · omega
theorem rBytes_is (mss scale stamp echo : Int) (scaled ok st : Bool) (l : List S68) (h : okOpts mss scale stamp echo l) :
    Ev (fun k => sternpostref07_Bytes.f k mss scale stamp echo scaled ok st l) (strOfNums (pad (bareB mss scale stamp echo scaled ok st l))) := by
  have hlen : (bareB mss scale stamp echo scaled ok st l).length ≤ 100000 := by
    have hl := h.2.2.2.2.1
    have hb0 : (b0 mss).length ≤ 4 := by unfold b0; split <;> simp [be_length]
    have hb1 : (b1 scaled scale).length ≤ 3 := by unfold b1; split <;> simp [be_length]
    have hb2 : (b2 ok).length ≤ 2 := by unfold b2; split <;> simp
    have hb3 : (b3 st stamp echo).length ≤ 10 := by unfold b3; split <;> simp [be_length]
    have hs : (sackB l).length ≤ 2 + 8 * l.length := by
      unfold sackB
      split
      · simp
      · simp only [List.length_cons, flat_rng_length]; omega
    unfold bareB
    simp only [List.length_append]
    omega
  have h1 := Ev.bind (f := fun k t => sternpostref07_Bytes.l0 k t) (rbare_is mss scale stamp echo scaled ok st l h) (rpad_is _ _ hlen rfl)
  exact h1
end Go.Proofs.Ytnhoadmgoaenpaa.Pure
