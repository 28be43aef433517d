/- Plain laws of the options: what the printed functions of the package opts and of the reference 07 come to; no condition. -/
import Derived.Test.YtnhoadmgoaenpaaQSegWritesNum
namespace Go.Proofs.Ytnhoadmgoaenpaa.Pure
open Go.RowKit Go.Proofs.Ytnhoadmgoaenpaa.PSegWrites Go.Proofs.YtnhoadmgoaenpaaW.PrintWords Go.Proofs.YtnhoadmgoaenpaaW.PrintLast Go.Proofs.YtnhoadmgoaenpaaW.PrintMore
set_option linter.unusedVariables false
set_option linter.unusedSimpArgs false

theorem evp {α : Type} {c : Prop} [Decidable c] {A B : Nat → Option α} {r : α} (h : c) (H : Ev A r) : Ev (fun k => if c then A k else B k) r := Ev.congr (fun _ => if_pos h) H
theorem evn {α : Type} {c : Prop} [Decidable c] {A B : Nat → Option α} {r : α} (h : ¬ c) (H : Ev B r) : Ev (fun k => if c then A k else B k) r := Ev.congr (fun _ => if_neg h) H
theorem evc {α β : Type} {x : Option α} {a : α} {f : Nat → α → Option β} {r : β} (h : x = some a) (H : Ev (fun k => f k a) r) : Ev (fun k => x.bind (f k)) r := Ev.congr (fun _ => by rw [h]; rfl) H
theorem S_app (a b : List Int) : strOfNums a ++ strOfNums b = strOfNums (a ++ b) := by
  apply ByteArray.ext
  simp [strOfNums, ByteArray.data_append]
theorem S_nil : (⟨#[]⟩ : ByteArray) = strOfNums [] := rfl
theorem S_size (a : List Int) : (strOfNums a).size = a.length := strOfNums_size a
theorem bytes_S (l : List Int) (h : isBytes l) : bytesOf (strOfNums l) = l := by
  unfold bytesOf
  rw [strOfNums_data, List.map_map]
  conv => rhs; rw [← List.map_id l]
  apply List.map_congr_left
  intro x hx
  have := h x hx
  simp only [Function.comp, id]
  rw [UInt8.toNat_ofNat_of_lt' (by show x.toNat < 256; omega)]
  omega
theorem S_bytes (s : ByteArray) : strOfNums (bytesOf s) = s := by
  apply ByteArray.ext
  apply Array.ext'
  rw [strOfNums_data]
  unfold bytesOf
  rw [List.map_map]
  conv => rhs; rw [← List.map_id s.data.toList]
  apply List.map_congr_left
  intro x hx
  simp
theorem isBytes_append {a b : List Int} (ha : isBytes a) (hb : isBytes b) : isBytes (a ++ b) := fun x hx => (List.mem_append.1 hx).elim (ha x) (hb x)
theorem isBytes_nil : isBytes [] := fun _ h => by cases h
theorem isBytes_cons {x : Int} {l : List Int} (h : 0 ≤ x ∧ x ≤ 255) (hl : isBytes l) : isBytes (x :: l) := fun y hy => by
  rcases List.mem_cons.1 hy with rfl | hy
  · exact h
  · exact hl y hy

/-! a number's bytes, as the two sides make them -/
theorem onum_is (n : Int) (b : Nat) (h1 : 1 ≤ b) (hb : b ≤ 6) (h0 : 0 ≤ n) (hn : n < 2 ^ (8 * b)) : Ev (fun k => opts_num.f k n b) (strOfNums (be b n)) := by
  have h := Ev.bind (f := fun _ (bt : ByteArray × Int) => some bt.1) (Put_is n b h1 hb h0 hn) (Ev.now _)
  exact h
theorem onum1 (n : Int) (h : 0 ≤ n ∧ n ≤ 255) : Ev (fun k => opts_num.f k n 1) (strOfNums (be 1 n)) := onum_is n 1 (by omega) (by omega) h.1 (by omega)
theorem onum2 (n : Int) (h : 0 ≤ n ∧ n ≤ 65535) : Ev (fun k => opts_num.f k n 2) (strOfNums (be 2 n)) := onum_is n 2 (by omega) (by omega) h.1 (by omega)
theorem onum4 (n : Int) (h : 0 ≤ n ∧ n ≤ 4294967295) : Ev (fun k => opts_num.f k n 4) (strOfNums (be 4 n)) := onum_is n 4 (by omega) (by omega) h.1 (by omega)
theorem text1 (n : Int) : Ev (fun k => sternpostref02_Text.f k n 1) (strOfNums (be 1 n)) := Text_is n 1 (by omega)
theorem text2 (n : Int) : Ev (fun k => sternpostref02_Text.f k n 2) (strOfNums (be 2 n)) := Text_is n 2 (by omega)
theorem text4 (n : Int) : Ev (fun k => sternpostref02_Text.f k n 4) (strOfNums (be 4 n)) := Text_is n 4 (by omega)
theorem Ev_succ {α : Type} {g : Nat → Option α} {r : α} (h : Ev (fun k => g (k + 1)) r) : Ev g r := Ev.step (fun _ => rfl) h
theorem option_is (kind : Int) (hk : 0 ≤ kind ∧ kind ≤ 255) (l : List Int) (n : Int) (hn : 2 + (l.length : Int) = n) (hl : n ≤ 202) : opts_option.f kind (strOfNums l) = some (strOfNums (kind :: n :: l)) := by
  subst hn
  unfold opts_option.f
  simp only [Option.bind_some, S_size]
  rw [w64 (by omega) (by omega), if_pos (by simp only [List.length_cons, List.length_nil]; omega), S_app, show kind % 256 = kind from by omega, show (2 + (l.length : Int)) % 256 = 2 + l.length from by omega]
  rfl

/-! the options' bytes -/
def rng (r : S68) : List Int := be 4 r.f0 ++ be 4 r.f1
def sackB (l : List S68) : List Int := if l = [] then [] else 5 :: (2 + 8 * (l.length : Int)) :: l.flatMap rng
def b0 (mss : Int) : List Int := if mss = 0 then [] else 2 :: 4 :: be 2 mss
def b1 (scaled : Bool) (scale : Int) : List Int := if scaled = true then 3 :: 3 :: be 1 scale else []
def b2 (ok : Bool) : List Int := if ok = true then [4, 2] else []
def b3 (st : Bool) (stamp echo : Int) : List Int := if st = true then 8 :: 10 :: (be 4 stamp ++ be 4 echo) else []
def pad (l : List Int) : List Int := l ++ List.replicate ((4 - l.length % 4) % 4) 0
def bareB (mss scale stamp echo : Int) (scaled ok st : Bool) (l : List S68) : List Int := b0 mss ++ b1 scaled scale ++ b2 ok ++ b3 st stamp echo ++ sackB l
def okNum (n : Int) : Prop := 0 ≤ n ∧ n ≤ 4294967295
def okOpts (mss scale stamp echo : Int) (l : List S68) : Prop := (0 ≤ mss ∧ mss ≤ 65535) ∧ (0 ≤ scale ∧ scale ≤ 255) ∧ okNum stamp ∧ okNum echo ∧ l.length ≤ 24 ∧ ∀ r ∈ l, okNum r.f0 ∧ okNum r.f1
theorem rng_length (r : S68) : (rng r).length = 8 := by simp [rng, be_length]
theorem flat_rng_length (l : List S68) : (l.flatMap rng).length = 8 * l.length := by
  induction l with
  | nil => rfl
  | cons r l ih => rw [List.flatMap_cons, List.length_append, ih, rng_length, List.length_cons]; omega
theorem rd_at (l : List S68) (i : Nat) (h : i < l.length) : rd_T68 l i = l[i] := by
  unfold rd_T68
  simp [List.getD_eq_getElem?_getD, h]
theorem pad_rep (l : List Int) (c : Nat) (hc : c = (4 - l.length % 4) % 4) : strOfNums l ++ (⟨(Lib.repeatL [0] c).toArray⟩ : ByteArray) = strOfNums (pad l) := by
  subst hc
  unfold pad
  rw [← S_app]
  congr 1
  generalize (4 - l.length % 4) % 4 = c
  have e : ∀ c, Lib.repeatL [(0 : UInt8)] c = List.replicate c 0 := by
    intro c
    induction c with
    | zero => rfl
    | succ c ih => simp only [Lib.repeatL, ih, List.replicate_succ]; rfl
  rw [e]
  apply ByteArray.ext
  simp [strOfNums]
theorem Repeat_is (l : List Int) (hl : l.length ≤ 1000000) : strings_Repeat.f (⟨#[0]⟩ : ByteArray) (Go.bits .and .i64 (wrap64 (-((strOfNums l).size : Int))) 3) = some (⟨(Lib.repeatL [0] ((4 - l.length % 4) % 4)).toArray⟩ : ByteArray) := by
  rw [and2, S_size, w64 (by omega) (by omega)]
  unfold strings_Repeat.f
  rw [if_pos (by refine ⟨by omega, by omega, ?_⟩; show (1 : Int) * _ ≤ _; omega)]
  rw [show ((-(l.length : Int)) % 4).toNat = (4 - l.length % 4) % 4 from by omega]
theorem ends_is (acc x : List Int) (h : acc.length + x.length ≤ 1000) :
    Ev (fun k => if (strOfNums acc).size + (strOfNums x).size ≤ 9223372036854775807 then ((strings_Repeat.f (⟨#[0]⟩ : ByteArray) (Go.bits .and .i64 (wrap64 (-((strOfNums acc ++ strOfNums x).size : Int))) 3)).bind fun t125 => (if (strOfNums acc ++ strOfNums x).size + t125.size ≤ 9223372036854775807 then (some ((strOfNums acc ++ strOfNums x) ++ t125)) else (none))) else (none)) (strOfNums (pad (acc ++ x))) := by
  refine evp (by simp only [S_size]; omega) ?_
  rw [S_app]
  refine evc (Repeat_is (acc ++ x) (by simp only [List.length_append]; omega)) ?_
  have hp := pad_rep (acc ++ x) _ rfl
  have hsz : (strOfNums (pad (acc ++ x))).size ≤ 1010 := by
    rw [S_size]
    simp only [pad, List.length_append, List.length_replicate]
    omega
  rw [← hp, ByteArray.size_append] at hsz
  refine evp (by omega) ?_
  rw [hp]
  exact Ev.now _
theorem otext_l0 (acc : List Int) (hacc : acc.length ≤ 200) (l : List S68) (hl : l.length ≤ 24) (hr : ∀ r ∈ l, okNum r.f0 ∧ okNum r.f1) : ∀ (d i : Nat) (body : List Int), i + d = l.length → body.length = 8 * i →
    Ev (fun k => opts_text.l0 k (strOfNums acc) (strOfNums body) l l.length i) (strOfNums (pad (acc ++ (5 :: (2 + ((body ++ (l.drop i).flatMap rng).length : Int)) :: (body ++ (l.drop i).flatMap rng))))) := by
  intro d
  induction d with
  | zero =>
    intro i body hi hb
    have hdrop : l.drop i = [] := List.drop_eq_nil_of_le (by omega)
    rw [hdrop]
    simp only [List.flatMap_nil, List.append_nil]
    refine Ev_succ ?_
    simp only [opts_text.l0]
    refine evn (by omega) ?_
    refine evc (option_is 5 (by omega) body _ rfl (by omega)) ?_
    exact ends_is acc _ (by simp only [List.length_cons]; omega)
  | succ d ih =>
    intro i body hi hb
    have hlt : i < l.length := by omega
    have hdrop : l.drop i = l[i] :: l.drop (i + 1) := List.drop_eq_getElem_cons hlt
    have hok := hr l[i] (List.getElem_mem hlt)
    have hnext := ih (i + 1) (body ++ rng l[i]) (by omega) (by rw [List.length_append, rng_length]; omega)
    rw [hdrop, List.flatMap_cons, ← List.append_assoc]
    refine Ev_succ ?_
    simp only [opts_text.l0]
    refine evp (by omega) ?_
    refine evp (by omega) ?_
    refine evp (by omega) ?_
    rw [rd_at l i hlt]
    refine Ev.bind (onum4 _ hok.1) ?_
    refine Ev.bind (onum4 _ hok.2) ?_
    refine evp (by simp only [S_size, be_length]; omega) ?_
    rw [S_app]
    refine evp (by simp only [S_size, List.length_append, be_length]; omega) ?_
    rw [S_app, w64 (by omega) (by omega)]
    exact hnext
theorem otext_is (mss scale stamp echo : Int) (scaled ok st : Bool) (l : List S68) (h : okOpts mss scale stamp echo l) :
    Ev (fun k => opts_text.f k mss scale stamp echo scaled ok st l) (strOfNums (pad (bareB mss scale stamp echo scaled ok st l))) := by
  obtain ⟨hm, hs, ht, he, hl, hr⟩ := h
  have hb0 : (b0 mss).length ≤ 4 := by unfold b0; split <;> simp [be_length]
  have hb1 : (b1 scaled scale).length ≤ 3 := by unfold b1; split <;> simp [be_length]
  have hb2 : (b2 ok).length ≤ 2 := by unfold b2; split <;> simp
  have hb3 : (b3 st stamp echo).length ≤ 10 := by unfold b3; split <;> simp [be_length]
  have h3 : ∀ acc : List Int, acc.length ≤ 100 → Ev (fun k => opts_text.j3 k (strOfNums acc) mss scale stamp echo scaled ok st l) (strOfNums (pad (acc ++ sackB l))) := by
    intro acc ha
    refine Ev_succ ?_
    simp only [opts_text.j3]
    by_cases hl0 : l = []
    · subst hl0
      refine evn (by simp) ?_
      refine evc (Repeat_is acc (by omega)) ?_
      have hp := pad_rep acc _ rfl
      have hsz : (strOfNums (pad acc)).size ≤ 1010 := by
        rw [S_size]
        simp only [pad, List.length_append, List.length_replicate]
        omega
      rw [← hp, ByteArray.size_append] at hsz
      refine evp (by omega) ?_
      rw [hp]
      simp only [sackB, if_true, List.append_nil]
      exact Ev.now _
    · have hpos : 0 < l.length := List.length_pos_iff.2 hl0
      refine evp (by omega) ?_
      have := otext_l0 acc (by omega) l hl hr l.length 0 [] (by omega) rfl
      rw [List.drop_zero, List.nil_append, flat_rng_length] at this
      unfold sackB
      rw [if_neg hl0]
      exact this
  have h2 : ∀ acc : List Int, acc.length ≤ 50 → Ev (fun k => opts_text.j2 k (strOfNums acc) mss scale stamp echo scaled ok st l) (strOfNums (pad (acc ++ b3 st stamp echo ++ sackB l))) := by
    intro acc ha
    refine Ev_succ ?_
    simp only [opts_text.j2]
    by_cases hc : st = true
    · refine evp hc ?_
      refine Ev.bind (onum4 _ ht) ?_
      refine Ev.bind (onum4 _ he) ?_
      refine evp (by simp only [S_size, be_length]; omega) ?_
      rw [S_app]
      refine evc (option_is 8 (by omega) _ 10 (by simp only [List.length_append, be_length]; omega) (by omega)) ?_
      refine evp (by simp only [S_size, List.length_cons, List.length_append, be_length]; omega) ?_
      rw [S_app]
      have := h3 (acc ++ b3 st stamp echo) (by rw [List.length_append]; omega)
      unfold b3 at this ⊢
      rw [if_pos hc] at this ⊢
      exact this
    · refine evn hc ?_
      unfold b3
      rw [if_neg hc, List.append_nil]
      exact h3 acc (by omega)
  have h1 : ∀ acc : List Int, acc.length ≤ 40 → Ev (fun k => opts_text.j1 k (strOfNums acc) mss scale stamp echo scaled ok st l) (strOfNums (pad (acc ++ b2 ok ++ b3 st stamp echo ++ sackB l))) := by
    intro acc ha
    refine Ev_succ ?_
    simp only [opts_text.j1]
    by_cases hc : ok = true
    · refine evp hc ?_
      rw [S_nil]
      refine evc (option_is 4 (by omega) [] 2 rfl (by omega)) ?_
      refine evp (by simp only [S_size, List.length_cons, List.length_nil]; omega) ?_
      rw [S_app]
      have := h2 (acc ++ b2 ok) (by rw [List.length_append]; omega)
      unfold b2 at this ⊢
      rw [if_pos hc] at this ⊢
      exact this
    · refine evn hc ?_
      unfold b2
      rw [if_neg hc, List.append_nil]
      exact h2 acc (by omega)
  have h0 : ∀ acc : List Int, acc.length ≤ 30 → Ev (fun k => opts_text.j0 k (strOfNums acc) mss scale stamp echo scaled ok st l) (strOfNums (pad (acc ++ b1 scaled scale ++ b2 ok ++ b3 st stamp echo ++ sackB l))) := by
    intro acc ha
    refine Ev_succ ?_
    simp only [opts_text.j0]
    by_cases hc : scaled = true
    · refine evp hc ?_
      refine Ev.bind (onum1 _ hs) ?_
      refine evc (option_is 3 (by omega) _ 3 (by simp only [be_length]; omega) (by omega)) ?_
      refine evp (by simp only [S_size, List.length_cons, be_length]; omega) ?_
      rw [S_app]
      have := h1 (acc ++ b1 scaled scale) (by rw [List.length_append]; omega)
      unfold b1 at this ⊢
      rw [if_pos hc] at this ⊢
      exact this
    · refine evn hc ?_
      unfold b1
      rw [if_neg hc, List.append_nil]
      exact h1 acc (by omega)
  unfold bareB
  simp only [opts_text.f]
  by_cases hc : mss > 0
  · refine evp hc ?_
    refine Ev.bind (onum2 _ hm) ?_
    refine evc (option_is 2 (by omega) _ 4 (by simp only [be_length]; omega) (by omega)) ?_
    refine evp (by simp only [S_size, List.length_cons, be_length]; omega) ?_
    rw [S_nil, S_app]
    have := h0 (b0 mss) (by omega)
    unfold b0 at this ⊢
    rw [if_neg (by omega)] at this ⊢
    exact this
  · refine evn hc ?_
    have := h0 [] (by simp)
    unfold b0
    rw [if_pos (by omega)]
    exact this
end Go.Proofs.Ytnhoadmgoaenpaa.Pure
