/- Plain laws of segments: their bytes, as both sides make them; no condition. -/
import Derived.Test.YtnhoadmgoaenpaaQSegWritesSegC
namespace Go.Proofs.Ytnhoadmgoaenpaa.Pure
open Go.RowKit Go.Proofs.Ytnhoadmgoaenpaa.PSegWrites Go.Proofs.YtnhoadmgoaenpaaW.PrintWords Go.Proofs.YtnhoadmgoaenpaaW.PrintLast Go.Proofs.YtnhoadmgoaenpaaW.PrintMore
set_option linter.unusedVariables false
set_option linter.unusedSimpArgs false

theorem snum_is (n : Int) (b : Nat) (h1 : 1 ≤ b) (hb : b ≤ 6) (h0 : 0 ≤ n) (hn : n < 2 ^ (8 * b)) : Ev (fun k => seg_num.f k n b) (strOfNums (be b n)) := by
  have h := Ev.bind (f := fun _ (bt : ByteArray × Int) => some bt.1) (Put_is n b h1 hb h0 hn) (Ev.now _)
  exact h
theorem snum1 (n : Int) (h : 0 ≤ n ∧ n ≤ 255) : Ev (fun k => seg_num.f k n 1) (strOfNums (be 1 n)) := snum_is n 1 (by omega) (by omega) h.1 (by omega)
theorem snum2 (n : Int) (h : 0 ≤ n ∧ n ≤ 65535) : Ev (fun k => seg_num.f k n 2) (strOfNums (be 2 n)) := snum_is n 2 (by omega) (by omega) h.1 (by omega)
theorem snum4 (n : Int) (h : 0 ≤ n ∧ n ≤ 4294967295) : Ev (fun k => seg_num.f k n 4) (strOfNums (be 4 n)) := snum_is n 4 (by omega) (by omega) h.1 (by omega)
theorem put2' (n : Int) (h : 0 ≤ n ∧ n ≤ 65535) : Ev (fun k => sum_Put.f k n 2) (strOfNums (be 2 n), 0) := Put_is n 2 (by omega) (by omega) h.1 (by omega)
theorem put4' (n : Int) (h : 0 ≤ n ∧ n ≤ 4294967295) : Ev (fun k => sum_Put.f k n 4) (strOfNums (be 4 n), 0) := Put_is n 4 (by omega) (by omega) h.1 (by omega)
theorem S_extract (l : List Int) (a b : Nat) : (strOfNums l).extract a b = strOfNums ((l.take b).drop a) := by
  apply ByteArray.ext
  apply Array.ext'
  simp only [strOfNums, ByteArray.data_extract, Array.toList_extract, List.extract_eq_take_drop, List.map_drop, List.map_take]
  by_cases h : a ≤ b
  · rw [List.drop_take]
  · rw [show b - a = 0 from by omega, List.take_zero, List.drop_eq_nil_of_le (Nat.le_trans (List.length_take_le _ _) (by omega))]
def pseudoB (a b p n : Int) : List Int := be 4 a ++ be 4 b ++ be 2 p ++ be 2 n
theorem pseudoB_length (a b p n : Int) : (pseudoB a b p n).length = 12 := by simp [pseudoB, be_length]
theorem Pseudo_is (a b p n : Int) (ha : okNum a) (hb : okNum b) (hp : 0 ≤ p ∧ p ≤ 255) (hn : 0 ≤ n ∧ n ≤ 65535) : Ev (fun k => sum_Pseudo.f k a b p n) (strOfNums (pseudoB a b p n), 0) := by
  unfold okNum at ha hb
  have step : ∀ (acc : List Int) (i : Nat) (x w : Int) (b' : Nat) (r : ByteArray × Int), i < 4 → acc.length ≤ 100 → rd [a, b, p, n] i = x → rd [4, 4, 2, 2] i = (b' : Int) → b' ≤ 6 → Ev (fun k => sum_Put.f k x b') (strOfNums (be b' x), 0) →
      Ev (fun k => sum_Pseudo.l0 k (strOfNums (acc ++ be b' x)) [a, b, p, n] 4 ((i + 1 : Nat) : Int)) r → Ev (fun k => sum_Pseudo.l0 k (strOfNums acc) [a, b, p, n] 4 i) r := by
    intro acc i x w b' r hi hacc hx hw hb6 hput hnext
    refine Ev_succ ?_
    simp only [sum_Pseudo.l0, Option.bind_some, hx, hw]
    refine evp (by omega) (evp (by omega) (evp (by simp; omega) (evp (by simp; omega) ?_)))
    refine Ev.bind hput ?_
    refine evp (by simp only [S_size, be_length]; omega) ?_
    rw [w64 (by omega) (by omega), S_app]
    exact hnext
  have hend : Ev (fun k => sum_Pseudo.l0 k (strOfNums (pseudoB a b p n)) [a, b, p, n] 4 4) (strOfNums (pseudoB a b p n), 0) := by
    refine Ev_succ ?_
    simp only [sum_Pseudo.l0]
    exact evn (by omega) (Ev.now _)
  have h3 := step (be 4 a ++ be 4 b ++ be 2 p) 3 n 0 2 _ (by omega) (by simp [be_length]) rfl rfl (by omega) (put2' n hn) hend
  have h2 := step (be 4 a ++ be 4 b) 2 p 0 2 _ (by omega) (by simp [be_length]) rfl rfl (by omega) (put2' p ⟨hp.1, by omega⟩) h3
  have h1 := step (be 4 a) 1 b 0 4 _ (by omega) (by simp [be_length]) rfl rfl (by omega) (put4' b hb) h2
  have h0 := step [] 0 a 0 4 _ (by omega) (by simp) rfl rfl (by omega) (put4' a ha) h1
  simp only [sum_Pseudo.f]
  refine evn (by simp only [mn_lt]; omega) (evn (by simp only [mx_gt]; omega) (evn (by omega) ?_))
  rw [decide_eq_false (by omega)]
  refine Ev_succ ?_
  simp only [sum_Pseudo.j0, Option.bind_some]
  exact evn (by simp) h0
theorem rPseudo_is (a b p n : Int) (ha : okNum a) (hb : okNum b) (hp : 0 ≤ p ∧ p ≤ 255) (hn : 0 ≤ n ∧ n ≤ 65535) : Ev (fun k => sternpostref02_Pseudo.f k a b p n) (strOfNums (pseudoB a b p n), 0) := by
  simp only [sternpostref02_Pseudo.f]
  refine evc (ref01_Check_is _) (evp (chk_zero.2 ha) (evc (ref01_Check_is _) (evp (chk_zero.2 hb) (evn (by omega) (evn (by omega) (evn (by omega) ?_))))))
  rw [decide_eq_false (by omega)]
  refine Ev_succ ?_
  simp only [sternpostref02_Pseudo.j0]
  refine evn (by simp) ?_
  refine Ev.bind (text4 _) (Ev.bind (text4 _) (evp (by simp only [S_size, be_length]; omega) (Ev.bind (text2 _) ?_)))
  rw [S_app]
  refine evp (by simp only [S_size, List.length_append, be_length]; omega) (Ev.bind (text2 _) ?_)
  rw [S_app]
  refine evp (by simp only [S_size, List.length_append, be_length]; omega) ?_
  rw [S_app]
  exact Ev.now _
section
variable (a b fr dst sq ak fl wi ur : Int) (o D : List Int)
def headB : List Int := be 2 fr ++ be 2 dst ++ be 4 sq ++ be 4 ak ++ [(20 + (o.length : Int)) / 4 * 16, fl] ++ be 2 wi
def tailB : List Int := be 2 ur ++ o ++ D
def zeroB : List Int := headB fr dst sq ak fl wi o ++ [0, 0] ++ tailB ur o D
def sumB : Int := 65535 - oc (tw 0 (pseudoB a b 6 (zeroB fr dst sq ak fl wi ur o D).length ++ zeroB fr dst sq ak fl wi ur o D))
def segB : List Int := headB fr dst sq ak fl wi o ++ be 2 (sumB a b fr dst sq ak fl wi ur o D) ++ tailB ur o D
theorem headB_length : (headB fr dst sq ak fl wi o).length = 16 := by simp [headB, be_length]
theorem tailB_length : (tailB ur o D).length = 2 + o.length + D.length := by simp [tailB, be_length]; omega
theorem zeroB_length : (zeroB fr dst sq ak fl wi ur o D).length = 20 + o.length + D.length := by
  simp only [zeroB, List.length_append, headB_length, tailB_length, List.length_cons, List.length_nil]
  omega
theorem sumB_range : 0 ≤ sumB a b fr dst sq ak fl wi ur o D ∧ sumB a b fr dst sq ak fl wi ur o D ≤ 65535 := by
  unfold sumB
  have := oc_le (tw 0 (pseudoB a b 6 (zeroB fr dst sq ak fl wi ur o D).length ++ zeroB fr dst sq ak fl wi ur o D))
  have := oc_ge (tw 0 (pseudoB a b 6 (zeroB fr dst sq ak fl wi ur o D).length ++ zeroB fr dst sq ak fl wi ur o D))
  omega
end
theorem be1 (n : Int) (h : 0 ≤ n ∧ n ≤ 255) : be 1 n = [n] := by
  simp only [be, Nat.mul_zero, Int.pow_zero, Int.ediv_one]
  rw [show n % 256 = n from by omega]
theorem be20 : be 2 0 = [0, 0] := rfl
theorem bareB_bytes (mss scale stamp echo : Int) (scaled ok st : Bool) (l : List S68) (h : l.length ≤ 24) : isBytes (bareB mss scale stamp echo scaled ok st l) := by
  have hr : ∀ l : List S68, isBytes (l.flatMap rng) := by
    intro l x hx
    obtain ⟨r, _, hx⟩ := List.mem_flatMap.1 hx
    exact isBytes_append (be_bytes _ _) (be_bytes _ _) x hx
  unfold bareB b0 b1 b2 b3 sackB
  refine isBytes_append (isBytes_append (isBytes_append (isBytes_append ?_ ?_) ?_) ?_) ?_
  · split
    · exact isBytes_nil
    · exact isBytes_cons (by omega) (isBytes_cons (by omega) (be_bytes _ _))
  · split
    · exact isBytes_cons (by omega) (isBytes_cons (by omega) (be_bytes _ _))
    · exact isBytes_nil
  · split
    · exact isBytes_cons (by omega) (isBytes_cons (by omega) isBytes_nil)
    · exact isBytes_nil
  · split
    · exact isBytes_cons (by omega) (isBytes_cons (by omega) (isBytes_append (be_bytes _ _) (be_bytes _ _)))
    · exact isBytes_nil
  · split
    · exact isBytes_nil
    · exact isBytes_cons (by omega) (isBytes_cons (by omega) (hr l))
theorem pad_bytes {l : List Int} (h : isBytes l) : isBytes (pad l) := isBytes_append h (fun x hx => by
  have := List.eq_of_mem_replicate hx
  omega)
end Go.Proofs.Ytnhoadmgoaenpaa.Pure
