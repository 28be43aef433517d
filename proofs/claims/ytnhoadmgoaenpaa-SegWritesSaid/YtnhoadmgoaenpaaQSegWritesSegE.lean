/- Plain laws of segments: both encoders answer alike; no condition. -/
import Derived.Test.YtnhoadmgoaenpaaQSegWritesSegB
namespace Go.Proofs.Ytnhoadmgoaenpaa.Pure
open Go.RowKit Go.Proofs.Ytnhoadmgoaenpaa.PSegWrites Go.Proofs.YtnhoadmgoaenpaaW.PrintWords Go.Proofs.YtnhoadmgoaenpaaW.PrintLast Go.Proofs.YtnhoadmgoaenpaaW.PrintMore
set_option linter.unusedVariables false
set_option linter.unusedSimpArgs false

theorem pad_mod (l : List Int) : (pad l).length % 4 = 0 := by
  simp only [pad, List.length_append, List.length_replicate]
  omega
section
variable (a b fr dst sq ak fl wi ur mss scale stamp echo : Int) (scaled ok st : Bool) (l : List S68) (d : ByteArray)
theorem optsCode_ok (h : optsCode mss scale stamp echo scaled ok st l = 0) : okOpts mss scale stamp echo l ∧ (pad (bareB mss scale stamp echo scaled ok st l)).length ≤ 40 := by
  unfold optsCode tailCode at h
  split at h
  · omega
  split at h
  · omega
  split at h
  · omega
  split at h
  · omega
  split at h
  · omega
  rename_i h1 h2 h3 h4 h5
  refine ⟨⟨by omega, by omega, by unfold okNum at *; omega, by unfold okNum at *; omega, by omega, ?_⟩, by omega⟩
  intro r hr
  have : ¬ badR r := fun hb => h4 ⟨r, hr, hb⟩
  unfold badR okNum at this
  unfold okNum
  omega
theorem segCode_ok (h : segCode fr dst sq ak fl wi ur mss scale stamp echo scaled ok st l d = 0) :
    (0 ≤ fr ∧ fr ≤ 65535) ∧ (0 ≤ dst ∧ dst ≤ 65535) ∧ (0 ≤ wi ∧ wi ≤ 65535) ∧ (0 ≤ ur ∧ ur ≤ 65535) ∧ (0 ≤ fl ∧ fl ≤ 63) ∧ okNum sq ∧ okNum ak ∧ optsCode mss scale stamp echo scaled ok st l = 0 ∧ d.size ≤ 1480 := by
  unfold segCode at h
  split at h
  · omega
  split at h
  · omega
  rename_i h1 h2
  have c3 := optsCode_cases mss scale stamp echo scaled ok st l
  refine ⟨by omega, by omega, by omega, by omega, by omega, chk_zero.1 (by omega), chk_zero.1 (by omega), by omega, by omega⟩
noncomputable def encR : ByteArray × Int :=
  if chk a ≠ 0 ∨ chk b ≠ 0 then (strOfNums [], 1) else if segCode fr dst sq ak fl wi ur mss scale stamp echo scaled ok st l d ≠ 0 then (strOfNums [], segCode fr dst sq ak fl wi ur mss scale stamp echo scaled ok st l d)
  else (strOfNums (segB a b fr dst sq ak fl wi ur (pad (bareB mss scale stamp echo scaled ok st l)) (bytesOf d)), 0)
variable {a b fr dst sq ak fl wi ur mss scale stamp echo : Int} {scaled ok st : Bool} {l : List S68} {d : ByteArray}
theorem hl_is {o : List Int} (h : o.length ≤ 40) : wrap64 ((wrap64 (Int.tdiv (wrap64 (20 + (o.length : Int))) 4)) * 16) = (20 + (o.length : Int)) / 4 * 16 := by
  rw [w64 (n := 20 + (o.length : Int)) (by omega) (by omega), Int.tdiv_eq_ediv_of_nonneg (by omega), w64 (n := (20 + (o.length : Int)) / 4) (by omega) (by omega), w64 (by omega) (by omega)]
theorem hl_byte {o : List Int} (h : o.length ≤ 40) : 0 ≤ (20 + (o.length : Int)) / 4 * 16 ∧ (20 + (o.length : Int)) / 4 * 16 ≤ 255 := by omega
theorem bytesOf_length (d : ByteArray) : (bytesOf d).length = d.size := by simp [bytesOf]
theorem head_bytes {o : List Int} (h : o.length ≤ 40) (hf : 0 ≤ fl ∧ fl ≤ 63) : isBytes (headB fr dst sq ak fl wi o) := by
  unfold headB
  refine isBytes_append (isBytes_append (isBytes_append (isBytes_append (isBytes_append (be_bytes _ _) (be_bytes _ _)) (be_bytes _ _)) (be_bytes _ _)) (isBytes_cons (hl_byte h) (isBytes_cons (by omega) isBytes_nil))) (be_bytes _ _)
theorem tail_bytes {o : List Int} (h : isBytes o) : isBytes (tailB ur o (bytesOf d)) := isBytes_append (isBytes_append (be_bytes _ _) h) (bytes_is d)
theorem zero_bytes {o : List Int} (h : o.length ≤ 40) (hb : isBytes o) (hf : 0 ≤ fl ∧ fl ≤ 63) : isBytes (zeroB fr dst sq ak fl wi ur o (bytesOf d)) :=
  isBytes_append (isBytes_append (head_bytes h hf) (isBytes_cons (by omega) (isBytes_cons (by omega) isBytes_nil))) (tail_bytes hb)
theorem pseudo_bytes (a b p n : Int) : isBytes (pseudoB a b p n) := isBytes_append (isBytes_append (isBytes_append (be_bytes _ _) (be_bytes _ _)) (be_bytes _ _)) (be_bytes _ _)
theorem segEnc_is (hl : l.length ≤ 1152921504606846976) (hd : (d.size : Int) ≤ 1152921504606846976) :
    Ev (fun k => seg_Encode.f k a b fr dst sq ak fl wi ur mss scale stamp echo scaled ok st l d) (encR a b fr dst sq ak fl wi ur mss scale stamp echo scaled ok st l d) := by
  unfold encR
  simp only [seg_Encode.f]
  have hadr : seg_addresses.f a b = some (mx (chk a) (chk b)) := by simp only [seg_addresses.f, seq_Check_is, Option.bind_some]
  have c1 := chk_le a
  have c2 := chk_le b
  refine evc hadr ?_
  by_cases h : chk a ≠ 0 ∨ chk b ≠ 0
  · rw [if_pos h]
    have : mx (chk a) (chk b) = 1 := by unfold mx; split <;> omega
    rw [this]
    exact evn (by omega) (Ev.now _)
  rw [if_neg h]
  have : mx (chk a) (chk b) = 0 := by unfold mx; split <;> omega
  refine evp this (Ev.bind (segCheck_is fr dst sq ak fl wi ur mss scale stamp echo scaled ok st l d hl hd) ?_)
  by_cases hs : segCode fr dst sq ak fl wi ur mss scale stamp echo scaled ok st l d = 0
  case neg => rw [if_pos hs]; exact evn hs (Ev.now _)
  rw [if_neg (by omega)]
  obtain ⟨r1, r2, r3, r4, r5, r6, r7, r8, r9⟩ := segCode_ok _ _ _ _ _ _ _ _ _ _ _ _ _ _ _ _ hs
  obtain ⟨o1, o2⟩ := optsCode_ok _ _ _ _ _ _ _ _ r8
  have ha : okNum a := chk_zero.1 (by omega)
  have hb : okNum b := chk_zero.1 (by omega)
  have ob := pad_bytes (bareB_bytes mss scale stamp echo scaled ok st l o1.2.2.2.2.1)
  refine evp hs ?_
  have hopt : Ev (fun k => opts_Encode.f k mss scale stamp echo scaled ok st l) (strOfNums (pad (bareB mss scale stamp echo scaled ok st l)), 0) := by
    simp only [opts_Encode.f]
    refine Ev.bind (oCheck_is mss scale stamp echo scaled ok st l hl) (evp r8 (Ev.bind (otext_is mss scale stamp echo scaled ok st l o1) (Ev.now _)))
  refine Ev.bind hopt ?_
  generalize pad (bareB mss scale stamp echo scaled ok st l) = o at o2 ob
  have hD := bytesOf_length d
  have hsd : d = strOfNums (bytesOf d) := (S_bytes d).symm
  have bd := bytes_is d
  generalize hDD : bytesOf d = D at hD hsd bd
  subst hsd
  unfold okNum at r6 r7
  refine Ev.bind (snum2 fr r1) (Ev.bind (snum2 dst r2) (evp (by simp only [S_size, be_length]; omega) (Ev.bind (snum4 sq r6) ?_)))
  simp only [S_app, S_size, List.length_append, be_length]
  refine evp (by omega) (Ev.bind (snum4 ak r7) ?_)
  simp only [S_app, S_size, List.length_append, be_length]
  rw [hl_is o2]
  refine evp (by omega) (Ev.bind (snum1 _ (hl_byte o2)) ?_)
  simp only [S_app, S_size, List.length_append, be_length]
  refine evp (by omega) (Ev.bind (snum1 fl ⟨r5.1, by omega⟩) ?_)
  simp only [S_app, S_size, List.length_append, be_length]
  refine evp (by omega) (Ev.bind (snum2 wi r3) ?_)
  simp only [S_app, S_size, List.length_append, be_length]
  refine evp (by omega) (Ev.bind (snum2 ur r4) ?_)
  simp only [S_app, S_size, List.length_append, be_length]
  refine evp (by omega) (evp (by rw [S_size] at r9; omega) ?_)
  rw [S_size] at r9
  rw [be1 _ (hl_byte o2), be1 fl ⟨r5.1, by omega⟩]
  have hhd : be 2 fr ++ be 2 dst ++ be 4 sq ++ be 4 ak ++ [(20 + (o.length : Int)) / 4 * 16] ++ [fl] ++ be 2 wi = headB fr dst sq ak fl wi o := by
    simp [headB]
  have htl : be 2 ur ++ o ++ D = tailB ur o D := rfl
  rw [hhd, htl]
  have hn : wrap64 (wrap64 (((2 + 2 + 4 + 4 + 1 + 1 + 2 : Nat) : Int) + 2) + ((2 + o.length + D.length : Nat) : Int)) = ((zeroB fr dst sq ak fl wi ur o D).length : Int) := by
    rw [zeroB_length, w64 (n := ((2 + 2 + 4 + 4 + 1 + 1 + 2 : Nat) : Int) + 2) (by omega) (by omega), w64 (by omega) (by omega)]
    omega
  rw [hn]
  have hzl := zeroB_length fr dst sq ak fl wi ur o D
  refine Ev.bind (Pseudo_is a b 6 _ ha hb (by omega) (by omega)) (Ev.bind (snum2 0 (by omega)) ?_)
  have hflat : flat [strOfNums (pseudoB a b 6 (zeroB fr dst sq ak fl wi ur o D).length), strOfNums (headB fr dst sq ak fl wi o), strOfNums (be 2 0), strOfNums (tailB ur o D)] = pseudoB a b 6 (zeroB fr dst sq ak fl wi ur o D).length ++ zeroB fr dst sq ak fl wi ur o D := by
    simp only [flat, List.flatMap_cons, List.flatMap_nil, List.append_nil]
    rw [bytes_S _ (pseudo_bytes _ _ _ _), bytes_S _ (head_bytes o2 r5), bytes_S _ (be_bytes _ _), bytes_S (tailB ur o D) (by rw [← hDD]; exact tail_bytes ob)]
    simp [zeroB, be20]
  have hOf := Of_is [strOfNums (pseudoB a b 6 (zeroB fr dst sq ak fl wi ur o D).length), strOfNums (headB fr dst sq ak fl wi o), strOfNums (be 2 0), strOfNums (tailB ur o D)] (by rw [hflat, List.length_append, pseudoB_length]; omega) (by simp)
  rw [hflat] at hOf
  refine Ev.bind hOf ?_
  have hsum := sumB_range a b fr dst sq ak fl wi ur o D
  refine Ev.bind (snum2 _ hsum) ?_
  simp only [S_app, S_size, List.length_append, be_length, headB_length]
  refine evp (by omega) (evp (by omega) ?_)
  exact Ev.now _
theorem refBytes_is (ha : okNum a) (hb : okNum b) (hs : segCode fr dst sq ak fl wi ur mss scale stamp echo scaled ok st l d = 0) :
    Ev (fun k => sternpostref08_Bytes.f k a b fr dst sq ak fl wi ur mss scale stamp echo scaled ok st l d) (strOfNums (segB a b fr dst sq ak fl wi ur (pad (bareB mss scale stamp echo scaled ok st l)) (bytesOf d))) := by
  obtain ⟨r1, r2, r3, r4, r5, r6, r7, r8, r9⟩ := segCode_ok _ _ _ _ _ _ _ _ _ _ _ _ _ _ _ _ hs
  obtain ⟨o1, o2⟩ := optsCode_ok _ _ _ _ _ _ _ _ r8
  have ob := pad_bytes (bareB_bytes mss scale stamp echo scaled ok st l o1.2.2.2.2.1)
  simp only [sternpostref08_Bytes.f]
  refine Ev.bind (rBytes_is mss scale stamp echo scaled ok st l o1) ?_
  generalize pad (bareB mss scale stamp echo scaled ok st l) = o at o2 ob
  have hD := bytesOf_length d
  have hsd : d = strOfNums (bytesOf d) := (S_bytes d).symm
  have bd := bytes_is d
  have tb := fun ur => tail_bytes (ur := ur) (d := d) ob
  generalize hDD : bytesOf d = D at hD hsd bd tb
  subst hsd
  rw [S_size] at r9
  refine Ev.bind (text2 fr) (Ev.bind (text2 dst) (evp (by simp only [S_size, be_length]; omega) (Ev.bind (text4 sq) ?_)))
  simp only [S_app, S_size, List.length_append, be_length]
  refine evp (by omega) (Ev.bind (text4 ak) ?_)
  simp only [S_app, S_size, List.length_append, be_length]
  rw [hl_is o2, show (20 + (o.length : Int)) / 4 * 16 % 256 = (20 + (o.length : Int)) / 4 * 16 from by omega, show fl % 256 = fl from by omega]
  simp only [Option.bind_some]
  refine evp (by simp) (Ev.bind (text2 wi) ?_)
  simp only [S_app, S_size, List.length_append, be_length]
  refine evp (by simp) (evp (by simp) (Ev.bind (text2 ur) ?_))
  have hhd : be 2 fr ++ be 2 dst ++ be 4 sq ++ be 4 ak ++ [(20 + (o.length : Int)) / 4 * 16, fl] ++ be 2 wi = headB fr dst sq ak fl wi o := rfl
  have hz : headB fr dst sq ak fl wi o ++ [0, 0] ++ be 2 ur ++ o ++ D = zeroB fr dst sq ak fl wi ur o D := by simp [zeroB, tailB]
  have h00 : (⟨#[0, 0]⟩ : ByteArray) = strOfNums [0, 0] := rfl
  rw [hhd, h00]
  simp only [S_app, S_size, hz]
  have hzl := zeroB_length fr dst sq ak fl wi ur o D
  have hhl := headB_length fr dst sq ak fl wi o
  have hzb : isBytes (zeroB fr dst sq ak fl wi ur o D) := isBytes_append (isBytes_append (head_bytes o2 r5) (isBytes_cons (by omega) (isBytes_cons (by omega) isBytes_nil))) (tb ur)
  have hz16 : (zeroB fr dst sq ak fl wi ur o D).take 16 = headB fr dst sq ak fl wi o := by
    unfold zeroB
    rw [List.append_assoc, List.take_append_of_le_length (by omega), List.take_of_length_le (by omega)]
  have hz18 : (zeroB fr dst sq ak fl wi ur o D).drop 18 = tailB ur o D := by
    unfold zeroB
    rw [List.drop_append, List.drop_of_length_le (by simp [hhl]), List.nil_append]
    simp [hhl]
  refine evp (by simp [be_length, hhl]) (evp (by simp [be_length, hhl]; omega) (evp (by simp [be_length, hhl]; omega) ?_))
  refine Ev.bind (rPseudo_is a b 6 _ ha hb (by omega) (by omega)) ?_
  refine evp (by omega) (evp (by omega) (evp (by simp only [S_size, pseudoB_length]; omega) ?_))
  simp only [S_app]
  have hSum := Sum_is (strOfNums (pseudoB a b 6 (zeroB fr dst sq ak fl wi ur o D).length ++ zeroB fr dst sq ak fl wi ur o D)) (by rw [S_size, List.length_append, pseudoB_length]; omega)
  rw [bytes_S _ (isBytes_append (pseudo_bytes _ _ _ _) hzb)] at hSum
  refine Ev.bind hSum (Ev.bind (text2 _) ?_)
  simp only [S_extract, List.take_length, hz16, hz18, List.drop_zero, S_size, S_app, List.length_append, be_length]
  refine evp (by omega) (evp (by omega) (evp (by rw [hhl, tailB_length]; omega) ?_))
  exact Ev.now _
theorem refEnc_is : Ev (fun k => sternpostref08_Encode.f k a b fr dst sq ak fl wi ur mss scale stamp echo scaled ok st l d) (encR a b fr dst sq ak fl wi ur mss scale stamp echo scaled ok st l d) := by
  unfold encR
  have j0t : Ev (fun k => sternpostref08_Encode.j0 k a b true fr dst sq ak fl wi ur mss scale stamp echo scaled ok st l d) (strOfNums [], 1) := Ev_succ (by simp only [sternpostref08_Encode.j0]; exact evp (by trivial) (Ev.now _))
  have c1 := chk_le a
  have c2 := chk_le b
  simp only [sternpostref08_Encode.f]
  refine evc (ref01_Check_is _) ?_
  by_cases h1 : chk a = 0
  case neg => rw [if_pos (.inl h1)]; exact evn h1 j0t
  refine evp h1 (evc (ref01_Check_is _) ?_)
  by_cases h2 : chk b = 0
  case neg =>
    rw [if_pos (.inr h2), show (chk b != 0) = true from by simp [h2]]
    exact j0t
  rw [if_neg (by omega), show (chk b != 0) = false from by simp [h2]]
  refine Ev_succ ?_
  simp only [sternpostref08_Encode.j0]
  refine evn (by simp) (Ev.bind (refCheck_is fr dst sq ak fl wi ur mss scale stamp echo scaled ok st l d) ?_)
  by_cases hs : segCode fr dst sq ak fl wi ur mss scale stamp echo scaled ok st l d = 0
  case neg => rw [if_pos hs]; exact evn hs (Ev.now _)
  rw [if_neg (by omega)]
  exact evp hs (Ev.bind (refBytes_is (chk_zero.1 h1) (chk_zero.1 h2) hs) (Ev.now _))
end
end Go.Proofs.Ytnhoadmgoaenpaa.Pure
