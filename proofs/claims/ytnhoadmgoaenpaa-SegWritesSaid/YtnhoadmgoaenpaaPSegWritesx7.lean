-- Laid by a program of this session (the print, changed: wip/pp.py). Not trusted: Lean checks it.
import Derived.Test.YtnhoadmgoaenpaaPSegWritesx0
import Derived.Test.YtnhoadmgoaenpaaPSegWritesx5
import Derived.Test.YtnhoadmgoaenpaaPSegWritesx6
namespace Go.Proofs.Ytnhoadmgoaenpaa.PSegWrites
open Go.RowKit Go.Proofs.YtnhoadmgoaenpaaW.PrintWords Go.Proofs.YtnhoadmgoaenpaaW.PrintLast Go.Proofs.YtnhoadmgoaenpaaW.PrintMore
attribute [local go_sem] max2_int min2_int max_two min_two max_three min_three max_four min_four max_five min_five max_six min_six max_seven min_seven   -- for this text's walks alone
set_option linter.unusedVariables false
set_option linter.unusedSimpArgs false

/-! ### seg_Encode: function 6 -/
def seg_Encode.f (k : Nat) (a0 : Int) (a1 : Int) (a2_0 : Int) (a2_1 : Int) (a2_2 : Int) (a2_3 : Int) (a2_4 : Int) (a2_5 : Int) (a2_6 : Int) (a2_7 : Int) (a2_8 : Int) (a2_9 : Int) (a2_10 : Int) (a2_11 : Bool) (a2_12 : Bool) (a2_13 : Bool) (l2_14 : List (S68)) (a2_15 : ByteArray) : Option (ByteArray × Int) := (seg_addresses.f a0 a1).bind fun t167 => (if t167 = 0 then ((seg_Check.f k a2_0 a2_1 a2_2 a2_3 a2_4 a2_5 a2_6 a2_7 a2_8 a2_9 a2_10 a2_11 a2_12 a2_13 l2_14 a2_15).bind fun t168 => (if t168 = 0 then ((opts_Encode.f k a2_7 a2_8 a2_9 a2_10 a2_11 a2_12 a2_13 l2_14).bind fun bt169 => ((seg_num.f k a2_0 2).bind fun t171 => ((seg_num.f k a2_1 2).bind fun t172 => (if t171.size + t172.size ≤ 9223372036854775807 then ((seg_num.f k a2_2 4).bind fun t173 => (if (t171 ++ t172).size + t173.size ≤ 9223372036854775807 then ((seg_num.f k a2_3 4).bind fun t174 => (if ((t171 ++ t172) ++ t173).size + t174.size ≤ 9223372036854775807 then ((seg_num.f k (wrap64 ((wrap64 (Int.tdiv (wrap64 (20 + (bt169.1.size : Int))) 4)) * 16)) 1).bind fun t175 => (if (((t171 ++ t172) ++ t173) ++ t174).size + t175.size ≤ 9223372036854775807 then ((seg_num.f k a2_4 1).bind fun t176 => (if ((((t171 ++ t172) ++ t173) ++ t174) ++ t175).size + t176.size ≤ 9223372036854775807 then ((seg_num.f k a2_5 2).bind fun t177 => (if (((((t171 ++ t172) ++ t173) ++ t174) ++ t175) ++ t176).size + t177.size ≤ 9223372036854775807 then ((seg_num.f k a2_6 2).bind fun t178 => (if t178.size + bt169.1.size ≤ 9223372036854775807 then (if (t178 ++ bt169.1).size + a2_15.size ≤ 9223372036854775807 then ((sum_Pseudo.f k a0 a1 6 (wrap64 ((wrap64 ((((((((t171 ++ t172) ++ t173) ++ t174) ++ t175) ++ t176) ++ t177).size : Int) + 2)) + (((t178 ++ bt169.1) ++ a2_15).size : Int)))).bind fun bt179 => ((seg_num.f k 0 2).bind fun t181 => ((sum_Of.f k (([bt179.1, (((((t171 ++ t172) ++ t173) ++ t174) ++ t175) ++ t176) ++ t177, t181, (t178 ++ bt169.1) ++ a2_15] : List ByteArray))).bind fun bt185 => ((seg_num.f k bt185.1 2).bind fun t187 => (if ((((((t171 ++ t172) ++ t173) ++ t174) ++ t175) ++ t176) ++ t177).size + t187.size ≤ 9223372036854775807 then (if (((((((t171 ++ t172) ++ t173) ++ t174) ++ t175) ++ t176) ++ t177) ++ t187).size + ((t178 ++ bt169.1) ++ a2_15).size ≤ 9223372036854775807 then (some ((((((((t171 ++ t172) ++ t173) ++ t174) ++ t175) ++ t176) ++ t177) ++ t187) ++ ((t178 ++ bt169.1) ++ a2_15), bt185.2)) else (none)) else (none)))))) else (none)) else (none))) else (none))) else (none))) else (none))) else (none))) else (none))) else (none))))) else (some ((⟨#[]⟩ : ByteArray), t168)))) else (some ((⟨#[]⟩ : ByteArray), t167)))
theorem seg_Encode.mono : ∀ a0 a1 a2 a3 a4 a5 a6 a7 a8 a9 a10 a11 a12 a13 a14 a15 a16 a17 k, LeO (seg_Encode.f k a0 a1 a2 a3 a4 a5 a6 a7 a8 a9 a10 a11 a12 a13 a14 a15 a16 a17) (seg_Encode.f (k + 1) a0 a1 a2 a3 a4 a5 a6 a7 a8 a9 a10 a11 a12 a13 a14 a15 a16 a17) := by
 intro a0 a1 a2 a3 a4 a5 a6 a7 a8 a9 a10 a11 a12 a13 a14 a15 a16 a17 k
 unfold seg_Encode.f
 repeat' first
  | (with_reducible exact opts_Encode.mono _ _ _ _ _ _ _ _ _)
  | (with_reducible exact seg_Check.mono _ _ _ _ _ _ _ _ _ _ _ _ _ _ _ _ _)
  | (with_reducible exact seg_num.mono _ _ _)
  | (with_reducible exact sum_Of.mono _ _)
  | (with_reducible exact sum_Pseudo.mono _ _ _ _ _)
  | (with_reducible exact LeO.refl _)
  | (with_reducible exact LeO.none _)
  | (with_reducible refine LeO.ite ?_ ?_)
  | (with_reducible refine LeO.bind ?_ (fun _ => ?_))
  | exact opts_Encode.mono _ _ _ _ _ _ _ _ _
  | exact seg_Check.mono _ _ _ _ _ _ _ _ _ _ _ _ _ _ _ _ _
  | exact seg_num.mono _ _ _
  | exact sum_Of.mono _ _
  | exact sum_Pseudo.mono _ _ _ _ _
  | exact LeO.none _
  | refine LeO.ite ?_ ?_
  | refine LeO.bind ?_ (fun _ => ?_)
def seg_Encode.T8 : Bool × List (List Nat × List Nat) := (true, [([], []), ([0], [0]), ([1], [1]), ([], []), ([3], [3]), ([4, 2], [4]), ([2, 5], [2, 5]), ([], []), ([7], [7]), ([8, 5], [8]), ([6, 9], [6, 9]), ([], []), ([11], [11]), ([12, 9], [12]), ([10, 13], [10, 13]), ([], []), ([15], [15]), ([16], [16]), ([17], [17]), ([18], [18]), ([19, 13], [19]), ([14, 20], [14, 20]), ([], []), ([22], [22]), ([23, 20], [23]), ([21, 24], [21, 24]), ([], []), ([26], [26]), ([27, 24], [27]), ([25, 28], [25, 28]), ([29, 28, 0, 1, 2, 3, 4, 5, 6, 7, 8, 9, 10, 11, 12, 13, 14, 15, 16, 17, 18, 19, 20, 21, 22, 23, 24, 25, 26, 27, 28, 29], [29])])
def seg_Encode.B8 : List Nat := [0, 1, 3, 0, 8, 31, 63, 0, 128, 447, 1023, 0, 2048, 7103, 16383, 0, 32768, 98304, 229376, 491520, 1031103, 2097151, 0, 4194304, 14662591, 33554431, 0, 67108864, 232766399, 536870911, 1073741823]
theorem seg_Encode.tab8 : rtab .any (opsOf Try.f6 8) = seg_Encode.T8 := by kernel_rfl
theorem seg_Encode.bits8 : waitsOk seg_Encode.T8.2 seg_Encode.B8 = true := by kernel_rfl
def seg_Encode.T9 : Bool × List (List Nat × List Nat) := (true, [([], []), ([0], [0]), ([1], [1]), ([], []), ([2, 3], [2, 3]), ([], []), ([5], [5]), ([4, 6], [4, 6]), ([7, 2, 0, 1, 2, 3, 4, 5, 6, 7], [7])])
def seg_Encode.B9 : List Nat := [0, 1, 3, 0, 15, 0, 32, 127, 255]
theorem seg_Encode.tab9 : rtab .any (opsOf Try.f6 9) = seg_Encode.T9 := by kernel_rfl
theorem seg_Encode.bits9 : waitsOk seg_Encode.T9.2 seg_Encode.B9 = true := by kernel_rfl
set_option maxHeartbeats 8000000 in
set_option maxRecDepth 100000 in
theorem seg_Encode.calls (k : Nat) (a0 : Int) (a1 : Int) (a2_0 : Int) (a2_1 : Int) (a2_2 : Int) (a2_3 : Int) (a2_4 : Int) (a2_5 : Int) (a2_6 : Int) (a2_7 : Int) (a2_8 : Int) (a2_9 : Int) (a2_10 : Int) (a2_11 : Bool) (a2_12 : Bool) (a2_13 : Bool) (A2_14 : Option Addr) (c2_14 : Nat) (l2_14 : List (S68)) (a2_15 : ByteArray) (r1 : ByteArray) (r2 : Int) (w : World) (hr2_14 : Kd.C k68 w A2_14 l2_14.length l2_14) (hc2_14 : l2_14.length ≤ c2_14) (h : seg_Encode.f k a0 a1 a2_0 a2_1 a2_2 a2_3 a2_4 a2_5 a2_6 a2_7 a2_8 a2_9 a2_10 a2_11 a2_12 a2_13 l2_14 a2_15 = some (r1, r2)) :
 Calls Try.prog 6 #[.int .i64 a0, .int .i64 a1, .agg #[.int .i64 a2_0, .int .i64 a2_1, .int .i64 a2_2, .int .i64 a2_3, .int .i64 a2_4, .int .i64 a2_5, .int .i64 a2_6, .int .i64 a2_7, .int .i64 a2_8, .int .i64 a2_9, .int .i64 a2_10, .bool a2_11, .bool a2_12, .bool a2_13, .slice A2_14 l2_14.length c2_14, .string a2_15]] w fun e w' => e = .returned (.tuple #[.string r1, .int .i64 r2]) ∧ Below w.heap.size w w' := by
 have hu28 := Try.underlying28
 have hu26 := Try.underlying26
 have HR2_14 := Aside0.mk hr2_14; have HC2_14 := Aside0.mk hc2_14; clear hr2_14 hc2_14
 have HB := Aside0.mk (Below.refl w.heap.size w)
 have H : ((seg_addresses.f a0 a1).bind fun t167 => (if t167 = 0 then ((seg_Check.f k a2_0 a2_1 a2_2 a2_3 a2_4 a2_5 a2_6 a2_7 a2_8 a2_9 a2_10 a2_11 a2_12 a2_13 l2_14 a2_15).bind fun t168 => (if t168 = 0 then ((opts_Encode.f k a2_7 a2_8 a2_9 a2_10 a2_11 a2_12 a2_13 l2_14).bind fun bt169 => ((seg_num.f k a2_0 2).bind fun t171 => ((seg_num.f k a2_1 2).bind fun t172 => (if t171.size + t172.size ≤ 9223372036854775807 then ((seg_num.f k a2_2 4).bind fun t173 => (if (t171 ++ t172).size + t173.size ≤ 9223372036854775807 then ((seg_num.f k a2_3 4).bind fun t174 => (if ((t171 ++ t172) ++ t173).size + t174.size ≤ 9223372036854775807 then ((seg_num.f k (wrap64 ((wrap64 (Int.tdiv (wrap64 (20 + (bt169.1.size : Int))) 4)) * 16)) 1).bind fun t175 => (if (((t171 ++ t172) ++ t173) ++ t174).size + t175.size ≤ 9223372036854775807 then ((seg_num.f k a2_4 1).bind fun t176 => (if ((((t171 ++ t172) ++ t173) ++ t174) ++ t175).size + t176.size ≤ 9223372036854775807 then ((seg_num.f k a2_5 2).bind fun t177 => (if (((((t171 ++ t172) ++ t173) ++ t174) ++ t175) ++ t176).size + t177.size ≤ 9223372036854775807 then ((seg_num.f k a2_6 2).bind fun t178 => (if t178.size + bt169.1.size ≤ 9223372036854775807 then (if (t178 ++ bt169.1).size + a2_15.size ≤ 9223372036854775807 then ((sum_Pseudo.f k a0 a1 6 (wrap64 ((wrap64 ((((((((t171 ++ t172) ++ t173) ++ t174) ++ t175) ++ t176) ++ t177).size : Int) + 2)) + (((t178 ++ bt169.1) ++ a2_15).size : Int)))).bind fun bt179 => ((seg_num.f k 0 2).bind fun t181 => ((sum_Of.f k (([bt179.1, (((((t171 ++ t172) ++ t173) ++ t174) ++ t175) ++ t176) ++ t177, t181, (t178 ++ bt169.1) ++ a2_15] : List ByteArray))).bind fun bt185 => ((seg_num.f k bt185.1 2).bind fun t187 => (if ((((((t171 ++ t172) ++ t173) ++ t174) ++ t175) ++ t176) ++ t177).size + t187.size ≤ 9223372036854775807 then (if (((((((t171 ++ t172) ++ t173) ++ t174) ++ t175) ++ t176) ++ t177) ++ t187).size + ((t178 ++ bt169.1) ++ a2_15).size ≤ 9223372036854775807 then (some ((((((((t171 ++ t172) ++ t173) ++ t174) ++ t175) ++ t176) ++ t177) ++ t187) ++ ((t178 ++ bt169.1) ++ a2_15), bt185.2)) else (none)) else (none)))))) else (none)) else (none))) else (none))) else (none))) else (none))) else (none))) else (none))) else (none))))) else (some ((⟨#[]⟩ : ByteArray), t168)))) else (some ((⟨#[]⟩ : ByteArray), t167)))) = some (r1, r2) := h
 clear h; replace H := Option.bind_eq_some_iff.mp H; obtain ⟨t167, A40, H⟩ := H; (try dsimp only at H); have A4 := Aside0.mk A40; clear A40
 by_cases c5 : t167 = 0
 rotate_left
 · rw [if_neg c5] at H
   have c5b0 : (t167 == 0) = false := beq_eq_false_iff_ne.mpr c5
   have c5b1 : (t167 != 0) = true := bne_iff_ne.mpr c5
   as_aux_lemma =>
    simp only [Option.some.injEq, Prod.mk.injEq] at H
    obtain ⟨rfl, rfl⟩ := H
    go_enter Try.func6, Try.ntmps6
    go_wp2_with (first | ((with_reducible refine gate_dst (N := 5) rfl ?_); refine box_event ?hg (N := 5) ?hd (cs := #[.int .i64 a2_0, .int .i64 a2_1, .int .i64 a2_2, .int .i64 a2_3, .int .i64 a2_4, .int .i64 a2_5, .int .i64 a2_6, .int .i64 a2_7, .int .i64 a2_8, .int .i64 a2_9, .int .i64 a2_10, .bool a2_11, .bool a2_12, .bool a2_13, .slice A2_14 l2_14.length c2_14, .string a2_15]) (t := 28) ?hr ?_; (case hd => rfl); (case hg => rfl); (case hr => go_simp; first | done | (simp only [IntKind.wrap_u8]; done) | rfl); intro gb166 hg w57 hbox hb; have BK166 := Aside0.mk (hbox); have GW166 := gz_ (be0_ HB) hg; have GE166 := gz_ (be0_ HB) hg; replace HB := bs0_ HB hb; clear hb hbox hg) | ((with_reducible refine gate_callee (f := 20) rfl ?_); refine goesL_ (some 20) rfl rfl Try.func20 (by kernel_rfl) rfl #[.int .i64 a0, .int .i64 a1] rfl ga_ ?_; (with_reducible refine (seg_addresses.calls a0 a1 t167 _ A4.out).mono ?_); rintro e w58 ⟨rfl, hb⟩; refine ⟨_, rfl, ?_⟩; replace BK166 := kb_ BK166 hb; replace HB := bs1_ HB GE166 hb; (try clear hb)))
    go_ret2
    exact ⟨ra_, (be1_ HB GE166)⟩
 rw [if_pos c5] at H
 have c5b0 : (t167 == 0) = true := beq_iff_eq.mpr c5
 have c5b1 : (t167 != 0) = false := bne_eq_false_iff_eq.mpr c5
 clear c5; replace H := Option.bind_eq_some_iff.mp H; obtain ⟨t168, A60, H⟩ := H; (try dsimp only at H); have A6 := Aside0.mk A60; clear A60
 by_cases c7 : t168 = 0
 rotate_left
 · rw [if_neg c7] at H
   have c7b0 : (t168 == 0) = false := beq_eq_false_iff_ne.mpr c7
   have c7b1 : (t168 != 0) = true := bne_iff_ne.mpr c7
   as_aux_lemma =>
    simp only [Option.some.injEq, Prod.mk.injEq] at H
    obtain ⟨rfl, rfl⟩ := H
    go_enter Try.func6, Try.ntmps6
    go_wp2_with (first | ((with_reducible refine gate_dst (N := 5) rfl ?_); refine box_event ?hg (N := 5) ?hd (cs := #[.int .i64 a2_0, .int .i64 a2_1, .int .i64 a2_2, .int .i64 a2_3, .int .i64 a2_4, .int .i64 a2_5, .int .i64 a2_6, .int .i64 a2_7, .int .i64 a2_8, .int .i64 a2_9, .int .i64 a2_10, .bool a2_11, .bool a2_12, .bool a2_13, .slice A2_14 l2_14.length c2_14, .string a2_15]) (t := 28) ?hr ?_; (case hd => rfl); (case hg => rfl); (case hr => go_simp; first | done | (simp only [IntKind.wrap_u8]; done) | rfl); intro gb166 hg w53 hbox hb; have BK166 := Aside0.mk (hbox); have GW166 := gz_ (be0_ HB) hg; have GE166 := gz_ (be0_ HB) hg; replace HB := bs0_ HB hb; clear hb hbox hg) | ((with_reducible refine gate_callee (f := 20) rfl ?_); refine goesL_ (some 20) rfl rfl Try.func20 (by kernel_rfl) rfl #[.int .i64 a0, .int .i64 a1] rfl ga_ ?_; (with_reducible refine (seg_addresses.calls a0 a1 t167 _ A4.out).mono ?_); rintro e w54 ⟨rfl, hb⟩; refine ⟨_, rfl, ?_⟩; replace BK166 := kb_ BK166 hb; replace HB := bs1_ HB GE166 hb; (try clear hb); have hcz55 := cf16 BK166) | ((with_reducible refine gate_callee (f := 8) rfl ?_); refine goesL_ (some 25) rfl rfl Try.func8 (by kernel_rfl) rfl #[.agg #[.int .i64 a2_0, .int .i64 a2_1, .int .i64 a2_2, .int .i64 a2_3, .int .i64 a2_4, .int .i64 a2_5, .int .i64 a2_6, .int .i64 a2_7, .int .i64 a2_8, .int .i64 a2_9, .int .i64 a2_10, .bool a2_11, .bool a2_12, .bool a2_13, .slice A2_14 l2_14.length c2_14, .string a2_15]] rfl ga_ ?_; (with_reducible refine (seg_Check.calls k a2_0 a2_1 a2_2 a2_3 a2_4 a2_5 a2_6 a2_7 a2_8 a2_9 a2_10 a2_11 a2_12 a2_13 _ _ l2_14 a2_15 t168 _ ?side1 ?side2 A6.out).mono ?_); (case side1 => exact cb_ HR2_14 HB); (case side2 => exact HC2_14.out); rintro e w56 ⟨rfl, hb⟩; refine ⟨_, rfl, ?_⟩; replace BK166 := kb_ BK166 hb; replace HB := bs1_ HB GE166 hb; (try clear hb)))
    go_ret2
    exact ⟨ra_, (be1_ HB GE166)⟩
 rw [if_pos c7] at H
 have c7b0 : (t168 == 0) = true := beq_iff_eq.mpr c7
 have c7b1 : (t168 != 0) = false := bne_eq_false_iff_eq.mpr c7
 clear c7; replace H := Option.bind_eq_some_iff.mp H; obtain ⟨⟨t169, t170⟩, A80, H⟩ := H; (try dsimp only at H); have A8 := Aside0.mk A80; clear A80; replace H := Option.bind_eq_some_iff.mp H; obtain ⟨t171, A90, H⟩ := H; (try dsimp only at H); have A9 := Aside0.mk A90; clear A90; replace H := Option.bind_eq_some_iff.mp H; obtain ⟨t172, A100, H⟩ := H; (try dsimp only at H); have A10 := Aside0.mk A100; clear A100
 by_cases c11 : t171.size + t172.size ≤ 9223372036854775807
 rotate_left
 · rw [if_neg c11] at H
   exact absurd H (by simp)
 rw [if_pos c11] at H; have c11b0 := eq_true c11
 have c11b1 : decide (t171.size + t172.size ≤ 9223372036854775807) = true := decide_eq_true c11
 try have c11b2 : (9223372036854775807 < t171.size + t172.size) = False := eq_false (Nat.not_lt.2 c11)
 replace H := Option.bind_eq_some_iff.mp H; obtain ⟨t173, A120, H⟩ := H; (try dsimp only at H); have A12 := Aside0.mk A120; clear A120
 by_cases c13 : (t171 ++ t172).size + t173.size ≤ 9223372036854775807
 rotate_left
 · rw [if_neg c13] at H
   exact absurd H (by simp)
 rw [if_pos c13] at H; have c13b0 := eq_true c13
 have c13b1 : decide ((t171 ++ t172).size + t173.size ≤ 9223372036854775807) = true := decide_eq_true c13
 try have c13b2 : (9223372036854775807 < (t171 ++ t172).size + t173.size) = False := eq_false (Nat.not_lt.2 c13)
 (try (have c13b3 : (9223372036854775807 < t171.size + t172.size + t173.size) = False := by have h_ := c13b2; simp only [ByteArray.size_append, ByteArray.size_extract, Nat.min_self, Nat.sub_zero] at h_; with_reducible exact h_))
 replace H := Option.bind_eq_some_iff.mp H; obtain ⟨t174, A140, H⟩ := H; (try dsimp only at H); have A14 := Aside0.mk A140; clear A140
 by_cases c15 : ((t171 ++ t172) ++ t173).size + t174.size ≤ 9223372036854775807
 rotate_left
 · rw [if_neg c15] at H
   exact absurd H (by simp)
 rw [if_pos c15] at H; have c15b0 := eq_true c15
 have c15b1 : decide (((t171 ++ t172) ++ t173).size + t174.size ≤ 9223372036854775807) = true := decide_eq_true c15
 try have c15b2 : (9223372036854775807 < ((t171 ++ t172) ++ t173).size + t174.size) = False := eq_false (Nat.not_lt.2 c15)
 (try (have c15b3 : (9223372036854775807 < t171.size + t172.size + t173.size + t174.size) = False := by have h_ := c15b2; simp only [ByteArray.size_append, ByteArray.size_extract, Nat.min_self, Nat.sub_zero] at h_; with_reducible exact h_))
 replace H := Option.bind_eq_some_iff.mp H; obtain ⟨t175, A160, H⟩ := H; (try dsimp only at H); have A16 := Aside0.mk A160; clear A160
 by_cases c17 : (((t171 ++ t172) ++ t173) ++ t174).size + t175.size ≤ 9223372036854775807
 rotate_left
 · rw [if_neg c17] at H
   exact absurd H (by simp)
 rw [if_pos c17] at H; have c17b0 := eq_true c17
 have c17b1 : decide ((((t171 ++ t172) ++ t173) ++ t174).size + t175.size ≤ 9223372036854775807) = true := decide_eq_true c17
 try have c17b2 : (9223372036854775807 < (((t171 ++ t172) ++ t173) ++ t174).size + t175.size) = False := eq_false (Nat.not_lt.2 c17)
 (try (have c17b3 : (9223372036854775807 < t171.size + t172.size + t173.size + t174.size + t175.size) = False := by have h_ := c17b2; simp only [ByteArray.size_append, ByteArray.size_extract, Nat.min_self, Nat.sub_zero] at h_; with_reducible exact h_))
 replace H := Option.bind_eq_some_iff.mp H; obtain ⟨t176, A180, H⟩ := H; (try dsimp only at H); have A18 := Aside0.mk A180; clear A180
 by_cases c19 : ((((t171 ++ t172) ++ t173) ++ t174) ++ t175).size + t176.size ≤ 9223372036854775807
 rotate_left
 · rw [if_neg c19] at H
   exact absurd H (by simp)
 rw [if_pos c19] at H; have c19b0 := eq_true c19
 have c19b1 : decide (((((t171 ++ t172) ++ t173) ++ t174) ++ t175).size + t176.size ≤ 9223372036854775807) = true := decide_eq_true c19
 try have c19b2 : (9223372036854775807 < ((((t171 ++ t172) ++ t173) ++ t174) ++ t175).size + t176.size) = False := eq_false (Nat.not_lt.2 c19)
 (try (have c19b3 : (9223372036854775807 < t171.size + t172.size + t173.size + t174.size + t175.size + t176.size) = False := by have h_ := c19b2; simp only [ByteArray.size_append, ByteArray.size_extract, Nat.min_self, Nat.sub_zero] at h_; with_reducible exact h_))
 replace H := Option.bind_eq_some_iff.mp H; obtain ⟨t177, A200, H⟩ := H; (try dsimp only at H); have A20 := Aside0.mk A200; clear A200
 by_cases c21 : (((((t171 ++ t172) ++ t173) ++ t174) ++ t175) ++ t176).size + t177.size ≤ 9223372036854775807
 rotate_left
 · rw [if_neg c21] at H
   exact absurd H (by simp)
 rw [if_pos c21] at H; have c21b0 := eq_true c21
 have c21b1 : decide ((((((t171 ++ t172) ++ t173) ++ t174) ++ t175) ++ t176).size + t177.size ≤ 9223372036854775807) = true := decide_eq_true c21
 try have c21b2 : (9223372036854775807 < (((((t171 ++ t172) ++ t173) ++ t174) ++ t175) ++ t176).size + t177.size) = False := eq_false (Nat.not_lt.2 c21)
 (try (have c21b3 : (9223372036854775807 < t171.size + t172.size + t173.size + t174.size + t175.size + t176.size + t177.size) = False := by have h_ := c21b2; simp only [ByteArray.size_append, ByteArray.size_extract, Nat.min_self, Nat.sub_zero] at h_; with_reducible exact h_))
 replace H := Option.bind_eq_some_iff.mp H; obtain ⟨t178, A220, H⟩ := H; (try dsimp only at H); have A22 := Aside0.mk A220; clear A220
 by_cases c23 : t178.size + t169.size ≤ 9223372036854775807
 rotate_left
 · rw [if_neg c23] at H
   exact absurd H (by simp)
 rw [if_pos c23] at H; have c23b0 := eq_true c23
 have c23b1 : decide (t178.size + t169.size ≤ 9223372036854775807) = true := decide_eq_true c23
 try have c23b2 : (9223372036854775807 < t178.size + t169.size) = False := eq_false (Nat.not_lt.2 c23)
 by_cases c24 : (t178 ++ t169).size + a2_15.size ≤ 9223372036854775807
 rotate_left
 · rw [if_neg c24] at H
   exact absurd H (by simp)
 rw [if_pos c24] at H; have c24b0 := eq_true c24
 have c24b1 : decide ((t178 ++ t169).size + a2_15.size ≤ 9223372036854775807) = true := decide_eq_true c24
 try have c24b2 : (9223372036854775807 < (t178 ++ t169).size + a2_15.size) = False := eq_false (Nat.not_lt.2 c24)
 (try (have c24b3 : (9223372036854775807 < t178.size + t169.size + a2_15.size) = False := by have h_ := c24b2; simp only [ByteArray.size_append, ByteArray.size_extract, Nat.min_self, Nat.sub_zero] at h_; with_reducible exact h_))
 replace H := Option.bind_eq_some_iff.mp H; obtain ⟨⟨t179, t180⟩, A250, H⟩ := H; (try dsimp only at H); have A25 := Aside0.mk A250; clear A250; replace H := Option.bind_eq_some_iff.mp H; obtain ⟨t181, A260, H⟩ := H; (try dsimp only at H); have A26 := Aside0.mk A260; clear A260
 obtain ⟨y182, hy182⟩ : ∃ y_ : List ByteArray, y_ = (([t179, (((((t171 ++ t172) ++ t173) ++ t174) ++ t175) ++ t176) ++ t177, t181, (t178 ++ t169) ++ a2_15] : List ByteArray)) := ⟨_, rfl⟩
 replace H : ((sum_Of.f k y182).bind fun bt185 => ((seg_num.f k bt185.1 2).bind fun t187 => (if ((((((t171 ++ t172) ++ t173) ++ t174) ++ t175) ++ t176) ++ t177).size + t187.size ≤ 9223372036854775807 then (if (((((((t171 ++ t172) ++ t173) ++ t174) ++ t175) ++ t176) ++ t177) ++ t187).size + ((t178 ++ t169) ++ a2_15).size ≤ 9223372036854775807 then (some ((((((((t171 ++ t172) ++ t173) ++ t174) ++ t175) ++ t176) ++ t177) ++ t187) ++ ((t178 ++ t169) ++ a2_15), bt185.2)) else (none)) else (none)))) = some (r1, r2) := by first | (rw [hy182]; with_reducible exact H) | (have H2_ := (Option.bind_some _ _).symm.trans H; rw [hy182]; with_reducible exact H2_) | (have H2_ := (Option.bind_some _ _).symm.trans H; with_reducible exact H2_) | with_reducible exact H | (rw [hy182]; exact H) | exact H
 have Ny182 := Aside0.mk hy182; clear hy182; replace H := Option.bind_eq_some_iff.mp H; obtain ⟨⟨t185, t186⟩, A270, H⟩ := H; (try dsimp only at H); have A27 := Aside0.mk A270; clear A270; replace H := Option.bind_eq_some_iff.mp H; obtain ⟨t187, A280, H⟩ := H; (try dsimp only at H); have A28 := Aside0.mk A280; clear A280
 by_cases c29 : ((((((t171 ++ t172) ++ t173) ++ t174) ++ t175) ++ t176) ++ t177).size + t187.size ≤ 9223372036854775807
 rotate_left
 · rw [if_neg c29] at H
   exact absurd H (by simp)
 rw [if_pos c29] at H; have c29b0 := eq_true c29
 have c29b1 : decide (((((((t171 ++ t172) ++ t173) ++ t174) ++ t175) ++ t176) ++ t177).size + t187.size ≤ 9223372036854775807) = true := decide_eq_true c29
 try have c29b2 : (9223372036854775807 < ((((((t171 ++ t172) ++ t173) ++ t174) ++ t175) ++ t176) ++ t177).size + t187.size) = False := eq_false (Nat.not_lt.2 c29)
 (try (have c29b3 : (9223372036854775807 < t171.size + t172.size + t173.size + t174.size + t175.size + t176.size + t177.size + t187.size) = False := by have h_ := c29b2; simp only [ByteArray.size_append, ByteArray.size_extract, Nat.min_self, Nat.sub_zero] at h_; with_reducible exact h_))
 by_cases c30 : (((((((t171 ++ t172) ++ t173) ++ t174) ++ t175) ++ t176) ++ t177) ++ t187).size + ((t178 ++ t169) ++ a2_15).size ≤ 9223372036854775807
 rotate_left
 · rw [if_neg c30] at H
   exact absurd H (by simp)
 rw [if_pos c30] at H; have c30b0 := eq_true c30
 have c30b1 : decide ((((((((t171 ++ t172) ++ t173) ++ t174) ++ t175) ++ t176) ++ t177) ++ t187).size + ((t178 ++ t169) ++ a2_15).size ≤ 9223372036854775807) = true := decide_eq_true c30
 try have c30b2 : (9223372036854775807 < (((((((t171 ++ t172) ++ t173) ++ t174) ++ t175) ++ t176) ++ t177) ++ t187).size + ((t178 ++ t169) ++ a2_15).size) = False := eq_false (Nat.not_lt.2 c30)
 (try (have c30b3 : (9223372036854775807 < t171.size + t172.size + t173.size + t174.size + t175.size + t176.size + t177.size + t187.size + (t178.size + t169.size + a2_15.size)) = False := by have h_ := c30b2; simp only [ByteArray.size_append, ByteArray.size_extract, Nat.min_self, Nat.sub_zero] at h_; with_reducible exact h_))
 as_aux_lemma =>
  simp only [Option.some.injEq, Prod.mk.injEq] at H
  obtain ⟨rfl, rfl⟩ := H
  go_enter Try.func6, Try.ntmps6
  try go_wp2_with (first | ((with_reducible refine gate_dst (N := 5) rfl ?_); refine box_event ?hg (N := 5) ?hd (cs := #[.int .i64 a2_0, .int .i64 a2_1, .int .i64 a2_2, .int .i64 a2_3, .int .i64 a2_4, .int .i64 a2_5, .int .i64 a2_6, .int .i64 a2_7, .int .i64 a2_8, .int .i64 a2_9, .int .i64 a2_10, .bool a2_11, .bool a2_12, .bool a2_13, .slice A2_14 l2_14.length c2_14, .string a2_15]) (t := 28) ?hr ?_; (case hd => rfl); (case hg => rfl); (case hr => go_simp; first | done | (simp only [IntKind.wrap_u8]; done) | rfl); intro gb166 hg w31 hbox hb; have BK166 := Aside0.mk (hbox); have GW166 := gz_ (be0_ HB) hg; have GE166 := gz_ (be0_ HB) hg; replace HB := bs0_ HB hb; clear hb hbox hg) | ((with_reducible refine gate_callee (f := 20) rfl ?_); refine goesL_ (some 20) rfl rfl Try.func20 (by kernel_rfl) rfl #[.int .i64 a0, .int .i64 a1] rfl ga_ ?_; (with_reducible refine (seg_addresses.calls a0 a1 t167 _ A4.out).mono ?_); rintro e w32 ⟨rfl, hb⟩; refine ⟨_, rfl, ?_⟩; replace BK166 := kb_ BK166 hb; replace HB := bs1_ HB GE166 hb; (try clear hb); have hcz33 := cf16 BK166) | ((with_reducible refine gate_callee (f := 8) rfl ?_); refine goesL_ (some 25) rfl rfl Try.func8 (by kernel_rfl) rfl #[.agg #[.int .i64 a2_0, .int .i64 a2_1, .int .i64 a2_2, .int .i64 a2_3, .int .i64 a2_4, .int .i64 a2_5, .int .i64 a2_6, .int .i64 a2_7, .int .i64 a2_8, .int .i64 a2_9, .int .i64 a2_10, .bool a2_11, .bool a2_12, .bool a2_13, .slice A2_14 l2_14.length c2_14, .string a2_15]] rfl ga_ ?_; (with_reducible refine (seg_Check.calls k a2_0 a2_1 a2_2 a2_3 a2_4 a2_5 a2_6 a2_7 a2_8 a2_9 a2_10 a2_11 a2_12 a2_13 _ _ l2_14 a2_15 t168 _ ?side1 ?side2 A6.out).mono ?_); (case side1 => exact cb_ HR2_14 HB); (case side2 => exact HC2_14.out); rintro e w34 ⟨rfl, hb⟩; refine ⟨_, rfl, ?_⟩; replace BK166 := kb_ BK166 hb; replace HB := bs1_ HB GE166 hb; (try clear hb); have hcz35 := cf16 BK166) | ((with_reducible refine gate_callee (f := 21) rfl ?_); refine goesL_ (some 32) rfl rfl Try.func21 (by kernel_rfl) rfl #[.agg #[.int .i64 a2_7, .int .i64 a2_8, .int .i64 a2_9, .int .i64 a2_10, .bool a2_11, .bool a2_12, .bool a2_13, .slice A2_14 l2_14.length c2_14]] rfl ga_ ?_; (with_reducible refine (opts_Encode.calls k a2_7 a2_8 a2_9 a2_10 a2_11 a2_12 a2_13 _ _ l2_14 t169 t170 _ ?side1 ?side2 A8.out).mono ?_); (case side1 => exact cb_ HR2_14 HB); (case side2 => exact HC2_14.out); rintro e w36 ⟨rfl, hb⟩; refine ⟨_, rfl, ?_⟩; replace BK166 := kb_ BK166 hb; replace HB := bs1_ HB GE166 hb; (try clear hb)))
  replace BK166 := Aside0.mk (blk_drew BK166.out); replace HB := Aside0.mk (below_drew1 HB.out)
  refine start_ (n := 31) (S := fun w' => w'.cell? ⟨gb166, 0, none⟩ = some (.int .i64 a2_0) ∧ w'.cell? ⟨gb166, 1, none⟩ = some (.int .i64 a2_1) ∧ w'.cell? ⟨gb166, 2, none⟩ = some (.int .i64 a2_2) ∧ w'.cell? ⟨gb166, 3, none⟩ = some (.int .i64 a2_3) ∧ w'.cell? ⟨gb166, 4, none⟩ = some (.int .i64 a2_4) ∧ w'.cell? ⟨gb166, 5, none⟩ = some (.int .i64 a2_5) ∧ w'.cell? ⟨gb166, 6, none⟩ = some (.int .i64 a2_6) ∧ w'.cell? ⟨gb166, 7, none⟩ = some (.int .i64 a2_7) ∧ w'.cell? ⟨gb166, 8, none⟩ = some (.int .i64 a2_8) ∧ w'.cell? ⟨gb166, 9, none⟩ = some (.int .i64 a2_9) ∧ w'.cell? ⟨gb166, 10, none⟩ = some (.int .i64 a2_10) ∧ w'.cell? ⟨gb166, 11, none⟩ = some (.bool a2_11) ∧ w'.cell? ⟨gb166, 12, none⟩ = some (.bool a2_12) ∧ w'.cell? ⟨gb166, 13, none⟩ = some (.bool a2_13) ∧ w'.cell? ⟨gb166, 14, none⟩ = some (.slice A2_14 l2_14.length c2_14) ∧ w'.cell? ⟨gb166, 15, none⟩ = some (.string a2_15)) (ds := []) (bz 31 0) (by kernel_rfl) rfl rfl ⟨bc BK166 0, bc BK166 1, bc BK166 2, bc BK166 3, bc BK166 4, bc BK166 5, bc BK166 6, bc BK166 7, bc BK166 8, bc BK166 9, bc BK166 10, bc BK166 11, bc BK166 12, bc BK166 13, bc BK166 14, bc BK166 15⟩ (fun hHeld => ?_); refine with_tabW seg_Encode.tab8 seg_Encode.bits8 (fun HT_ HW_ => ?_)
  generalize w36.drew = w37 at BK166 HB hHeld ⊢
  refine pure_ (i := 0) (N := some 35) (v := ?_) (a' := ?_) (bz 31 1) rfl rfl (any_of HT_.out (by kernel_rfl)) (fun _ _ _ h => h) (Or.inl ⟨by rfl, ?_⟩) ?_ ?_
  rotate_left
  · intro w'; go_simp; (with_reducible rfl)
  rotate_left
  · simp only [Act.put, s_0, s_1, s_2, i64_w, i32_w]; rfl
  refine pure_ (i := 3) (N := some 38) (v := ?_) (a' := ?_) (bz 31 9) rfl rfl (any_of HT_.out (by kernel_rfl)) (fun _ _ _ h => h) (Or.inl ⟨by rfl, ?_⟩) ?_ ?_
  rotate_left
  · intro w'; go_simp; (with_reducible rfl)
  rotate_left
  · simp only [Act.put, s_0, s_1, s_2, i64_w, i32_w]; rfl
  refine pure_ (i := 7) (N := some 42) (v := ?_) (a' := ?_) (bz 31 137) rfl rfl (any_of HT_.out (by kernel_rfl)) (fun _ _ _ h => h) (Or.inl ⟨by rfl, ?_⟩) ?_ ?_
  rotate_left
  · intro w'; go_simp; (with_reducible rfl)
  rotate_left
  · simp only [Act.put, s_0, s_1, s_2, i64_w, i32_w]; rfl
  refine pure_ (i := 11) (N := some 46) (v := ?_) (a' := ?_) (bz 31 2185) rfl rfl (any_of HT_.out (by kernel_rfl)) (fun _ _ _ h => h) (Or.inl ⟨by rfl, ?_⟩) ?_ ?_
  rotate_left
  · intro w'; go_simp; (with_reducible rfl)
  rotate_left
  · simp only [Act.put, s_0, s_1, s_2, i64_w, i32_w]; rfl
  refine pure_ (i := 15) (N := some 50) (v := ?_) (a' := ?_) (bz 31 34953) rfl rfl (any_of HT_.out (by kernel_rfl)) (fun _ _ _ h => h) (Or.inl ⟨by rfl, ?_⟩) ?_ ?_
  rotate_left
  · intro w'; go_simp; (with_reducible rfl)
  rotate_left
  · simp only [Act.put, s_0, s_1, s_2, i64_w, i32_w]; rfl
  refine pure_ (i := 16) (N := some 51) (v := ?_) (a' := ?_) (bz 31 100489) rfl rfl (any_of HT_.out (by kernel_rfl)) (fun _ _ _ h => h) (Or.inl ⟨by rfl, ?_⟩) ?_ ?_
  rotate_left
  · intro w'; go_simp; (with_reducible rfl)
  rotate_left
  · simp only [Act.put, s_0, s_1, s_2, i64_w, i32_w]; rfl
  refine pure_ (i := 17) (N := some 52) (v := ?_) (a' := ?_) (bz 31 231561) rfl rfl (any_of HT_.out (by kernel_rfl)) (fun _ _ _ h => h) (Or.inl ⟨by rfl, ?_⟩) ?_ ?_
  rotate_left
  · intro w'; go_simp; (with_reducible rfl)
  rotate_left
  · simp only [Act.put, s_0, s_1, s_2, i64_w, i32_w]; rfl
  refine pure_ (i := 18) (N := some 53) (v := ?_) (a' := ?_) (bz 31 493705) rfl rfl (any_of HT_.out (by kernel_rfl)) (fun _ _ _ h => h) (Or.inl ⟨by rfl, ?_⟩) ?_ ?_
  rotate_left
  · intro w'; go_simp; (with_reducible rfl)
  rotate_left
  · simp only [Act.put, s_0, s_1, s_2, i64_w, i32_w]; rfl
  refine pure_ (i := 19) (N := some 54) (v := ?_) (a' := ?_) (bz 31 1017993) rfl rfl (any_of HT_.out (by kernel_rfl)) (fun _ _ _ h => h) (Or.inl ⟨by rfl, ?_⟩) ?_ ?_
  rotate_left
  · intro w'; go_simp; (with_reducible rfl)
  rotate_left
  · simp only [Act.put, s_0, s_1, s_2, i64_w, i32_w]; rfl
  refine pure_ (i := 22) (N := some 57) (v := ?_) (a' := ?_) (bz 31 5212297) rfl rfl (any_of HT_.out (by kernel_rfl)) (fun _ _ _ h => h) (Or.inl ⟨by rfl, ?_⟩) ?_ ?_
  rotate_left
  · intro w'; go_simp; (with_reducible rfl)
  rotate_left
  · simp only [Act.put, s_0, s_1, s_2, i64_w, i32_w]; rfl
  refine pure_ (i := 26) (N := some 61) (v := ?_) (a' := ?_) (bz 31 72321161) rfl rfl (any_of HT_.out (by kernel_rfl)) (fun _ _ _ h => h) (Or.inl ⟨by rfl, ?_⟩) ?_ ?_
  rotate_left
  · intro w'; go_simp; (with_reducible rfl)
  rotate_left
  · simp only [Act.put, s_0, s_1, s_2, i64_w, i32_w]; rfl
  refine take_ (i := 1) (N := some 36) (v := ?_) (a' := ?_) (bz 31 72321163) rfl rfl (take_ofW HT_.out HW_.out (by kernel_rfl)) (fun _ _ _ h => h) (Or.inl ⟨by rfl, ?_⟩) hHeld ?_ ?_
  rotate_left
  · rintro w' ⟨s0, s1, s2, s3, s4, s5, s6, s7, s8, s9, s10, s11, s12, s13, s14, s15⟩
    go_simp; (with_reducible rfl)
  rotate_left
  · simp only [Act.put, s_0, s_1, s_2, i64_w, i32_w]; rfl
  refine take_ (i := 4) (N := some 39) (v := ?_) (a' := ?_) (bz 31 72321179) rfl rfl (take_ofW HT_.out HW_.out (by kernel_rfl)) (fun _ _ _ h => h) (Or.inl ⟨by rfl, ?_⟩) hHeld ?_ ?_
  rotate_left
  · rintro w' ⟨s0, s1, s2, s3, s4, s5, s6, s7, s8, s9, s10, s11, s12, s13, s14, s15⟩
    go_simp; (with_reducible rfl)
  rotate_left
  · simp only [Act.put, s_0, s_1, s_2, i64_w, i32_w]; rfl
  refine take_ (i := 8) (N := some 43) (v := ?_) (a' := ?_) (bz 31 72321435) rfl rfl (take_ofW HT_.out HW_.out (by kernel_rfl)) (fun _ _ _ h => h) (Or.inl ⟨by rfl, ?_⟩) hHeld ?_ ?_
  rotate_left
  · rintro w' ⟨s0, s1, s2, s3, s4, s5, s6, s7, s8, s9, s10, s11, s12, s13, s14, s15⟩
    go_simp; (with_reducible rfl)
  rotate_left
  · simp only [Act.put, s_0, s_1, s_2, i64_w, i32_w]; rfl
  refine take_ (i := 12) (N := some 47) (v := ?_) (a' := ?_) (bz 31 72325531) rfl rfl (take_ofW HT_.out HW_.out (by kernel_rfl)) (fun _ _ _ h => h) (Or.inl ⟨by rfl, ?_⟩) hHeld ?_ ?_
  rotate_left
  · rintro w' ⟨s0, s1, s2, s3, s4, s5, s6, s7, s8, s9, s10, s11, s12, s13, s14, s15⟩
    go_simp; (with_reducible rfl)
  rotate_left
  · simp only [Act.put, s_0, s_1, s_2, i64_w, i32_w]; rfl
  refine take_ (i := 23) (N := some 58) (v := ?_) (a' := ?_) (bz 31 80714139) rfl rfl (take_ofW HT_.out HW_.out (by kernel_rfl)) (fun _ _ _ h => h) (Or.inl ⟨by rfl, ?_⟩) hHeld ?_ ?_
  rotate_left
  · rintro w' ⟨s0, s1, s2, s3, s4, s5, s6, s7, s8, s9, s10, s11, s12, s13, s14, s15⟩
    go_simp; (with_reducible rfl)
  rotate_left
  · simp only [Act.put, s_0, s_1, s_2, i64_w, i32_w]; rfl
  refine take_ (i := 27) (N := some 62) (v := ?_) (a' := ?_) (bz 31 214931867) rfl rfl (take_ofW HT_.out HW_.out (by kernel_rfl)) (fun _ _ _ h => h) (Or.inl ⟨by rfl, ?_⟩) hHeld ?_ ?_
  rotate_left
  · rintro w' ⟨s0, s1, s2, s3, s4, s5, s6, s7, s8, s9, s10, s11, s12, s13, s14, s15⟩
    go_simp; (with_reducible rfl)
  rotate_left
  · simp only [Act.put, s_0, s_1, s_2, i64_w, i32_w]; rfl
  refine one_ (i := 2) (N := some 37) (bz 31 214931871) rfl rfl (one_of HT_.out (by kernel_rfl)) (by decide) (fun K hK => ?_)
  refine goes_ Try.func22 (by kernel_rfl) rfl #[.int .i64 a2_0, .int .i64 2] (by rfl) rfl rfl ga_ ?_
  with_reducible refine (seg_num.calls k a2_0 2 t171 _ A9.out).mono ?_
  rintro e w38 ⟨rfl, hb⟩; refine ⟨_, rfl, ?_⟩; replace BK166 := kb_ BK166 hb; replace HB := bs1_ HB GE166 hb; (try clear hb)
  refine hK.out _ _ ⟨bc BK166 0, bc BK166 1, bc BK166 2, bc BK166 3, bc BK166 4, bc BK166 5, bc BK166 6, bc BK166 7, bc BK166 8, bc BK166 9, bc BK166 10, bc BK166 11, bc BK166 12, bc BK166 13, bc BK166 14, bc BK166 15⟩ (fun hHeld => ?_)
  clear hK K
  refine norm_ (a' := ?_) ?_ ?_
  rotate_left
  · show Act.put _ (some 37) _ = _; simp only [Act.put, s_0, s_1, s_2, i64_w, i32_w]; rfl
  refine one_ (i := 5) (N := some 40) (bz 31 214931903) rfl rfl (one_of HT_.out (by kernel_rfl)) (by decide) (fun K hK => ?_)
  refine goes_ Try.func22 (by kernel_rfl) rfl #[.int .i64 a2_1, .int .i64 2] (by rfl) rfl rfl ga_ ?_
  with_reducible refine (seg_num.calls k a2_1 2 t172 _ A10.out).mono ?_
  rintro e w39 ⟨rfl, hb⟩; refine ⟨_, rfl, ?_⟩; replace BK166 := kb_ BK166 hb; replace HB := bs1_ HB GE166 hb; (try clear hb)
  refine hK.out _ _ ⟨bc BK166 0, bc BK166 1, bc BK166 2, bc BK166 3, bc BK166 4, bc BK166 5, bc BK166 6, bc BK166 7, bc BK166 8, bc BK166 9, bc BK166 10, bc BK166 11, bc BK166 12, bc BK166 13, bc BK166 14, bc BK166 15⟩ (fun hHeld => ?_)
  clear hK K
  refine norm_ (a' := ?_) ?_ ?_
  rotate_left
  · show Act.put _ (some 40) _ = _; simp only [Act.put, s_0, s_1, s_2, i64_w, i32_w]; rfl
  refine pure_ (i := 6) (N := some 41) (v := ?_) (a' := ?_) (bz 31 214931967) rfl rfl (any_of HT_.out (by kernel_rfl)) (fun _ _ _ h => h) (Or.inl ⟨by rfl, ?_⟩) ?_ ?_
  rotate_left
  · intro w'; go_simp; (with_reducible rfl)
  rotate_left
  · simp only [Act.put, s_0, s_1, s_2, i64_w, i32_w]; rfl
  refine one_ (i := 9) (N := some 44) (bz 31 214932479) rfl rfl (one_of HT_.out (by kernel_rfl)) (by decide) (fun K hK => ?_)
  refine goes_ Try.func22 (by kernel_rfl) rfl #[.int .i64 a2_2, .int .i64 4] (by rfl) rfl rfl ga_ ?_
  with_reducible refine (seg_num.calls k a2_2 4 t173 _ A12.out).mono ?_
  rintro e w40 ⟨rfl, hb⟩; refine ⟨_, rfl, ?_⟩; replace BK166 := kb_ BK166 hb; replace HB := bs1_ HB GE166 hb; (try clear hb)
  refine hK.out _ _ ⟨bc BK166 0, bc BK166 1, bc BK166 2, bc BK166 3, bc BK166 4, bc BK166 5, bc BK166 6, bc BK166 7, bc BK166 8, bc BK166 9, bc BK166 10, bc BK166 11, bc BK166 12, bc BK166 13, bc BK166 14, bc BK166 15⟩ (fun hHeld => ?_)
  clear hK K
  refine norm_ (a' := ?_) ?_ ?_
  rotate_left
  · show Act.put _ (some 44) _ = _; simp only [Act.put, s_0, s_1, s_2, i64_w, i32_w]; rfl
  refine pure_ (i := 10) (N := some 45) (v := ?_) (a' := ?_) (bz 31 214933503) rfl rfl (any_of HT_.out (by kernel_rfl)) (fun _ _ _ h => h) (Or.inl ⟨by rfl, ?_⟩) ?_ ?_
  rotate_left
  · intro w'; go_simp; (with_reducible rfl)
  rotate_left
  · simp only [Act.put, s_0, s_1, s_2, i64_w, i32_w]; rfl
  refine one_ (i := 13) (N := some 48) (bz 31 214941695) rfl rfl (one_of HT_.out (by kernel_rfl)) (by decide) (fun K hK => ?_)
  refine goes_ Try.func22 (by kernel_rfl) rfl #[.int .i64 a2_3, .int .i64 4] (by rfl) rfl rfl ga_ ?_
  with_reducible refine (seg_num.calls k a2_3 4 t174 _ A14.out).mono ?_
  rintro e w41 ⟨rfl, hb⟩; refine ⟨_, rfl, ?_⟩; replace BK166 := kb_ BK166 hb; replace HB := bs1_ HB GE166 hb; (try clear hb)
  refine hK.out _ _ ⟨bc BK166 0, bc BK166 1, bc BK166 2, bc BK166 3, bc BK166 4, bc BK166 5, bc BK166 6, bc BK166 7, bc BK166 8, bc BK166 9, bc BK166 10, bc BK166 11, bc BK166 12, bc BK166 13, bc BK166 14, bc BK166 15⟩ (fun hHeld => ?_)
  clear hK K
  refine norm_ (a' := ?_) ?_ ?_
  rotate_left
  · show Act.put _ (some 48) _ = _; simp only [Act.put, s_0, s_1, s_2, i64_w, i32_w]; rfl
  refine pure_ (i := 14) (N := some 49) (v := ?_) (a' := ?_) (bz 31 214958079) rfl rfl (any_of HT_.out (by kernel_rfl)) (fun _ _ _ h => h) (Or.inl ⟨by rfl, ?_⟩) ?_ ?_
  rotate_left
  · intro w'; go_simp; (with_reducible rfl)
  rotate_left
  · simp only [Act.put, s_0, s_1, s_2, i64_w, i32_w]; rfl
  refine one_ (i := 20) (N := some 55) (bz 31 216006655) rfl rfl (one_of HT_.out (by kernel_rfl)) (by decide) (fun K hK => ?_)
  refine goes_ Try.func22 (by kernel_rfl) rfl #[.int .i64 (wrap64 ((wrap64 (Int.tdiv (wrap64 (20 + (t169.size : Int))) 4)) * 16)), .int .i64 1] (by rfl) rfl rfl ga_ ?_
  with_reducible refine (seg_num.calls k (wrap64 ((wrap64 (Int.tdiv (wrap64 (20 + (t169.size : Int))) 4)) * 16)) 1 t175 _ A16.out).mono ?_
  rintro e w42 ⟨rfl, hb⟩; refine ⟨_, rfl, ?_⟩; replace BK166 := kb_ BK166 hb; replace HB := bs1_ HB GE166 hb; (try clear hb)
  refine hK.out _ _ ⟨bc BK166 0, bc BK166 1, bc BK166 2, bc BK166 3, bc BK166 4, bc BK166 5, bc BK166 6, bc BK166 7, bc BK166 8, bc BK166 9, bc BK166 10, bc BK166 11, bc BK166 12, bc BK166 13, bc BK166 14, bc BK166 15⟩ (fun hHeld => ?_)
  clear hK K
  refine norm_ (a' := ?_) ?_ ?_
  rotate_left
  · show Act.put _ (some 55) _ = _; simp only [Act.put, s_0, s_1, s_2, i64_w, i32_w]; rfl
  refine pure_ (i := 21) (N := some 56) (v := ?_) (a' := ?_) (bz 31 218103807) rfl rfl (any_of HT_.out (by kernel_rfl)) (fun _ _ _ h => h) (Or.inl ⟨by rfl, ?_⟩) ?_ ?_
  rotate_left
  · intro w'; go_simp; (with_reducible rfl)
  rotate_left
  · simp only [Act.put, s_0, s_1, s_2, i64_w, i32_w]; rfl
  refine one_ (i := 24) (N := some 59) (bz 31 234881023) rfl rfl (one_of HT_.out (by kernel_rfl)) (by decide) (fun K hK => ?_)
  refine goes_ Try.func22 (by kernel_rfl) rfl #[.int .i64 a2_4, .int .i64 1] (by rfl) rfl rfl ga_ ?_
  with_reducible refine (seg_num.calls k a2_4 1 t176 _ A18.out).mono ?_
  rintro e w43 ⟨rfl, hb⟩; refine ⟨_, rfl, ?_⟩; replace BK166 := kb_ BK166 hb; replace HB := bs1_ HB GE166 hb; (try clear hb)
  refine hK.out _ _ ⟨bc BK166 0, bc BK166 1, bc BK166 2, bc BK166 3, bc BK166 4, bc BK166 5, bc BK166 6, bc BK166 7, bc BK166 8, bc BK166 9, bc BK166 10, bc BK166 11, bc BK166 12, bc BK166 13, bc BK166 14, bc BK166 15⟩ (fun hHeld => ?_)
  clear hK K
  refine norm_ (a' := ?_) ?_ ?_
  rotate_left
  · show Act.put _ (some 59) _ = _; simp only [Act.put, s_0, s_1, s_2, i64_w, i32_w]; rfl
  refine pure_ (i := 25) (N := some 60) (v := ?_) (a' := ?_) (bz 31 268435455) rfl rfl (any_of HT_.out (by kernel_rfl)) (fun _ _ _ h => h) (Or.inl ⟨by rfl, ?_⟩) ?_ ?_
  rotate_left
  · intro w'; go_simp; (with_reducible rfl)
  rotate_left
  · simp only [Act.put, s_0, s_1, s_2, i64_w, i32_w]; rfl
  refine one_ (i := 28) (N := some 63) (bz 31 536870911) rfl rfl (one_of HT_.out (by kernel_rfl)) (by decide) (fun K hK => ?_)
  refine goes_ Try.func22 (by kernel_rfl) rfl #[.int .i64 a2_5, .int .i64 2] (by rfl) rfl rfl ga_ ?_
  with_reducible refine (seg_num.calls k a2_5 2 t177 _ A20.out).mono ?_
  rintro e w44 ⟨rfl, hb⟩; refine ⟨_, rfl, ?_⟩; replace BK166 := kb_ BK166 hb; replace HB := bs1_ HB GE166 hb; (try clear hb)
  refine hK.out _ _ ⟨bc BK166 0, bc BK166 1, bc BK166 2, bc BK166 3, bc BK166 4, bc BK166 5, bc BK166 6, bc BK166 7, bc BK166 8, bc BK166 9, bc BK166 10, bc BK166 11, bc BK166 12, bc BK166 13, bc BK166 14, bc BK166 15⟩ (fun hHeld => ?_)
  clear hK K
  refine norm_ (a' := ?_) ?_ ?_
  rotate_left
  · show Act.put _ (some 63) _ = _; simp only [Act.put, s_0, s_1, s_2, i64_w, i32_w]; rfl
  refine pure_ (i := 29) (N := some 64) (v := ?_) (a' := ?_) (bz 31 1073741823) rfl rfl (any_of HT_.out (by kernel_rfl)) (fun _ _ _ h => h) (Or.inl ⟨by rfl, ?_⟩) ?_ ?_
  rotate_left
  · intro w'; go_simp; (with_reducible rfl)
  rotate_left
  · simp only [Act.put, s_0, s_1, s_2, i64_w, i32_w]; rfl
  refine pure_ (i := 30) (N := some 12) (v := ?_) (a' := ?_) (bz 31 2147483647) rfl rfl (any_of HT_.out (by kernel_rfl)) (fun _ _ _ h => h) (Or.inl ⟨by rfl, ?_⟩) ?_ ?_
  rotate_left
  · intro w'; go_simp; (with_reducible rfl)
  rotate_left
  · simp only [Act.put, s_0, s_1, s_2, i64_w, i32_w]; rfl
  refine done_ (done_of HT_.out (by kernel_rfl)) ?_
  try go_wp2
  replace BK166 := Aside0.mk (blk_drew BK166.out); replace HB := Aside0.mk (below_drew1 HB.out)
  refine start_ (n := 9) (S := fun w' => w'.cell? ⟨gb166, 0, none⟩ = some (.int .i64 a2_0) ∧ w'.cell? ⟨gb166, 1, none⟩ = some (.int .i64 a2_1) ∧ w'.cell? ⟨gb166, 2, none⟩ = some (.int .i64 a2_2) ∧ w'.cell? ⟨gb166, 3, none⟩ = some (.int .i64 a2_3) ∧ w'.cell? ⟨gb166, 4, none⟩ = some (.int .i64 a2_4) ∧ w'.cell? ⟨gb166, 5, none⟩ = some (.int .i64 a2_5) ∧ w'.cell? ⟨gb166, 6, none⟩ = some (.int .i64 a2_6) ∧ w'.cell? ⟨gb166, 7, none⟩ = some (.int .i64 a2_7) ∧ w'.cell? ⟨gb166, 8, none⟩ = some (.int .i64 a2_8) ∧ w'.cell? ⟨gb166, 9, none⟩ = some (.int .i64 a2_9) ∧ w'.cell? ⟨gb166, 10, none⟩ = some (.int .i64 a2_10) ∧ w'.cell? ⟨gb166, 11, none⟩ = some (.bool a2_11) ∧ w'.cell? ⟨gb166, 12, none⟩ = some (.bool a2_12) ∧ w'.cell? ⟨gb166, 13, none⟩ = some (.bool a2_13) ∧ w'.cell? ⟨gb166, 14, none⟩ = some (.slice A2_14 l2_14.length c2_14) ∧ w'.cell? ⟨gb166, 15, none⟩ = some (.string a2_15)) (ds := []) (bz 9 0) (by kernel_rfl) rfl rfl ⟨bc BK166 0, bc BK166 1, bc BK166 2, bc BK166 3, bc BK166 4, bc BK166 5, bc BK166 6, bc BK166 7, bc BK166 8, bc BK166 9, bc BK166 10, bc BK166 11, bc BK166 12, bc BK166 13, bc BK166 14, bc BK166 15⟩ (fun hHeld => ?_); refine with_tabW seg_Encode.tab9 seg_Encode.bits9 (fun HT_ HW_ => ?_)
  generalize w44.drew = w45 at BK166 HB hHeld ⊢
  refine pure_ (i := 0) (N := some 65) (v := ?_) (a' := ?_) (bz 9 1) rfl rfl (any_of HT_.out (by kernel_rfl)) (fun _ _ _ h => h) (Or.inl ⟨by rfl, ?_⟩) ?_ ?_
  rotate_left
  · intro w'; go_simp; (with_reducible rfl)
  rotate_left
  · simp only [Act.put, s_0, s_1, s_2, i64_w, i32_w]; rfl
  refine pure_ (i := 3) (N := some 68) (v := ?_) (a' := ?_) (bz 9 9) rfl rfl (any_of HT_.out (by kernel_rfl)) (fun _ _ _ h => h) (Or.inl ⟨by rfl, ?_⟩) ?_ ?_
  rotate_left
  · intro w'; go_simp; (with_reducible rfl)
  rotate_left
  · simp only [Act.put, s_0, s_1, s_2, i64_w, i32_w]; rfl
  refine pure_ (i := 5) (N := some 70) (v := ?_) (a' := ?_) (bz 9 41) rfl rfl (any_of HT_.out (by kernel_rfl)) (fun _ _ _ h => h) (Or.inl ⟨by rfl, ?_⟩) ?_ ?_
  rotate_left
  · intro w'; go_simp; (with_reducible rfl)
  rotate_left
  · simp only [Act.put, s_0, s_1, s_2, i64_w, i32_w]; rfl
  refine take_ (i := 1) (N := some 66) (v := ?_) (a' := ?_) (bz 9 43) rfl rfl (take_ofW HT_.out HW_.out (by kernel_rfl)) (fun _ _ _ h => h) (Or.inl ⟨by rfl, ?_⟩) hHeld ?_ ?_
  rotate_left
  · rintro w' ⟨s0, s1, s2, s3, s4, s5, s6, s7, s8, s9, s10, s11, s12, s13, s14, s15⟩
    go_simp; (with_reducible rfl)
  rotate_left
  · simp only [Act.put, s_0, s_1, s_2, i64_w, i32_w]; rfl
  refine take_ (i := 6) (N := some 71) (v := ?_) (a' := ?_) (bz 9 107) rfl rfl (take_ofW HT_.out HW_.out (by kernel_rfl)) (fun _ _ _ h => h) (Or.inl ⟨by rfl, ?_⟩) hHeld ?_ ?_
  rotate_left
  · rintro w' ⟨s0, s1, s2, s3, s4, s5, s6, s7, s8, s9, s10, s11, s12, s13, s14, s15⟩
    go_simp; (with_reducible rfl)
  rotate_left
  · simp only [Act.put, s_0, s_1, s_2, i64_w, i32_w]; rfl
  refine one_ (i := 2) (N := some 67) (bz 9 111) rfl rfl (one_of HT_.out (by kernel_rfl)) (by decide) (fun K hK => ?_)
  refine goes_ Try.func22 (by kernel_rfl) rfl #[.int .i64 a2_6, .int .i64 2] (by rfl) rfl rfl ga_ ?_
  with_reducible refine (seg_num.calls k a2_6 2 t178 _ A22.out).mono ?_
  rintro e w46 ⟨rfl, hb⟩; refine ⟨_, rfl, ?_⟩; replace BK166 := kb_ BK166 hb; replace HB := bs1_ HB GE166 hb; (try clear hb)
  refine hK.out _ _ ⟨bc BK166 0, bc BK166 1, bc BK166 2, bc BK166 3, bc BK166 4, bc BK166 5, bc BK166 6, bc BK166 7, bc BK166 8, bc BK166 9, bc BK166 10, bc BK166 11, bc BK166 12, bc BK166 13, bc BK166 14, bc BK166 15⟩ (fun hHeld => ?_)
  clear hK K
  refine norm_ (a' := ?_) ?_ ?_
  rotate_left
  · show Act.put _ (some 67) _ = _; simp only [Act.put, s_0, s_1, s_2, i64_w, i32_w]; rfl
  refine pure_ (i := 4) (N := some 69) (v := ?_) (a' := ?_) (bz 9 127) rfl rfl (any_of HT_.out (by kernel_rfl)) (fun _ _ _ h => h) (Or.inl ⟨by rfl, ?_⟩) ?_ ?_
  rotate_left
  · intro w'; go_simp; (with_reducible rfl)
  rotate_left
  · simp only [Act.put, s_0, s_1, s_2, i64_w, i32_w]; rfl
  refine pure_ (i := 7) (N := some 72) (v := ?_) (a' := ?_) (bz 9 255) rfl rfl (any_of HT_.out (by kernel_rfl)) (fun _ _ _ h => h) (Or.inl ⟨by rfl, ?_⟩) ?_ ?_
  rotate_left
  · intro w'; go_simp; (with_reducible rfl)
  rotate_left
  · simp only [Act.put, s_0, s_1, s_2, i64_w, i32_w]; rfl
  refine pure_ (i := 8) (N := some 13) (v := ?_) (a' := ?_) (bz 9 511) rfl rfl (any_of HT_.out (by kernel_rfl)) (fun _ _ _ h => h) (Or.inl ⟨by rfl, ?_⟩) ?_ ?_
  rotate_left
  · intro w'; go_simp; (with_reducible rfl)
  rotate_left
  · simp only [Act.put, s_0, s_1, s_2, i64_w, i32_w]; rfl
  refine done_ (done_of HT_.out (by kernel_rfl)) ?_
  try go_wp2_with (first | ((with_reducible refine gate_callee (f := 23) rfl ?_); refine goesL_ (some 82) rfl rfl Try.func23 (by kernel_rfl) rfl #[.int .i64 a0, .int .i64 a1, .int .i64 6, .int .i64 (wrap64 ((wrap64 ((((((((t171 ++ t172) ++ t173) ++ t174) ++ t175) ++ t176) ++ t177).size : Int) + 2)) + (((t178 ++ t169) ++ a2_15).size : Int)))] rfl ga_ ?_; (with_reducible refine (sum_Pseudo.calls k a0 a1 6 (wrap64 ((wrap64 ((((((((t171 ++ t172) ++ t173) ++ t174) ++ t175) ++ t176) ++ t177).size : Int) + 2)) + (((t178 ++ t169) ++ a2_15).size : Int))) t179 t180 _ A25.out).mono ?_); rintro e w47 ⟨rfl, hb⟩; refine ⟨_, rfl, ?_⟩; replace BK166 := kb_ BK166 hb; replace HB := bs1_ HB GE166 hb; (try clear hb)) | ((with_reducible refine gate_callee (f := 22) rfl ?_); refine goesL_ (some 88) rfl rfl Try.func22 (by kernel_rfl) rfl #[.int .i64 0, .int .i64 2] rfl ga_ ?_; (with_reducible refine (seg_num.calls k 0 2 t181 _ A26.out).mono ?_); rintro e w48 ⟨rfl, hb⟩; refine ⟨_, rfl, ?_⟩; replace BK166 := kb_ BK166 hb; replace HB := bs1_ HB GE166 hb; (try clear hb)) | ((with_reducible refine gate_dst (N := 90) rfl ?_); refine Kd.R_lit Kd.string _ 9 ?hg (N := 90) ?hd (xs := ([t179, (((((t171 ++ t172) ++ t173) ++ t174) ++ t175) ++ t176) ++ t177, t181, (t178 ++ t169) ++ a2_15] : List ByteArray)) (inner := [.string t179, .string ((((((t171 ++ t172) ++ t173) ++ t174) ++ t175) ++ t176) ++ t177), .string t181, .string ((t178 ++ t169) ++ a2_15)]) (ok := fun _ => True) (okp := fun _ => True) ?hr ?hp (fun _ hk => hk) trivial (Below.refl _ _) (Nat.le_refl _) (by simp) ?_; (case hd => rfl); (case hg => rfl); (case hr => go_simp; first | done | (simp only [IntKind.wrap_u8]; done) | rfl); (case hp => exact (Reps.one (show Kd.M Kd.string _ _ _ t179 [.string t179] from rfl) (Reps.one (show Kd.M Kd.string _ _ _ ((((((t171 ++ t172) ++ t173) ++ t174) ++ t175) ++ t176) ++ t177) [.string ((((((t171 ++ t172) ++ t173) ++ t174) ++ t175) ++ t176) ++ t177)] from rfl) (Reps.one (show Kd.M Kd.string _ _ _ t181 [.string t181] from rfl) (Reps.one (show Kd.M Kd.string _ _ _ ((t178 ++ t169) ++ a2_15) [.string ((t178 ++ t169) ++ a2_15)] from rfl) (Reps.none _ _)))))); intro v183 w49 ho50 hb hg_ hnew_; clear hg_ hnew_; (first | rw [← Ny182.out] at ho50 | (simp only [Int.reduceToNat] at ho50; rw [← Ny182.out] at ho50)); have HO184 := Aside0.mk (Kd.R_lower ho50 (below_size (be1_ HB GE166))); replace BK166 := kb_ BK166 hb; replace HB := bs1_ HB GE166 hb; clear hb ho50; obtain ⟨Ao51, co51, eo51⟩ := Kd.R_slice HO184.out; subst eo51) | ((with_reducible refine gate_callee (f := 24) rfl ?_); refine goesL_ (some 91) rfl rfl Try.func24 (by kernel_rfl) rfl #[.slice Ao51 y182.length co51] rfl ga_ ?_; (with_reducible refine (sum_Of.calls k _ _ y182 t185 t186 _ ?side1 ?side2 A27.out).mono ?_); (case side1 => repeat (first | exact (Kd.R_reads' HO184.out).2.2 | (with_reducible refine Kd.C_alloc ?_ _) | (with_reducible refine Kd.C_drewN ?_ _) | (with_reducible refine Kd.C_drew ?_))); (case side2 => exact (Kd.R_reads' HO184.out).2.1); rintro e w' ⟨rfl, ⟨nd, rfl⟩⟩; refine ⟨_, rfl, ?_⟩) | ((with_reducible refine gate_callee (f := 22) rfl ?_); refine goesL_ (some 96) rfl rfl Try.func22 (by kernel_rfl) rfl #[.int .i64 t185, .int .i64 2] rfl ga_ ?_; (with_reducible refine (seg_num.calls k t185 2 t187 _ A28.out).mono ?_); rintro e w52 ⟨rfl, hb⟩; refine ⟨_, rfl, ?_⟩; replace HO184 := Aside0.mk (Kd.R_below (by (with_reducible repeat (first | apply Kd.R_alloc | apply Kd.R_drewN | apply Kd.R_drew)); exact HO184.out) hb); replace BK166 := kb_ BK166 hb; replace HB := bs1_ HB GE166 hb; (try clear hb)))
  go_ret2
  exact ⟨ra_, (be1_ HB GE166)⟩

/-! ### sternpostref08_Has: function 13 -/
def sternpostref08_Has.f (a0_0 : Int) (a0_1 : Int) (a0_2 : Int) (a0_3 : Int) (a0_4 : Int) (a0_5 : Int) (a0_6 : Int) (a0_7 : Int) (a0_8 : Int) (a0_9 : Int) (a0_10 : Int) (a0_11 : Bool) (a0_12 : Bool) (a0_13 : Bool) (l0_14 : List (S68)) (a0_15 : ByteArray) (a1 : Int) : Option (Bool) := some ((Go.bits .and .i64 a0_4 a1) == a1)
set_option maxHeartbeats 8000000 in
set_option maxRecDepth 100000 in
theorem sternpostref08_Has.calls (a0_0 : Int) (a0_1 : Int) (a0_2 : Int) (a0_3 : Int) (a0_4 : Int) (a0_5 : Int) (a0_6 : Int) (a0_7 : Int) (a0_8 : Int) (a0_9 : Int) (a0_10 : Int) (a0_11 : Bool) (a0_12 : Bool) (a0_13 : Bool) (A0_14 : Option Addr) (c0_14 : Nat) (l0_14 : List (S68)) (a0_15 : ByteArray) (a1 : Int) (r : Bool) (w : World) (hr0_14 : Kd.C k68 w A0_14 l0_14.length l0_14) (hc0_14 : l0_14.length ≤ c0_14) (h : sternpostref08_Has.f a0_0 a0_1 a0_2 a0_3 a0_4 a0_5 a0_6 a0_7 a0_8 a0_9 a0_10 a0_11 a0_12 a0_13 l0_14 a0_15 a1 = some r) :
 Calls Try.prog 13 #[.agg #[.int .i64 a0_0, .int .i64 a0_1, .int .i64 a0_2, .int .i64 a0_3, .int .i64 a0_4, .int .i64 a0_5, .int .i64 a0_6, .int .i64 a0_7, .int .i64 a0_8, .int .i64 a0_9, .int .i64 a0_10, .bool a0_11, .bool a0_12, .bool a0_13, .slice A0_14 l0_14.length c0_14, .string a0_15], .int .i64 a1] w fun e w' => e = .returned (.bool r) ∧ Below w.heap.size w w' := by
 have hu28 := Try.underlying28
 have HR0_14 := Aside0.mk hr0_14; have HC0_14 := Aside0.mk hc0_14; clear hr0_14 hc0_14
 have HB := Aside0.mk (Below.refl w.heap.size w)
 have H : (some ((Go.bits .and .i64 a0_4 a1) == a1)) = some r := h
 clear h
 as_aux_lemma =>
  obtain rfl := Option.some.inj H
  go_enter Try.func13, Try.ntmps13
  go_wp2_with (first | ((with_reducible refine gate_dst (N := 2) rfl ?_); refine box_event ?hg (N := 2) ?hd (cs := #[.int .i64 a0_0, .int .i64 a0_1, .int .i64 a0_2, .int .i64 a0_3, .int .i64 a0_4, .int .i64 a0_5, .int .i64 a0_6, .int .i64 a0_7, .int .i64 a0_8, .int .i64 a0_9, .int .i64 a0_10, .bool a0_11, .bool a0_12, .bool a0_13, .slice A0_14 l0_14.length c0_14, .string a0_15]) (t := 28) ?hr ?_; (case hd => rfl); (case hg => rfl); (case hr => go_simp; first | done | (simp only [IntKind.wrap_u8]; done) | rfl); intro gb188 hg w3 hbox hb; have BK188 := Aside0.mk (hbox); have GW188 := gz_ (be0_ HB) hg; have GE188 := gz_ (be0_ HB) hg; replace HB := bs0_ HB hb; clear hb hbox hg; have hcz4 := cf16 BK188))
  go_ret
  exact ⟨ra_, (be1_ HB GE188)⟩

/-! ### sternpostref01_Check: function 25 -/
def sternpostref01_Check.f (a0 : Int) : Option (Int) := if a0 < 0 then (some 1) else (if a0 > 4294967295 then (some 1) else (some 0))
set_option maxHeartbeats 8000000 in
set_option maxRecDepth 100000 in
theorem sternpostref01_Check.calls (a0 : Int) (r : Int) (w : World) (h : sternpostref01_Check.f a0 = some r) :
 Calls Try.prog 25 #[.int .i64 a0] w fun e w' => e = .returned (.int .i64 r) ∧ Drawn0 w w' := by
 have H : (if a0 < 0 then (some 1) else (if a0 > 4294967295 then (some 1) else (some 0))) = some r := h
 clear h
 by_cases c2 : a0 < 0
 · rw [if_pos c2] at H
   have c2b0 : decide (a0 < 0) = true := decide_eq_true c2
   clear c2
   as_aux_lemma =>
    obtain rfl := Option.some.inj H
    go_enter Try.func25, Try.ntmps25
    go_wp2
    go_ret
    exact ⟨by first | rfl | (simp; done) | (simp [*]; done), by repeat (first | exact Drawn0.refl _ | apply Drawn0.step)⟩
 rw [if_neg c2] at H
 have c2b0 : decide (a0 < 0) = false := decide_eq_false c2
 clear c2
 by_cases c3 : a0 > 4294967295
 · rw [if_pos c3] at H
   have c3b0 : decide (4294967295 < a0) = true := decide_eq_true c3
   clear c3
   as_aux_lemma =>
    obtain rfl := Option.some.inj H
    go_enter Try.func25, Try.ntmps25
    go_wp2
    go_ret
    exact ⟨by first | rfl | (simp; done) | (simp [*]; done), by repeat (first | exact Drawn0.refl _ | apply Drawn0.step)⟩
 rw [if_neg c3] at H
 have c3b0 : decide (4294967295 < a0) = false := decide_eq_false c3
 clear c3
 as_aux_lemma =>
  obtain rfl := Option.some.inj H
  go_enter Try.func25, Try.ntmps25
  go_wp2
  go_ret
  exact ⟨by first | rfl | (simp; done) | (simp [*]; done), by repeat (first | exact Drawn0.refl _ | apply Drawn0.step)⟩

end Go.Proofs.Ytnhoadmgoaenpaa.PSegWrites
