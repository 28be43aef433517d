-- Laid by a program of this session (the print, changed: wip/pp.py). Not trusted: Lean checks it.
import Derived.Test.YtnhoadmgoaenpaaPSegWritesx0
import Derived.Test.YtnhoadmgoaenpaaPSegWritesx8
import Derived.Test.YtnhoadmgoaenpaaPSegWritesx10
import Derived.Test.YtnhoadmgoaenpaaPSegWritesx13
namespace Go.Proofs.Ytnhoadmgoaenpaa.PSegWrites
open Go.RowKit Go.Proofs.YtnhoadmgoaenpaaW.PrintWords Go.Proofs.YtnhoadmgoaenpaaW.PrintLast Go.Proofs.YtnhoadmgoaenpaaW.PrintMore
attribute [local go_sem] max2_int min2_int max_two min_two max_three min_three max_four min_four max_five min_five max_six min_six max_seven min_seven   -- for this text's walks alone
set_option linter.unusedVariables false
set_option linter.unusedSimpArgs false

/-! ### sternpostref08_Bytes: function 26 -/
def sternpostref08_Bytes.f (k : Nat) (a0 : Int) (a1 : Int) (a2_0 : Int) (a2_1 : Int) (a2_2 : Int) (a2_3 : Int) (a2_4 : Int) (a2_5 : Int) (a2_6 : Int) (a2_7 : Int) (a2_8 : Int) (a2_9 : Int) (a2_10 : Int) (a2_11 : Bool) (a2_12 : Bool) (a2_13 : Bool) (l2_14 : List (S68)) (a2_15 : ByteArray) : Option (ByteArray) := (sternpostref07_Bytes.f k a2_7 a2_8 a2_9 a2_10 a2_11 a2_12 a2_13 l2_14).bind fun t238 => ((sternpostref02_Text.f k a2_0 2).bind fun t239 => ((sternpostref02_Text.f k a2_1 2).bind fun t240 => (if t239.size + t240.size ≤ 9223372036854775807 then ((sternpostref02_Text.f k a2_2 4).bind fun t241 => (if (t239 ++ t240).size + t241.size ≤ 9223372036854775807 then ((sternpostref02_Text.f k a2_3 4).bind fun t242 => (if ((t239 ++ t240) ++ t241).size + t242.size ≤ 9223372036854775807 then ((some (([(wrap64 ((wrap64 (Int.tdiv (wrap64 (20 + (t238.size : Int))) 4)) * 16)) % 256, (a2_4) % 256] : List Int) : List Int)).bind fun y243 => (if (((t239 ++ t240) ++ t241) ++ t242).size + (strOfNums y243).size ≤ 9223372036854775807 then ((sternpostref02_Text.f k a2_5 2).bind fun t246 => (if ((((t239 ++ t240) ++ t241) ++ t242) ++ (strOfNums y243)).size + t246.size ≤ 9223372036854775807 then (if (((((t239 ++ t240) ++ t241) ++ t242) ++ (strOfNums y243)) ++ t246).size + 2 ≤ 9223372036854775807 then ((sternpostref02_Text.f k a2_6 2).bind fun t247 => (if ((((((t239 ++ t240) ++ t241) ++ t242) ++ (strOfNums y243)) ++ t246) ++ (⟨#[0, 0]⟩ : ByteArray)).size + t247.size ≤ 9223372036854775807 then (if (((((((t239 ++ t240) ++ t241) ++ t242) ++ (strOfNums y243)) ++ t246) ++ (⟨#[0, 0]⟩ : ByteArray)) ++ t247).size + t238.size ≤ 9223372036854775807 then (if ((((((((t239 ++ t240) ++ t241) ++ t242) ++ (strOfNums y243)) ++ t246) ++ (⟨#[0, 0]⟩ : ByteArray)) ++ t247) ++ t238).size + a2_15.size ≤ 9223372036854775807 then ((sternpostref02_Pseudo.f k a0 a1 6 ((((((((((t239 ++ t240) ++ t241) ++ t242) ++ (strOfNums y243)) ++ t246) ++ (⟨#[0, 0]⟩ : ByteArray)) ++ t247) ++ t238) ++ a2_15).size : Int)).bind fun bt248 => (if 0 ≤ 16 then (if 16 ≤ ((((((((((t239 ++ t240) ++ t241) ++ t242) ++ (strOfNums y243)) ++ t246) ++ (⟨#[0, 0]⟩ : ByteArray)) ++ t247) ++ t238) ++ a2_15).size : Int) then (if bt248.1.size + (((((((((t239 ++ t240) ++ t241) ++ t242) ++ (strOfNums y243)) ++ t246) ++ (⟨#[0, 0]⟩ : ByteArray)) ++ t247) ++ t238) ++ a2_15).size ≤ 9223372036854775807 then ((sternpostref02_Sum.f k (bt248.1 ++ (((((((((t239 ++ t240) ++ t241) ++ t242) ++ (strOfNums y243)) ++ t246) ++ (⟨#[0, 0]⟩ : ByteArray)) ++ t247) ++ t238) ++ a2_15))).bind fun t250 => ((sternpostref02_Text.f k t250 2).bind fun t251 => (if ((((((((((t239 ++ t240) ++ t241) ++ t242) ++ (strOfNums y243)) ++ t246) ++ (⟨#[0, 0]⟩ : ByteArray)) ++ t247) ++ t238) ++ a2_15).extract 0 16).size + t251.size ≤ 9223372036854775807 then (if 18 ≤ ((((((((((t239 ++ t240) ++ t241) ++ t242) ++ (strOfNums y243)) ++ t246) ++ (⟨#[0, 0]⟩ : ByteArray)) ++ t247) ++ t238) ++ a2_15).size : Int) then (if (((((((((((t239 ++ t240) ++ t241) ++ t242) ++ (strOfNums y243)) ++ t246) ++ (⟨#[0, 0]⟩ : ByteArray)) ++ t247) ++ t238) ++ a2_15).extract 0 16) ++ t251).size + ((((((((((t239 ++ t240) ++ t241) ++ t242) ++ (strOfNums y243)) ++ t246) ++ (⟨#[0, 0]⟩ : ByteArray)) ++ t247) ++ t238) ++ a2_15).extract 18 (((((((((t239 ++ t240) ++ t241) ++ t242) ++ (strOfNums y243)) ++ t246) ++ (⟨#[0, 0]⟩ : ByteArray)) ++ t247) ++ t238) ++ a2_15).size).size ≤ 9223372036854775807 then (some ((((((((((((t239 ++ t240) ++ t241) ++ t242) ++ (strOfNums y243)) ++ t246) ++ (⟨#[0, 0]⟩ : ByteArray)) ++ t247) ++ t238) ++ a2_15).extract 0 16) ++ t251) ++ ((((((((((t239 ++ t240) ++ t241) ++ t242) ++ (strOfNums y243)) ++ t246) ++ (⟨#[0, 0]⟩ : ByteArray)) ++ t247) ++ t238) ++ a2_15).extract 18 (((((((((t239 ++ t240) ++ t241) ++ t242) ++ (strOfNums y243)) ++ t246) ++ (⟨#[0, 0]⟩ : ByteArray)) ++ t247) ++ t238) ++ a2_15).size))) else (none)) else (none)) else (none)))) else (none)) else (none)) else (none))) else (none)) else (none)) else (none))) else (none)) else (none))) else (none))) else (none))) else (none))) else (none))))
theorem sternpostref08_Bytes.mono : ∀ a0 a1 a2 a3 a4 a5 a6 a7 a8 a9 a10 a11 a12 a13 a14 a15 a16 a17 k, LeO (sternpostref08_Bytes.f k a0 a1 a2 a3 a4 a5 a6 a7 a8 a9 a10 a11 a12 a13 a14 a15 a16 a17) (sternpostref08_Bytes.f (k + 1) a0 a1 a2 a3 a4 a5 a6 a7 a8 a9 a10 a11 a12 a13 a14 a15 a16 a17) := by
 intro a0 a1 a2 a3 a4 a5 a6 a7 a8 a9 a10 a11 a12 a13 a14 a15 a16 a17 k
 unfold sternpostref08_Bytes.f
 repeat' first
  | (with_reducible exact sternpostref02_Pseudo.mono _ _ _ _ _)
  | (with_reducible exact sternpostref02_Sum.mono _ _)
  | (with_reducible exact sternpostref02_Text.mono _ _ _)
  | (with_reducible exact sternpostref07_Bytes.mono _ _ _ _ _ _ _ _ _)
  | (with_reducible exact LeO.refl _)
  | (with_reducible exact LeO.none _)
  | (with_reducible refine LeO.ite ?_ ?_)
  | (with_reducible refine LeO.bind ?_ (fun _ => ?_))
  | exact sternpostref02_Pseudo.mono _ _ _ _ _
  | exact sternpostref02_Sum.mono _ _
  | exact sternpostref02_Text.mono _ _ _
  | exact sternpostref07_Bytes.mono _ _ _ _ _ _ _ _ _
  | exact LeO.none _
  | refine LeO.ite ?_ ?_
  | refine LeO.bind ?_ (fun _ => ?_)
def sternpostref08_Bytes.T2 : Bool × List (List Nat × List Nat) := (true, [([], []), ([0], [0]), ([1], [1]), ([], []), ([3], [3]), ([4, 2], [4]), ([2, 5], [2, 5]), ([], []), ([7], [7]), ([8, 5], [8]), ([6, 9], [6, 9]), ([], []), ([11], [11]), ([12, 9], [12]), ([10, 13], [10, 13]), ([], []), ([15], [15]), ([16], [16]), ([17], [17]), ([18], [18]), ([19], [19]), ([], []), ([21], [21]), ([22], [22]), ([20, 23], [20, 23]), ([24], [24]), ([14, 25], [14, 25]), ([], []), ([27], [27]), ([28, 13], [28]), ([26, 29], [26, 29]), ([30], [30]), ([], []), ([32], [32]), ([33, 29], [33]), ([31, 34], [31, 34]), ([], []), ([35, 36], [35, 36]), ([], []), ([38], [38]), ([37, 39], [37, 39]), ([40, 34, 0, 1, 2, 3, 4, 5, 6, 7, 8, 9, 10, 11, 12, 13, 14, 15, 16, 17, 18, 19, 20, 21, 22, 23, 24, 25, 26, 27, 28, 29, 30, 31, 32, 33, 34, 35, 36, 37, 38, 39, 40], [40])])
def sternpostref08_Bytes.B2 : List Nat := [0, 1, 3, 0, 8, 31, 63, 0, 128, 447, 1023, 0, 2048, 7103, 16383, 0, 32768, 98304, 229376, 491520, 1015808, 0, 2097152, 6291456, 16744448, 33521664, 67108863, 0, 134217728, 402668479, 1073741823, 2147483647, 0, 4294967296, 13824441279, 34359738367, 0, 137438953471, 0, 274877906944, 1099511627775, 2199023255551]
theorem sternpostref08_Bytes.tab2 : rtab .any (opsOf Try.f26 2) = sternpostref08_Bytes.T2 := by kernel_rfl
theorem sternpostref08_Bytes.bits2 : waitsOk sternpostref08_Bytes.T2.2 sternpostref08_Bytes.B2 = true := by kernel_rfl
def sternpostref08_Bytes.T4 : Bool × List (List Nat × List Nat) := (true, [([], []), ([0], [0]), ([], []), ([], []), ([2, 3], [2, 3]), ([4], [4]), ([5, 5], [5]), ([1, 6], [1, 6]), ([], []), ([8], [8]), ([7, 9], [7, 9]), ([10, 6, 0, 1, 2, 3, 4, 5, 6, 7, 8, 9, 10], [10])])
def sternpostref08_Bytes.B4 : List Nat := [0, 1, 0, 0, 12, 28, 60, 127, 0, 256, 1023, 2047]
theorem sternpostref08_Bytes.tab4 : rtab .any (opsOf Try.f26 4) = sternpostref08_Bytes.T4 := by kernel_rfl
theorem sternpostref08_Bytes.bits4 : waitsOk sternpostref08_Bytes.T4.2 sternpostref08_Bytes.B4 = true := by kernel_rfl
set_option maxHeartbeats 8000000 in
set_option maxRecDepth 100000 in
theorem sternpostref08_Bytes.calls (k : Nat) (a0 : Int) (a1 : Int) (a2_0 : Int) (a2_1 : Int) (a2_2 : Int) (a2_3 : Int) (a2_4 : Int) (a2_5 : Int) (a2_6 : Int) (a2_7 : Int) (a2_8 : Int) (a2_9 : Int) (a2_10 : Int) (a2_11 : Bool) (a2_12 : Bool) (a2_13 : Bool) (A2_14 : Option Addr) (c2_14 : Nat) (l2_14 : List (S68)) (a2_15 : ByteArray) (r : ByteArray) (w : World) (hr2_14 : Kd.C k68 w A2_14 l2_14.length l2_14) (hc2_14 : l2_14.length ≤ c2_14) (h : sternpostref08_Bytes.f k a0 a1 a2_0 a2_1 a2_2 a2_3 a2_4 a2_5 a2_6 a2_7 a2_8 a2_9 a2_10 a2_11 a2_12 a2_13 l2_14 a2_15 = some r) :
 Calls Try.prog 26 #[.int .i64 a0, .int .i64 a1, .agg #[.int .i64 a2_0, .int .i64 a2_1, .int .i64 a2_2, .int .i64 a2_3, .int .i64 a2_4, .int .i64 a2_5, .int .i64 a2_6, .int .i64 a2_7, .int .i64 a2_8, .int .i64 a2_9, .int .i64 a2_10, .bool a2_11, .bool a2_12, .bool a2_13, .slice A2_14 l2_14.length c2_14, .string a2_15]] w fun e w' => e = .returned (.string r) ∧ Below w.heap.size w w' := by
 have hu28 := Try.underlying28
 have hu26 := Try.underlying26
 have HR2_14 := Aside0.mk hr2_14; have HC2_14 := Aside0.mk hc2_14; clear hr2_14 hc2_14
 have HB := Aside0.mk (Below.refl w.heap.size w)
 have H : ((sternpostref07_Bytes.f k a2_7 a2_8 a2_9 a2_10 a2_11 a2_12 a2_13 l2_14).bind fun t238 => ((sternpostref02_Text.f k a2_0 2).bind fun t239 => ((sternpostref02_Text.f k a2_1 2).bind fun t240 => (if t239.size + t240.size ≤ 9223372036854775807 then ((sternpostref02_Text.f k a2_2 4).bind fun t241 => (if (t239 ++ t240).size + t241.size ≤ 9223372036854775807 then ((sternpostref02_Text.f k a2_3 4).bind fun t242 => (if ((t239 ++ t240) ++ t241).size + t242.size ≤ 9223372036854775807 then ((some (([(wrap64 ((wrap64 (Int.tdiv (wrap64 (20 + (t238.size : Int))) 4)) * 16)) % 256, (a2_4) % 256] : List Int) : List Int)).bind fun y243 => (if (((t239 ++ t240) ++ t241) ++ t242).size + (strOfNums y243).size ≤ 9223372036854775807 then ((sternpostref02_Text.f k a2_5 2).bind fun t246 => (if ((((t239 ++ t240) ++ t241) ++ t242) ++ (strOfNums y243)).size + t246.size ≤ 9223372036854775807 then (if (((((t239 ++ t240) ++ t241) ++ t242) ++ (strOfNums y243)) ++ t246).size + 2 ≤ 9223372036854775807 then ((sternpostref02_Text.f k a2_6 2).bind fun t247 => (if ((((((t239 ++ t240) ++ t241) ++ t242) ++ (strOfNums y243)) ++ t246) ++ (⟨#[0, 0]⟩ : ByteArray)).size + t247.size ≤ 9223372036854775807 then (if (((((((t239 ++ t240) ++ t241) ++ t242) ++ (strOfNums y243)) ++ t246) ++ (⟨#[0, 0]⟩ : ByteArray)) ++ t247).size + t238.size ≤ 9223372036854775807 then (if ((((((((t239 ++ t240) ++ t241) ++ t242) ++ (strOfNums y243)) ++ t246) ++ (⟨#[0, 0]⟩ : ByteArray)) ++ t247) ++ t238).size + a2_15.size ≤ 9223372036854775807 then ((sternpostref02_Pseudo.f k a0 a1 6 ((((((((((t239 ++ t240) ++ t241) ++ t242) ++ (strOfNums y243)) ++ t246) ++ (⟨#[0, 0]⟩ : ByteArray)) ++ t247) ++ t238) ++ a2_15).size : Int)).bind fun bt248 => (if 0 ≤ 16 then (if 16 ≤ ((((((((((t239 ++ t240) ++ t241) ++ t242) ++ (strOfNums y243)) ++ t246) ++ (⟨#[0, 0]⟩ : ByteArray)) ++ t247) ++ t238) ++ a2_15).size : Int) then (if bt248.1.size + (((((((((t239 ++ t240) ++ t241) ++ t242) ++ (strOfNums y243)) ++ t246) ++ (⟨#[0, 0]⟩ : ByteArray)) ++ t247) ++ t238) ++ a2_15).size ≤ 9223372036854775807 then ((sternpostref02_Sum.f k (bt248.1 ++ (((((((((t239 ++ t240) ++ t241) ++ t242) ++ (strOfNums y243)) ++ t246) ++ (⟨#[0, 0]⟩ : ByteArray)) ++ t247) ++ t238) ++ a2_15))).bind fun t250 => ((sternpostref02_Text.f k t250 2).bind fun t251 => (if ((((((((((t239 ++ t240) ++ t241) ++ t242) ++ (strOfNums y243)) ++ t246) ++ (⟨#[0, 0]⟩ : ByteArray)) ++ t247) ++ t238) ++ a2_15).extract 0 16).size + t251.size ≤ 9223372036854775807 then (if 18 ≤ ((((((((((t239 ++ t240) ++ t241) ++ t242) ++ (strOfNums y243)) ++ t246) ++ (⟨#[0, 0]⟩ : ByteArray)) ++ t247) ++ t238) ++ a2_15).size : Int) then (if (((((((((((t239 ++ t240) ++ t241) ++ t242) ++ (strOfNums y243)) ++ t246) ++ (⟨#[0, 0]⟩ : ByteArray)) ++ t247) ++ t238) ++ a2_15).extract 0 16) ++ t251).size + ((((((((((t239 ++ t240) ++ t241) ++ t242) ++ (strOfNums y243)) ++ t246) ++ (⟨#[0, 0]⟩ : ByteArray)) ++ t247) ++ t238) ++ a2_15).extract 18 (((((((((t239 ++ t240) ++ t241) ++ t242) ++ (strOfNums y243)) ++ t246) ++ (⟨#[0, 0]⟩ : ByteArray)) ++ t247) ++ t238) ++ a2_15).size).size ≤ 9223372036854775807 then (some ((((((((((((t239 ++ t240) ++ t241) ++ t242) ++ (strOfNums y243)) ++ t246) ++ (⟨#[0, 0]⟩ : ByteArray)) ++ t247) ++ t238) ++ a2_15).extract 0 16) ++ t251) ++ ((((((((((t239 ++ t240) ++ t241) ++ t242) ++ (strOfNums y243)) ++ t246) ++ (⟨#[0, 0]⟩ : ByteArray)) ++ t247) ++ t238) ++ a2_15).extract 18 (((((((((t239 ++ t240) ++ t241) ++ t242) ++ (strOfNums y243)) ++ t246) ++ (⟨#[0, 0]⟩ : ByteArray)) ++ t247) ++ t238) ++ a2_15).size))) else (none)) else (none)) else (none)))) else (none)) else (none)) else (none))) else (none)) else (none)) else (none))) else (none)) else (none))) else (none))) else (none))) else (none))) else (none))))) = some r := h
 clear h; replace H := Option.bind_eq_some_iff.mp H; obtain ⟨t238, A40, H⟩ := H; (try dsimp only at H); have A4 := Aside0.mk A40; clear A40; replace H := Option.bind_eq_some_iff.mp H; obtain ⟨t239, A50, H⟩ := H; (try dsimp only at H); have A5 := Aside0.mk A50; clear A50; replace H := Option.bind_eq_some_iff.mp H; obtain ⟨t240, A60, H⟩ := H; (try dsimp only at H); have A6 := Aside0.mk A60; clear A60
 by_cases c7 : t239.size + t240.size ≤ 9223372036854775807
 rotate_left
 · rw [if_neg c7] at H
   exact absurd H (by simp)
 rw [if_pos c7] at H; have c7b0 := eq_true c7
 have c7b1 : decide (t239.size + t240.size ≤ 9223372036854775807) = true := decide_eq_true c7
 try have c7b2 : (9223372036854775807 < t239.size + t240.size) = False := eq_false (Nat.not_lt.2 c7)
 replace H := Option.bind_eq_some_iff.mp H; obtain ⟨t241, A80, H⟩ := H; (try dsimp only at H); have A8 := Aside0.mk A80; clear A80
 by_cases c9 : (t239 ++ t240).size + t241.size ≤ 9223372036854775807
 rotate_left
 · rw [if_neg c9] at H
   exact absurd H (by simp)
 rw [if_pos c9] at H; have c9b0 := eq_true c9
 have c9b1 : decide ((t239 ++ t240).size + t241.size ≤ 9223372036854775807) = true := decide_eq_true c9
 try have c9b2 : (9223372036854775807 < (t239 ++ t240).size + t241.size) = False := eq_false (Nat.not_lt.2 c9)
 (try (have c9b3 : (9223372036854775807 < t239.size + t240.size + t241.size) = False := by have h_ := c9b2; simp only [ByteArray.size_append, ByteArray.size_extract, Nat.min_self, Nat.sub_zero] at h_; with_reducible exact h_))
 replace H := Option.bind_eq_some_iff.mp H; obtain ⟨t242, A100, H⟩ := H; (try dsimp only at H); have A10 := Aside0.mk A100; clear A100
 by_cases c11 : ((t239 ++ t240) ++ t241).size + t242.size ≤ 9223372036854775807
 rotate_left
 · rw [if_neg c11] at H
   exact absurd H (by simp)
 rw [if_pos c11] at H; have c11b0 := eq_true c11
 have c11b1 : decide (((t239 ++ t240) ++ t241).size + t242.size ≤ 9223372036854775807) = true := decide_eq_true c11
 try have c11b2 : (9223372036854775807 < ((t239 ++ t240) ++ t241).size + t242.size) = False := eq_false (Nat.not_lt.2 c11)
 (try (have c11b3 : (9223372036854775807 < t239.size + t240.size + t241.size + t242.size) = False := by have h_ := c11b2; simp only [ByteArray.size_append, ByteArray.size_extract, Nat.min_self, Nat.sub_zero] at h_; with_reducible exact h_))
 obtain ⟨y243, hy243⟩ : ∃ y_ : List Int, y_ = (([(wrap64 ((wrap64 (Int.tdiv (wrap64 (20 + (t238.size : Int))) 4)) * 16)) % 256, (a2_4) % 256] : List Int)) := ⟨_, rfl⟩
 replace H : (if (((t239 ++ t240) ++ t241) ++ t242).size + (strOfNums y243).size ≤ 9223372036854775807 then ((sternpostref02_Text.f k a2_5 2).bind fun t246 => (if ((((t239 ++ t240) ++ t241) ++ t242) ++ (strOfNums y243)).size + t246.size ≤ 9223372036854775807 then (if (((((t239 ++ t240) ++ t241) ++ t242) ++ (strOfNums y243)) ++ t246).size + 2 ≤ 9223372036854775807 then ((sternpostref02_Text.f k a2_6 2).bind fun t247 => (if ((((((t239 ++ t240) ++ t241) ++ t242) ++ (strOfNums y243)) ++ t246) ++ (⟨#[0, 0]⟩ : ByteArray)).size + t247.size ≤ 9223372036854775807 then (if (((((((t239 ++ t240) ++ t241) ++ t242) ++ (strOfNums y243)) ++ t246) ++ (⟨#[0, 0]⟩ : ByteArray)) ++ t247).size + t238.size ≤ 9223372036854775807 then (if ((((((((t239 ++ t240) ++ t241) ++ t242) ++ (strOfNums y243)) ++ t246) ++ (⟨#[0, 0]⟩ : ByteArray)) ++ t247) ++ t238).size + a2_15.size ≤ 9223372036854775807 then ((sternpostref02_Pseudo.f k a0 a1 6 ((((((((((t239 ++ t240) ++ t241) ++ t242) ++ (strOfNums y243)) ++ t246) ++ (⟨#[0, 0]⟩ : ByteArray)) ++ t247) ++ t238) ++ a2_15).size : Int)).bind fun bt248 => (if 0 ≤ 16 then (if 16 ≤ ((((((((((t239 ++ t240) ++ t241) ++ t242) ++ (strOfNums y243)) ++ t246) ++ (⟨#[0, 0]⟩ : ByteArray)) ++ t247) ++ t238) ++ a2_15).size : Int) then (if bt248.1.size + (((((((((t239 ++ t240) ++ t241) ++ t242) ++ (strOfNums y243)) ++ t246) ++ (⟨#[0, 0]⟩ : ByteArray)) ++ t247) ++ t238) ++ a2_15).size ≤ 9223372036854775807 then ((sternpostref02_Sum.f k (bt248.1 ++ (((((((((t239 ++ t240) ++ t241) ++ t242) ++ (strOfNums y243)) ++ t246) ++ (⟨#[0, 0]⟩ : ByteArray)) ++ t247) ++ t238) ++ a2_15))).bind fun t250 => ((sternpostref02_Text.f k t250 2).bind fun t251 => (if ((((((((((t239 ++ t240) ++ t241) ++ t242) ++ (strOfNums y243)) ++ t246) ++ (⟨#[0, 0]⟩ : ByteArray)) ++ t247) ++ t238) ++ a2_15).extract 0 16).size + t251.size ≤ 9223372036854775807 then (if 18 ≤ ((((((((((t239 ++ t240) ++ t241) ++ t242) ++ (strOfNums y243)) ++ t246) ++ (⟨#[0, 0]⟩ : ByteArray)) ++ t247) ++ t238) ++ a2_15).size : Int) then (if (((((((((((t239 ++ t240) ++ t241) ++ t242) ++ (strOfNums y243)) ++ t246) ++ (⟨#[0, 0]⟩ : ByteArray)) ++ t247) ++ t238) ++ a2_15).extract 0 16) ++ t251).size + ((((((((((t239 ++ t240) ++ t241) ++ t242) ++ (strOfNums y243)) ++ t246) ++ (⟨#[0, 0]⟩ : ByteArray)) ++ t247) ++ t238) ++ a2_15).extract 18 (((((((((t239 ++ t240) ++ t241) ++ t242) ++ (strOfNums y243)) ++ t246) ++ (⟨#[0, 0]⟩ : ByteArray)) ++ t247) ++ t238) ++ a2_15).size).size ≤ 9223372036854775807 then (some ((((((((((((t239 ++ t240) ++ t241) ++ t242) ++ (strOfNums y243)) ++ t246) ++ (⟨#[0, 0]⟩ : ByteArray)) ++ t247) ++ t238) ++ a2_15).extract 0 16) ++ t251) ++ ((((((((((t239 ++ t240) ++ t241) ++ t242) ++ (strOfNums y243)) ++ t246) ++ (⟨#[0, 0]⟩ : ByteArray)) ++ t247) ++ t238) ++ a2_15).extract 18 (((((((((t239 ++ t240) ++ t241) ++ t242) ++ (strOfNums y243)) ++ t246) ++ (⟨#[0, 0]⟩ : ByteArray)) ++ t247) ++ t238) ++ a2_15).size))) else (none)) else (none)) else (none)))) else (none)) else (none)) else (none))) else (none)) else (none)) else (none))) else (none)) else (none))) else (none)) = some r := by first | (rw [hy243]; with_reducible exact H) | (have H2_ := (Option.bind_some _ _).symm.trans H; rw [hy243]; with_reducible exact H2_) | (have H2_ := (Option.bind_some _ _).symm.trans H; with_reducible exact H2_) | with_reducible exact H | (rw [hy243]; exact H) | exact H
 have Ny243 := Aside0.mk hy243; clear hy243
 by_cases c12 : (((t239 ++ t240) ++ t241) ++ t242).size + (strOfNums y243).size ≤ 9223372036854775807
 rotate_left
 · rw [if_neg c12] at H
   exact absurd H (by simp)
 rw [if_pos c12] at H; have c12b0 := eq_true c12
 have c12b1 : decide ((((t239 ++ t240) ++ t241) ++ t242).size + (strOfNums y243).size ≤ 9223372036854775807) = true := decide_eq_true c12
 try have c12b2 : (9223372036854775807 < (((t239 ++ t240) ++ t241) ++ t242).size + (strOfNums y243).size) = False := eq_false (Nat.not_lt.2 c12)
 (try (have c12b3 : (9223372036854775807 < t239.size + t240.size + t241.size + t242.size + (strOfNums y243).size) = False := by have h_ := c12b2; simp only [ByteArray.size_append, ByteArray.size_extract, Nat.min_self, Nat.sub_zero] at h_; with_reducible exact h_))
 replace H := Option.bind_eq_some_iff.mp H; obtain ⟨t246, A130, H⟩ := H; (try dsimp only at H); have A13 := Aside0.mk A130; clear A130
 by_cases c14 : ((((t239 ++ t240) ++ t241) ++ t242) ++ (strOfNums y243)).size + t246.size ≤ 9223372036854775807
 rotate_left
 · rw [if_neg c14] at H
   exact absurd H (by simp)
 rw [if_pos c14] at H; have c14b0 := eq_true c14
 have c14b1 : decide (((((t239 ++ t240) ++ t241) ++ t242) ++ (strOfNums y243)).size + t246.size ≤ 9223372036854775807) = true := decide_eq_true c14
 try have c14b2 : (9223372036854775807 < ((((t239 ++ t240) ++ t241) ++ t242) ++ (strOfNums y243)).size + t246.size) = False := eq_false (Nat.not_lt.2 c14)
 (try (have c14b3 : (9223372036854775807 < t239.size + t240.size + t241.size + t242.size + (strOfNums y243).size + t246.size) = False := by have h_ := c14b2; simp only [ByteArray.size_append, ByteArray.size_extract, Nat.min_self, Nat.sub_zero] at h_; with_reducible exact h_))
 by_cases c15 : (((((t239 ++ t240) ++ t241) ++ t242) ++ (strOfNums y243)) ++ t246).size + 2 ≤ 9223372036854775807
 rotate_left
 · rw [if_neg c15] at H
   exact absurd H (by simp)
 rw [if_pos c15] at H; have c15b0 := eq_true c15
 have c15b1 : decide ((((((t239 ++ t240) ++ t241) ++ t242) ++ (strOfNums y243)) ++ t246).size + 2 ≤ 9223372036854775807) = true := decide_eq_true c15
 try have c15b2 : (9223372036854775807 < (((((t239 ++ t240) ++ t241) ++ t242) ++ (strOfNums y243)) ++ t246).size + 2) = False := eq_false (Nat.not_lt.2 c15)
 (try (have c15b3 : (9223372036854775807 < t239.size + t240.size + t241.size + t242.size + (strOfNums y243).size + t246.size + 2) = False := by have h_ := c15b2; simp only [ByteArray.size_append, ByteArray.size_extract, Nat.min_self, Nat.sub_zero] at h_; with_reducible exact h_))
 replace H := Option.bind_eq_some_iff.mp H; obtain ⟨t247, A160, H⟩ := H; (try dsimp only at H); have A16 := Aside0.mk A160; clear A160
 by_cases c17 : ((((((t239 ++ t240) ++ t241) ++ t242) ++ (strOfNums y243)) ++ t246) ++ (⟨#[0, 0]⟩ : ByteArray)).size + t247.size ≤ 9223372036854775807
 rotate_left
 · rw [if_neg c17] at H
   exact absurd H (by simp)
 rw [if_pos c17] at H; have c17b0 := eq_true c17
 have c17b1 : decide (((((((t239 ++ t240) ++ t241) ++ t242) ++ (strOfNums y243)) ++ t246) ++ (⟨#[0, 0]⟩ : ByteArray)).size + t247.size ≤ 9223372036854775807) = true := decide_eq_true c17
 try have c17b2 : (9223372036854775807 < ((((((t239 ++ t240) ++ t241) ++ t242) ++ (strOfNums y243)) ++ t246) ++ (⟨#[0, 0]⟩ : ByteArray)).size + t247.size) = False := eq_false (Nat.not_lt.2 c17)
 (try (have c17b3 : (9223372036854775807 < t239.size + t240.size + t241.size + t242.size + (strOfNums y243).size + t246.size + 2 + t247.size) = False := by have h_ := c17b2; simp only [ByteArray.size_append, ByteArray.size_extract, Nat.min_self, Nat.sub_zero, show ((⟨#[0, 0]⟩ : ByteArray)).size = 2 from rfl] at h_; with_reducible exact h_))
 by_cases c18 : (((((((t239 ++ t240) ++ t241) ++ t242) ++ (strOfNums y243)) ++ t246) ++ (⟨#[0, 0]⟩ : ByteArray)) ++ t247).size + t238.size ≤ 9223372036854775807
 rotate_left
 · rw [if_neg c18] at H
   exact absurd H (by simp)
 rw [if_pos c18] at H; have c18b0 := eq_true c18
 have c18b1 : decide ((((((((t239 ++ t240) ++ t241) ++ t242) ++ (strOfNums y243)) ++ t246) ++ (⟨#[0, 0]⟩ : ByteArray)) ++ t247).size + t238.size ≤ 9223372036854775807) = true := decide_eq_true c18
 try have c18b2 : (9223372036854775807 < (((((((t239 ++ t240) ++ t241) ++ t242) ++ (strOfNums y243)) ++ t246) ++ (⟨#[0, 0]⟩ : ByteArray)) ++ t247).size + t238.size) = False := eq_false (Nat.not_lt.2 c18)
 (try (have c18b3 : (9223372036854775807 < t239.size + t240.size + t241.size + t242.size + (strOfNums y243).size + t246.size + 2 + t247.size + t238.size) = False := by have h_ := c18b2; simp only [ByteArray.size_append, ByteArray.size_extract, Nat.min_self, Nat.sub_zero, show ((⟨#[0, 0]⟩ : ByteArray)).size = 2 from rfl] at h_; with_reducible exact h_))
 by_cases c19 : ((((((((t239 ++ t240) ++ t241) ++ t242) ++ (strOfNums y243)) ++ t246) ++ (⟨#[0, 0]⟩ : ByteArray)) ++ t247) ++ t238).size + a2_15.size ≤ 9223372036854775807
 rotate_left
 · rw [if_neg c19] at H
   exact absurd H (by simp)
 rw [if_pos c19] at H; have c19b0 := eq_true c19
 have c19b1 : decide (((((((((t239 ++ t240) ++ t241) ++ t242) ++ (strOfNums y243)) ++ t246) ++ (⟨#[0, 0]⟩ : ByteArray)) ++ t247) ++ t238).size + a2_15.size ≤ 9223372036854775807) = true := decide_eq_true c19
 try have c19b2 : (9223372036854775807 < ((((((((t239 ++ t240) ++ t241) ++ t242) ++ (strOfNums y243)) ++ t246) ++ (⟨#[0, 0]⟩ : ByteArray)) ++ t247) ++ t238).size + a2_15.size) = False := eq_false (Nat.not_lt.2 c19)
 (try (have c19b3 : (9223372036854775807 < t239.size + t240.size + t241.size + t242.size + (strOfNums y243).size + t246.size + 2 + t247.size + t238.size + a2_15.size) = False := by have h_ := c19b2; simp only [ByteArray.size_append, ByteArray.size_extract, Nat.min_self, Nat.sub_zero, show ((⟨#[0, 0]⟩ : ByteArray)).size = 2 from rfl] at h_; with_reducible exact h_))
 replace H := Option.bind_eq_some_iff.mp H; obtain ⟨⟨t248, t249⟩, A200, H⟩ := H; (try dsimp only at H); have A20 := Aside0.mk A200; clear A200
 by_cases c21 : 0 ≤ 16
 rotate_left
 · rw [if_neg c21] at H
   exact absurd H (by simp)
 rw [if_pos c21] at H; have c21b0 := eq_true c21
 have c21b1 : decide (0 ≤ 16) = true := decide_eq_true c21
 clear c21
 by_cases c22 : 16 ≤ ((((((((((t239 ++ t240) ++ t241) ++ t242) ++ (strOfNums y243)) ++ t246) ++ (⟨#[0, 0]⟩ : ByteArray)) ++ t247) ++ t238) ++ a2_15).size : Int)
 rotate_left
 · rw [if_neg c22] at H
   exact absurd H (by simp)
 rw [if_pos c22] at H; have c22b0 := eq_true c22
 have c22b1 : decide (16 ≤ ((((((((((t239 ++ t240) ++ t241) ++ t242) ++ (strOfNums y243)) ++ t246) ++ (⟨#[0, 0]⟩ : ByteArray)) ++ t247) ++ t238) ++ a2_15).size : Int)) = true := decide_eq_true c22
 (try (have c22b0s := c22b0; simp only [ByteArray.size_append, Int.natCast_add, Int.cast_ofNat_Int, show ((⟨#[0, 0]⟩ : ByteArray)).size = 2 from rfl] at c22b0s))
 (try (have c22b1s := c22b1; simp only [ByteArray.size_append, Int.natCast_add, Int.cast_ofNat_Int, show ((⟨#[0, 0]⟩ : ByteArray)).size = 2 from rfl] at c22b1s))
 by_cases c23 : t248.size + (((((((((t239 ++ t240) ++ t241) ++ t242) ++ (strOfNums y243)) ++ t246) ++ (⟨#[0, 0]⟩ : ByteArray)) ++ t247) ++ t238) ++ a2_15).size ≤ 9223372036854775807
 rotate_left
 · rw [if_neg c23] at H
   exact absurd H (by simp)
 rw [if_pos c23] at H; have c23b0 := eq_true c23
 have c23b1 : decide (t248.size + (((((((((t239 ++ t240) ++ t241) ++ t242) ++ (strOfNums y243)) ++ t246) ++ (⟨#[0, 0]⟩ : ByteArray)) ++ t247) ++ t238) ++ a2_15).size ≤ 9223372036854775807) = true := decide_eq_true c23
 try have c23b2 : (9223372036854775807 < t248.size + (((((((((t239 ++ t240) ++ t241) ++ t242) ++ (strOfNums y243)) ++ t246) ++ (⟨#[0, 0]⟩ : ByteArray)) ++ t247) ++ t238) ++ a2_15).size) = False := eq_false (Nat.not_lt.2 c23)
 (try (have c23b3 : (9223372036854775807 < t248.size + (t239.size + t240.size + t241.size + t242.size + (strOfNums y243).size + t246.size + 2 + t247.size + t238.size + a2_15.size)) = False := by have h_ := c23b2; simp only [ByteArray.size_append, ByteArray.size_extract, Nat.min_self, Nat.sub_zero, show ((⟨#[0, 0]⟩ : ByteArray)).size = 2 from rfl] at h_; with_reducible exact h_))
 replace H := Option.bind_eq_some_iff.mp H; obtain ⟨t250, A240, H⟩ := H; (try dsimp only at H); have A24 := Aside0.mk A240; clear A240; replace H := Option.bind_eq_some_iff.mp H; obtain ⟨t251, A250, H⟩ := H; (try dsimp only at H); have A25 := Aside0.mk A250; clear A250
 by_cases c26 : ((((((((((t239 ++ t240) ++ t241) ++ t242) ++ (strOfNums y243)) ++ t246) ++ (⟨#[0, 0]⟩ : ByteArray)) ++ t247) ++ t238) ++ a2_15).extract 0 16).size + t251.size ≤ 9223372036854775807
 rotate_left
 · rw [if_neg c26] at H
   exact absurd H (by simp)
 rw [if_pos c26] at H; have c26b0 := eq_true c26
 have c26b1 : decide (((((((((((t239 ++ t240) ++ t241) ++ t242) ++ (strOfNums y243)) ++ t246) ++ (⟨#[0, 0]⟩ : ByteArray)) ++ t247) ++ t238) ++ a2_15).extract 0 16).size + t251.size ≤ 9223372036854775807) = true := decide_eq_true c26
 try have c26b2 : (9223372036854775807 < ((((((((((t239 ++ t240) ++ t241) ++ t242) ++ (strOfNums y243)) ++ t246) ++ (⟨#[0, 0]⟩ : ByteArray)) ++ t247) ++ t238) ++ a2_15).extract 0 16).size + t251.size) = False := eq_false (Nat.not_lt.2 c26)
 (try (have c26b3 : (9223372036854775807 < min 16 (t239.size + t240.size + t241.size + t242.size + (strOfNums y243).size + t246.size + 2 + t247.size + t238.size + a2_15.size) + t251.size) = False := by have h_ := c26b2; simp only [ByteArray.size_append, ByteArray.size_extract, Nat.min_self, Nat.sub_zero, show ((⟨#[0, 0]⟩ : ByteArray)).size = 2 from rfl] at h_; with_reducible exact h_))
 by_cases c27 : 18 ≤ ((((((((((t239 ++ t240) ++ t241) ++ t242) ++ (strOfNums y243)) ++ t246) ++ (⟨#[0, 0]⟩ : ByteArray)) ++ t247) ++ t238) ++ a2_15).size : Int)
 rotate_left
 · rw [if_neg c27] at H
   exact absurd H (by simp)
 rw [if_pos c27] at H; have c27b0 := eq_true c27
 have c27b1 : decide (18 ≤ ((((((((((t239 ++ t240) ++ t241) ++ t242) ++ (strOfNums y243)) ++ t246) ++ (⟨#[0, 0]⟩ : ByteArray)) ++ t247) ++ t238) ++ a2_15).size : Int)) = true := decide_eq_true c27
 (try (have c27b0s := c27b0; simp only [ByteArray.size_append, Int.natCast_add, Int.cast_ofNat_Int, show ((⟨#[0, 0]⟩ : ByteArray)).size = 2 from rfl] at c27b0s))
 (try (have c27b1s := c27b1; simp only [ByteArray.size_append, Int.natCast_add, Int.cast_ofNat_Int, show ((⟨#[0, 0]⟩ : ByteArray)).size = 2 from rfl] at c27b1s))
 by_cases c28 : (((((((((((t239 ++ t240) ++ t241) ++ t242) ++ (strOfNums y243)) ++ t246) ++ (⟨#[0, 0]⟩ : ByteArray)) ++ t247) ++ t238) ++ a2_15).extract 0 16) ++ t251).size + ((((((((((t239 ++ t240) ++ t241) ++ t242) ++ (strOfNums y243)) ++ t246) ++ (⟨#[0, 0]⟩ : ByteArray)) ++ t247) ++ t238) ++ a2_15).extract 18 (((((((((t239 ++ t240) ++ t241) ++ t242) ++ (strOfNums y243)) ++ t246) ++ (⟨#[0, 0]⟩ : ByteArray)) ++ t247) ++ t238) ++ a2_15).size).size ≤ 9223372036854775807
 rotate_left
 · rw [if_neg c28] at H
   exact absurd H (by simp)
 rw [if_pos c28] at H; have c28b0 := eq_true c28
 have c28b1 : decide ((((((((((((t239 ++ t240) ++ t241) ++ t242) ++ (strOfNums y243)) ++ t246) ++ (⟨#[0, 0]⟩ : ByteArray)) ++ t247) ++ t238) ++ a2_15).extract 0 16) ++ t251).size + ((((((((((t239 ++ t240) ++ t241) ++ t242) ++ (strOfNums y243)) ++ t246) ++ (⟨#[0, 0]⟩ : ByteArray)) ++ t247) ++ t238) ++ a2_15).extract 18 (((((((((t239 ++ t240) ++ t241) ++ t242) ++ (strOfNums y243)) ++ t246) ++ (⟨#[0, 0]⟩ : ByteArray)) ++ t247) ++ t238) ++ a2_15).size).size ≤ 9223372036854775807) = true := decide_eq_true c28
 try have c28b2 : (9223372036854775807 < (((((((((((t239 ++ t240) ++ t241) ++ t242) ++ (strOfNums y243)) ++ t246) ++ (⟨#[0, 0]⟩ : ByteArray)) ++ t247) ++ t238) ++ a2_15).extract 0 16) ++ t251).size + ((((((((((t239 ++ t240) ++ t241) ++ t242) ++ (strOfNums y243)) ++ t246) ++ (⟨#[0, 0]⟩ : ByteArray)) ++ t247) ++ t238) ++ a2_15).extract 18 (((((((((t239 ++ t240) ++ t241) ++ t242) ++ (strOfNums y243)) ++ t246) ++ (⟨#[0, 0]⟩ : ByteArray)) ++ t247) ++ t238) ++ a2_15).size).size) = False := eq_false (Nat.not_lt.2 c28)
 (try (have c28b3 : (9223372036854775807 < min 16 (t239.size + t240.size + t241.size + t242.size + (strOfNums y243).size + t246.size + 2 + t247.size + t238.size + a2_15.size) + t251.size + (((t239.size + t240.size + t241.size + t242.size + (strOfNums y243).size + t246.size + 2 + t247.size + t238.size + a2_15.size) - 18))) = False := by have h_ := c28b2; simp only [ByteArray.size_append, ByteArray.size_extract, Nat.min_self, Nat.sub_zero, show ((⟨#[0, 0]⟩ : ByteArray)).size = 2 from rfl] at h_; with_reducible exact h_))
 as_aux_lemma =>
  obtain rfl := Option.some.inj H
  go_enter Try.func26, Try.ntmps26
  try go_wp2_with (first | ((with_reducible refine gate_dst (N := 5) rfl ?_); refine box_event ?hg (N := 5) ?hd (cs := #[.int .i64 a2_0, .int .i64 a2_1, .int .i64 a2_2, .int .i64 a2_3, .int .i64 a2_4, .int .i64 a2_5, .int .i64 a2_6, .int .i64 a2_7, .int .i64 a2_8, .int .i64 a2_9, .int .i64 a2_10, .bool a2_11, .bool a2_12, .bool a2_13, .slice A2_14 l2_14.length c2_14, .string a2_15]) (t := 28) ?hr ?_; (case hd => rfl); (case hg => rfl); (case hr => go_simp; first | done | (simp only [IntKind.wrap_u8]; done) | rfl); intro gb237 hg w29 hbox hb; have BK237 := Aside0.mk (hbox); have GW237 := gz_ (be0_ HB) hg; have GE237 := gz_ (be0_ HB) hg; replace HB := bs0_ HB hb; clear hb hbox hg; have hcz30 := cf16 BK237) | ((with_reducible refine gate_callee (f := 44) rfl ?_); refine goesL_ (some 13) rfl rfl Try.func44 (by kernel_rfl) rfl #[.agg #[.int .i64 a2_7, .int .i64 a2_8, .int .i64 a2_9, .int .i64 a2_10, .bool a2_11, .bool a2_12, .bool a2_13, .slice A2_14 l2_14.length c2_14]] rfl ga_ ?_; (with_reducible refine (sternpostref07_Bytes.calls k a2_7 a2_8 a2_9 a2_10 a2_11 a2_12 a2_13 _ _ l2_14 t238 _ ?side1 ?side2 A4.out).mono ?_); (case side1 => exact cb_ HR2_14 HB); (case side2 => exact HC2_14.out); rintro e w31 ⟨rfl, hb⟩; refine ⟨_, rfl, ?_⟩; replace BK237 := kb_ BK237 hb; replace HB := bs1_ HB GE237 hb; (try clear hb)))
  replace BK237 := Aside0.mk (blk_drew BK237.out); replace HB := Aside0.mk (below_drew1 HB.out)
  refine start_ (n := 42) (S := fun w' => w'.cell? ⟨gb237, 0, none⟩ = some (.int .i64 a2_0) ∧ w'.cell? ⟨gb237, 1, none⟩ = some (.int .i64 a2_1) ∧ w'.cell? ⟨gb237, 2, none⟩ = some (.int .i64 a2_2) ∧ w'.cell? ⟨gb237, 3, none⟩ = some (.int .i64 a2_3) ∧ w'.cell? ⟨gb237, 4, none⟩ = some (.int .i64 a2_4) ∧ w'.cell? ⟨gb237, 5, none⟩ = some (.int .i64 a2_5) ∧ w'.cell? ⟨gb237, 6, none⟩ = some (.int .i64 a2_6) ∧ w'.cell? ⟨gb237, 7, none⟩ = some (.int .i64 a2_7) ∧ w'.cell? ⟨gb237, 8, none⟩ = some (.int .i64 a2_8) ∧ w'.cell? ⟨gb237, 9, none⟩ = some (.int .i64 a2_9) ∧ w'.cell? ⟨gb237, 10, none⟩ = some (.int .i64 a2_10) ∧ w'.cell? ⟨gb237, 11, none⟩ = some (.bool a2_11) ∧ w'.cell? ⟨gb237, 12, none⟩ = some (.bool a2_12) ∧ w'.cell? ⟨gb237, 13, none⟩ = some (.bool a2_13) ∧ w'.cell? ⟨gb237, 14, none⟩ = some (.slice A2_14 l2_14.length c2_14) ∧ w'.cell? ⟨gb237, 15, none⟩ = some (.string a2_15)) (ds := []) (bz 42 0) (by kernel_rfl) rfl rfl ⟨bc BK237 0, bc BK237 1, bc BK237 2, bc BK237 3, bc BK237 4, bc BK237 5, bc BK237 6, bc BK237 7, bc BK237 8, bc BK237 9, bc BK237 10, bc BK237 11, bc BK237 12, bc BK237 13, bc BK237 14, bc BK237 15⟩ (fun hHeld => ?_); refine with_tabW sternpostref08_Bytes.tab2 sternpostref08_Bytes.bits2 (fun HT_ HW_ => ?_)
  generalize w31.drew = w32 at BK237 HB hHeld ⊢
  refine pure_ (i := 0) (N := some 14) (v := ?_) (a' := ?_) (bz 42 1) rfl rfl (any_of HT_.out (by kernel_rfl)) (fun _ _ _ h => h) (Or.inl ⟨by rfl, ?_⟩) ?_ ?_
  rotate_left
  · intro w'; go_simp; (with_reducible rfl)
  rotate_left
  · simp only [Act.put, s_0, s_1, s_2, i64_w, i32_w]; rfl
  refine pure_ (i := 3) (N := some 17) (v := ?_) (a' := ?_) (bz 42 9) rfl rfl (any_of HT_.out (by kernel_rfl)) (fun _ _ _ h => h) (Or.inl ⟨by rfl, ?_⟩) ?_ ?_
  rotate_left
  · intro w'; go_simp; (with_reducible rfl)
  rotate_left
  · simp only [Act.put, s_0, s_1, s_2, i64_w, i32_w]; rfl
  refine pure_ (i := 7) (N := some 21) (v := ?_) (a' := ?_) (bz 42 137) rfl rfl (any_of HT_.out (by kernel_rfl)) (fun _ _ _ h => h) (Or.inl ⟨by rfl, ?_⟩) ?_ ?_
  rotate_left
  · intro w'; go_simp; (with_reducible rfl)
  rotate_left
  · simp only [Act.put, s_0, s_1, s_2, i64_w, i32_w]; rfl
  refine pure_ (i := 11) (N := some 25) (v := ?_) (a' := ?_) (bz 42 2185) rfl rfl (any_of HT_.out (by kernel_rfl)) (fun _ _ _ h => h) (Or.inl ⟨by rfl, ?_⟩) ?_ ?_
  rotate_left
  · intro w'; go_simp; (with_reducible rfl)
  rotate_left
  · simp only [Act.put, s_0, s_1, s_2, i64_w, i32_w]; rfl
  refine pure_ (i := 15) (N := some 29) (v := ?_) (a' := ?_) (bz 42 34953) rfl rfl (any_of HT_.out (by kernel_rfl)) (fun _ _ _ h => h) (Or.inl ⟨by rfl, ?_⟩) ?_ ?_
  rotate_left
  · intro w'; go_simp; (with_reducible rfl)
  rotate_left
  · simp only [Act.put, s_0, s_1, s_2, i64_w, i32_w]; rfl
  refine pure_ (i := 16) (N := some 30) (v := ?_) (a' := ?_) (bz 42 100489) rfl rfl (any_of HT_.out (by kernel_rfl)) (fun _ _ _ h => h) (Or.inl ⟨by rfl, ?_⟩) ?_ ?_
  rotate_left
  · intro w'; go_simp; (with_reducible rfl)
  rotate_left
  · simp only [Act.put, s_0, s_1, s_2, i64_w, i32_w]; rfl
  refine pure_ (i := 17) (N := some 31) (v := ?_) (a' := ?_) (bz 42 231561) rfl rfl (any_of HT_.out (by kernel_rfl)) (fun _ _ _ h => h) (Or.inl ⟨by rfl, ?_⟩) ?_ ?_
  rotate_left
  · intro w'; go_simp; (with_reducible rfl)
  rotate_left
  · simp only [Act.put, s_0, s_1, s_2, i64_w, i32_w]; rfl
  refine pure_ (i := 18) (N := some 32) (v := ?_) (a' := ?_) (bz 42 493705) rfl rfl (any_of HT_.out (by kernel_rfl)) (fun _ _ _ h => h) (Or.inl ⟨by rfl, ?_⟩) ?_ ?_
  rotate_left
  · intro w'; go_simp; (with_reducible rfl)
  rotate_left
  · simp only [Act.put, s_0, s_1, s_2, i64_w, i32_w]; rfl
  refine pure_ (i := 19) (N := some 33) (v := ?_) (a' := ?_) (bz 42 1017993) rfl rfl (any_of HT_.out (by kernel_rfl)) (fun _ _ _ h => h) (Or.inl ⟨by rfl, ?_⟩) ?_ ?_
  rotate_left
  · intro w'; go_simp; (with_reducible rfl)
  rotate_left
  · simp only [Act.put, s_0, s_1, s_2, i64_w, i32_w]; rfl
  refine pure_ (i := 20) (N := some 34) (v := ?_) (a' := ?_) (bz 42 2066569) rfl rfl (any_of HT_.out (by kernel_rfl)) (fun _ _ _ h => h) (Or.inl ⟨by rfl, ?_⟩) ?_ ?_
  rotate_left
  · intro w'; go_simp; (with_reducible rfl)
  rotate_left
  · simp only [Act.put, s_0, s_1, s_2, i64_w, i32_w]; rfl
  refine pure_ (i := 21) (N := some 35) (v := ?_) (a' := ?_) (bz 42 4163721) rfl rfl (any_of HT_.out (by kernel_rfl)) (fun _ _ _ h => h) (Or.inl ⟨by rfl, ?_⟩) ?_ ?_
  rotate_left
  · intro w'; go_simp; (with_reducible rfl)
  rotate_left
  · simp only [Act.put, s_0, s_1, s_2, i64_w, i32_w]; rfl
  refine pure_ (i := 27) (N := some 41) (v := ?_) (a' := ?_) (bz 42 138381449) rfl rfl (any_of HT_.out (by kernel_rfl)) (fun _ _ _ h => h) (Or.inl ⟨by rfl, ?_⟩) ?_ ?_
  rotate_left
  · intro w'; go_simp; (with_reducible rfl)
  rotate_left
  · simp only [Act.put, s_0, s_1, s_2, i64_w, i32_w]; rfl
  refine pure_ (i := 32) (N := some 46) (v := ?_) (a' := ?_) (bz 42 4433348745) rfl rfl (any_of HT_.out (by kernel_rfl)) (fun _ _ _ h => h) (Or.inl ⟨by rfl, ?_⟩) ?_ ?_
  rotate_left
  · intro w'; go_simp; (with_reducible rfl)
  rotate_left
  · simp only [Act.put, s_0, s_1, s_2, i64_w, i32_w]; rfl
  refine pure_ (i := 36) (N := some 50) (v := ?_) (a' := ?_) (bz 42 73152825481) rfl rfl (any_of HT_.out (by kernel_rfl)) (fun _ _ _ h => h) (Or.inl ⟨by rfl, ?_⟩) ?_ ?_
  rotate_left
  · intro w'; go_simp; (with_reducible rfl)
  rotate_left
  · simp only [Act.put, s_0, s_1, s_2, i64_w, i32_w]; rfl
  refine pure_ (i := 38) (N := some 52) (v := ?_) (a' := ?_) (bz 42 348030732425) rfl rfl (any_of HT_.out (by kernel_rfl)) (fun _ _ _ h => h) (Or.inl ⟨by rfl, ?_⟩) ?_ ?_
  rotate_left
  · intro w'; go_simp; (with_reducible rfl)
  rotate_left
  · simp only [Act.put, s_0, s_1, s_2, i64_w, i32_w]; rfl
  refine take_ (i := 1) (N := some 15) (v := ?_) (a' := ?_) (bz 42 348030732427) rfl rfl (take_ofW HT_.out HW_.out (by kernel_rfl)) (fun _ _ _ h => h) (Or.inl ⟨by rfl, ?_⟩) hHeld ?_ ?_
  rotate_left
  · rintro w' ⟨s0, s1, s2, s3, s4, s5, s6, s7, s8, s9, s10, s11, s12, s13, s14, s15⟩
    go_simp; (with_reducible rfl)
  rotate_left
  · simp only [Act.put, s_0, s_1, s_2, i64_w, i32_w]; rfl
  refine take_ (i := 4) (N := some 18) (v := ?_) (a' := ?_) (bz 42 348030732443) rfl rfl (take_ofW HT_.out HW_.out (by kernel_rfl)) (fun _ _ _ h => h) (Or.inl ⟨by rfl, ?_⟩) hHeld ?_ ?_
  rotate_left
  · rintro w' ⟨s0, s1, s2, s3, s4, s5, s6, s7, s8, s9, s10, s11, s12, s13, s14, s15⟩
    go_simp; (with_reducible rfl)
  rotate_left
  · simp only [Act.put, s_0, s_1, s_2, i64_w, i32_w]; rfl
  refine take_ (i := 8) (N := some 22) (v := ?_) (a' := ?_) (bz 42 348030732699) rfl rfl (take_ofW HT_.out HW_.out (by kernel_rfl)) (fun _ _ _ h => h) (Or.inl ⟨by rfl, ?_⟩) hHeld ?_ ?_
  rotate_left
  · rintro w' ⟨s0, s1, s2, s3, s4, s5, s6, s7, s8, s9, s10, s11, s12, s13, s14, s15⟩
    go_simp; (with_reducible rfl)
  rotate_left
  · simp only [Act.put, s_0, s_1, s_2, i64_w, i32_w]; rfl
  refine take_ (i := 12) (N := some 26) (v := ?_) (a' := ?_) (bz 42 348030736795) rfl rfl (take_ofW HT_.out HW_.out (by kernel_rfl)) (fun _ _ _ h => h) (Or.inl ⟨by rfl, ?_⟩) hHeld ?_ ?_
  rotate_left
  · rintro w' ⟨s0, s1, s2, s3, s4, s5, s6, s7, s8, s9, s10, s11, s12, s13, s14, s15⟩
    go_simp; (with_reducible rfl)
  rotate_left
  · simp only [Act.put, s_0, s_1, s_2, i64_w, i32_w]; rfl
  refine take_ (i := 22) (N := some 36) (v := ?_) (a' := ?_) (bz 42 348034931099) rfl rfl (take_ofW HT_.out HW_.out (by kernel_rfl)) (fun _ _ _ h => h) (Or.inl ⟨by rfl, ?_⟩) hHeld ?_ ?_
  rotate_left
  · rintro w' ⟨s0, s1, s2, s3, s4, s5, s6, s7, s8, s9, s10, s11, s12, s13, s14, s15⟩
    go_simp; (with_reducible rfl)
  rotate_left
  · simp only [Act.put, s_0, s_1, s_2, i64_w, i32_w]; rfl
  refine pure_ (i := 23) (N := some 37) (v := ?_) (a' := ?_) (bz 42 348043319707) rfl rfl (any_of HT_.out (by kernel_rfl)) (fun _ _ _ h => h) (Or.inl ⟨by rfl, ?_⟩) ?_ ?_
  rotate_left
  · intro w'; go_simp; (with_reducible rfl)
  rotate_left
  · simp only [Act.put, s_0, s_1, s_2, i64_w, i32_w]; rfl
  refine take_ (i := 28) (N := some 42) (v := ?_) (a' := ?_) (bz 42 348311755163) rfl rfl (take_ofW HT_.out HW_.out (by kernel_rfl)) (fun _ _ _ h => h) (Or.inl ⟨by rfl, ?_⟩) hHeld ?_ ?_
  rotate_left
  · rintro w' ⟨s0, s1, s2, s3, s4, s5, s6, s7, s8, s9, s10, s11, s12, s13, s14, s15⟩
    go_simp; (with_reducible rfl)
  rotate_left
  · simp only [Act.put, s_0, s_1, s_2, i64_w, i32_w]; rfl
  refine take_ (i := 33) (N := some 47) (v := ?_) (a' := ?_) (bz 42 356901689755) rfl rfl (take_ofW HT_.out HW_.out (by kernel_rfl)) (fun _ _ _ h => h) (Or.inl ⟨by rfl, ?_⟩) hHeld ?_ ?_
  rotate_left
  · rintro w' ⟨s0, s1, s2, s3, s4, s5, s6, s7, s8, s9, s10, s11, s12, s13, s14, s15⟩
    go_simp; (with_reducible rfl)
  rotate_left
  · simp only [Act.put, s_0, s_1, s_2, i64_w, i32_w]; rfl
  refine take_ (i := 39) (N := some 53) (v := ?_) (a' := ?_) (bz 42 906657503643) rfl rfl (take_ofW HT_.out HW_.out (by kernel_rfl)) (fun _ _ _ h => h) (Or.inl ⟨by rfl, ?_⟩) hHeld ?_ ?_
  rotate_left
  · rintro w' ⟨s0, s1, s2, s3, s4, s5, s6, s7, s8, s9, s10, s11, s12, s13, s14, s15⟩
    go_simp; (with_reducible rfl)
  rotate_left
  · simp only [Act.put, s_0, s_1, s_2, i64_w, i32_w]; rfl
  refine join_ (σ := Value) 4 (bz 42 927712935935) (fun s_ => [(16, .string t239), (19, .string t240), (23, .string t241), (27, .string t242), (38, s_), (39, .string (strOfNums y243)), (43, .string t246), (48, .string t247), (20, .string (t239 ++ t240)), (24, .string ((t239 ++ t240) ++ t241)), (28, .string (((t239 ++ t240) ++ t241) ++ t242)), (40, .string ((((t239 ++ t240) ++ t241) ++ t242) ++ (strOfNums y243))), (44, .string (((((t239 ++ t240) ++ t241) ++ t242) ++ (strOfNums y243)) ++ t246)), (45, .string ((((((t239 ++ t240) ++ t241) ++ t242) ++ (strOfNums y243)) ++ t246) ++ (⟨#[0, 0]⟩ : ByteArray)))]) (fun s_ w' => (w'.cell? ⟨gb237, 0, none⟩ = some (.int .i64 a2_0) ∧ w'.cell? ⟨gb237, 1, none⟩ = some (.int .i64 a2_1) ∧ w'.cell? ⟨gb237, 2, none⟩ = some (.int .i64 a2_2) ∧ w'.cell? ⟨gb237, 3, none⟩ = some (.int .i64 a2_3) ∧ w'.cell? ⟨gb237, 4, none⟩ = some (.int .i64 a2_4) ∧ w'.cell? ⟨gb237, 5, none⟩ = some (.int .i64 a2_5) ∧ w'.cell? ⟨gb237, 6, none⟩ = some (.int .i64 a2_6) ∧ w'.cell? ⟨gb237, 7, none⟩ = some (.int .i64 a2_7) ∧ w'.cell? ⟨gb237, 8, none⟩ = some (.int .i64 a2_8) ∧ w'.cell? ⟨gb237, 9, none⟩ = some (.int .i64 a2_9) ∧ w'.cell? ⟨gb237, 10, none⟩ = some (.int .i64 a2_10) ∧ w'.cell? ⟨gb237, 11, none⟩ = some (.bool a2_11) ∧ w'.cell? ⟨gb237, 12, none⟩ = some (.bool a2_12) ∧ w'.cell? ⟨gb237, 13, none⟩ = some (.bool a2_13) ∧ w'.cell? ⟨gb237, 14, none⟩ = some (.slice A2_14 l2_14.length c2_14) ∧ w'.cell? ⟨gb237, 15, none⟩ = some (.string a2_15)) ∧ (Kd.R (Kd.int .u8) 5 w' w.heap.size (fun _ => True) s_ y243) ∧ (w'.heap[gb237]? = some (.cells #[.int .i64 a2_0, .int .i64 a2_1, .int .i64 a2_2, .int .i64 a2_3, .int .i64 a2_4, .int .i64 a2_5, .int .i64 a2_6, .int .i64 a2_7, .int .i64 a2_8, .int .i64 a2_9, .int .i64 a2_10, .bool a2_11, .bool a2_12, .bool a2_13, .slice A2_14 l2_14.length c2_14, .string a2_15] 28 (0, 0))) ∧ (Below w.heap.size w w')) ?_ ?_
  rotate_left
  · intro hJ2_5_9_13_24_25_29_34
    refine join_ (σ := Value) 5 (bz 42 910533066751) (fun s_ => [(16, .string t239), (19, .string t240), (23, .string t241), (27, .string t242), (38, s_), (39, .string (strOfNums y243)), (43, .string t246), (20, .string (t239 ++ t240)), (24, .string ((t239 ++ t240) ++ t241)), (28, .string (((t239 ++ t240) ++ t241) ++ t242)), (40, .string ((((t239 ++ t240) ++ t241) ++ t242) ++ (strOfNums y243))), (44, .string (((((t239 ++ t240) ++ t241) ++ t242) ++ (strOfNums y243)) ++ t246)), (45, .string ((((((t239 ++ t240) ++ t241) ++ t242) ++ (strOfNums y243)) ++ t246) ++ (⟨#[0, 0]⟩ : ByteArray)))]) (fun s_ w' => (w'.cell? ⟨gb237, 0, none⟩ = some (.int .i64 a2_0) ∧ w'.cell? ⟨gb237, 1, none⟩ = some (.int .i64 a2_1) ∧ w'.cell? ⟨gb237, 2, none⟩ = some (.int .i64 a2_2) ∧ w'.cell? ⟨gb237, 3, none⟩ = some (.int .i64 a2_3) ∧ w'.cell? ⟨gb237, 4, none⟩ = some (.int .i64 a2_4) ∧ w'.cell? ⟨gb237, 5, none⟩ = some (.int .i64 a2_5) ∧ w'.cell? ⟨gb237, 6, none⟩ = some (.int .i64 a2_6) ∧ w'.cell? ⟨gb237, 7, none⟩ = some (.int .i64 a2_7) ∧ w'.cell? ⟨gb237, 8, none⟩ = some (.int .i64 a2_8) ∧ w'.cell? ⟨gb237, 9, none⟩ = some (.int .i64 a2_9) ∧ w'.cell? ⟨gb237, 10, none⟩ = some (.int .i64 a2_10) ∧ w'.cell? ⟨gb237, 11, none⟩ = some (.bool a2_11) ∧ w'.cell? ⟨gb237, 12, none⟩ = some (.bool a2_12) ∧ w'.cell? ⟨gb237, 13, none⟩ = some (.bool a2_13) ∧ w'.cell? ⟨gb237, 14, none⟩ = some (.slice A2_14 l2_14.length c2_14) ∧ w'.cell? ⟨gb237, 15, none⟩ = some (.string a2_15)) ∧ (Kd.R (Kd.int .u8) 5 w' w.heap.size (fun _ => True) s_ y243) ∧ (w'.heap[gb237]? = some (.cells #[.int .i64 a2_0, .int .i64 a2_1, .int .i64 a2_2, .int .i64 a2_3, .int .i64 a2_4, .int .i64 a2_5, .int .i64 a2_6, .int .i64 a2_7, .int .i64 a2_8, .int .i64 a2_9, .int .i64 a2_10, .bool a2_11, .bool a2_12, .bool a2_13, .slice A2_14 l2_14.length c2_14, .string a2_15] 28 (0, 0))) ∧ (Below w.heap.size w w')) ?_ ?_
    rotate_left
    · intro hJ2_5_9_13_24_25_29
      refine join_ (σ := Value) 8 (bz 42 924391047167) (fun s_ => [(16, .string t239), (19, .string t240), (23, .string t241), (27, .string t242), (38, s_), (43, .string t246), (48, .string t247), (20, .string (t239 ++ t240)), (24, .string ((t239 ++ t240) ++ t241)), (28, .string (((t239 ++ t240) ++ t241) ++ t242))]) (fun s_ w' => (w'.cell? ⟨gb237, 0, none⟩ = some (.int .i64 a2_0) ∧ w'.cell? ⟨gb237, 1, none⟩ = some (.int .i64 a2_1) ∧ w'.cell? ⟨gb237, 2, none⟩ = some (.int .i64 a2_2) ∧ w'.cell? ⟨gb237, 3, none⟩ = some (.int .i64 a2_3) ∧ w'.cell? ⟨gb237, 4, none⟩ = some (.int .i64 a2_4) ∧ w'.cell? ⟨gb237, 5, none⟩ = some (.int .i64 a2_5) ∧ w'.cell? ⟨gb237, 6, none⟩ = some (.int .i64 a2_6) ∧ w'.cell? ⟨gb237, 7, none⟩ = some (.int .i64 a2_7) ∧ w'.cell? ⟨gb237, 8, none⟩ = some (.int .i64 a2_8) ∧ w'.cell? ⟨gb237, 9, none⟩ = some (.int .i64 a2_9) ∧ w'.cell? ⟨gb237, 10, none⟩ = some (.int .i64 a2_10) ∧ w'.cell? ⟨gb237, 11, none⟩ = some (.bool a2_11) ∧ w'.cell? ⟨gb237, 12, none⟩ = some (.bool a2_12) ∧ w'.cell? ⟨gb237, 13, none⟩ = some (.bool a2_13) ∧ w'.cell? ⟨gb237, 14, none⟩ = some (.slice A2_14 l2_14.length c2_14) ∧ w'.cell? ⟨gb237, 15, none⟩ = some (.string a2_15)) ∧ (Kd.R (Kd.int .u8) 5 w' w.heap.size (fun _ => True) s_ y243) ∧ (w'.heap[gb237]? = some (.cells #[.int .i64 a2_0, .int .i64 a2_1, .int .i64 a2_2, .int .i64 a2_3, .int .i64 a2_4, .int .i64 a2_5, .int .i64 a2_6, .int .i64 a2_7, .int .i64 a2_8, .int .i64 a2_9, .int .i64 a2_10, .bool a2_11, .bool a2_12, .bool a2_13, .slice A2_14 l2_14.length c2_14, .string a2_15] 28 (0, 0))) ∧ (Below w.heap.size w w')) ?_ ?_
      rotate_left
      · intro hJ2_5_9_13_24_29_34
        refine join_ (σ := Value) 8 (bz 42 906774970367) (fun s_ => [(16, .string t239), (19, .string t240), (23, .string t241), (27, .string t242), (38, s_), (39, .string (strOfNums y243)), (20, .string (t239 ++ t240)), (24, .string ((t239 ++ t240) ++ t241)), (28, .string (((t239 ++ t240) ++ t241) ++ t242)), (40, .string ((((t239 ++ t240) ++ t241) ++ t242) ++ (strOfNums y243)))]) (fun s_ w' => (w'.cell? ⟨gb237, 0, none⟩ = some (.int .i64 a2_0) ∧ w'.cell? ⟨gb237, 1, none⟩ = some (.int .i64 a2_1) ∧ w'.cell? ⟨gb237, 2, none⟩ = some (.int .i64 a2_2) ∧ w'.cell? ⟨gb237, 3, none⟩ = some (.int .i64 a2_3) ∧ w'.cell? ⟨gb237, 4, none⟩ = some (.int .i64 a2_4) ∧ w'.cell? ⟨gb237, 5, none⟩ = some (.int .i64 a2_5) ∧ w'.cell? ⟨gb237, 6, none⟩ = some (.int .i64 a2_6) ∧ w'.cell? ⟨gb237, 7, none⟩ = some (.int .i64 a2_7) ∧ w'.cell? ⟨gb237, 8, none⟩ = some (.int .i64 a2_8) ∧ w'.cell? ⟨gb237, 9, none⟩ = some (.int .i64 a2_9) ∧ w'.cell? ⟨gb237, 10, none⟩ = some (.int .i64 a2_10) ∧ w'.cell? ⟨gb237, 11, none⟩ = some (.bool a2_11) ∧ w'.cell? ⟨gb237, 12, none⟩ = some (.bool a2_12) ∧ w'.cell? ⟨gb237, 13, none⟩ = some (.bool a2_13) ∧ w'.cell? ⟨gb237, 14, none⟩ = some (.slice A2_14 l2_14.length c2_14) ∧ w'.cell? ⟨gb237, 15, none⟩ = some (.string a2_15)) ∧ (Kd.R (Kd.int .u8) 5 w' w.heap.size (fun _ => True) s_ y243) ∧ (w'.heap[gb237]? = some (.cells #[.int .i64 a2_0, .int .i64 a2_1, .int .i64 a2_2, .int .i64 a2_3, .int .i64 a2_4, .int .i64 a2_5, .int .i64 a2_6, .int .i64 a2_7, .int .i64 a2_8, .int .i64 a2_9, .int .i64 a2_10, .bool a2_11, .bool a2_12, .bool a2_13, .slice A2_14 l2_14.length c2_14, .string a2_15] 28 (0, 0))) ∧ (Below w.heap.size w w')) ?_ ?_
        rotate_left
        · intro hJ2_5_9_13_24_25
          refine join_ (σ := Value) 9 (bz 42 907211177983) (fun s_ => [(16, .string t239), (19, .string t240), (23, .string t241), (27, .string t242), (38, s_), (43, .string t246), (20, .string (t239 ++ t240)), (24, .string ((t239 ++ t240) ++ t241)), (28, .string (((t239 ++ t240) ++ t241) ++ t242))]) (fun s_ w' => (w'.cell? ⟨gb237, 0, none⟩ = some (.int .i64 a2_0) ∧ w'.cell? ⟨gb237, 1, none⟩ = some (.int .i64 a2_1) ∧ w'.cell? ⟨gb237, 2, none⟩ = some (.int .i64 a2_2) ∧ w'.cell? ⟨gb237, 3, none⟩ = some (.int .i64 a2_3) ∧ w'.cell? ⟨gb237, 4, none⟩ = some (.int .i64 a2_4) ∧ w'.cell? ⟨gb237, 5, none⟩ = some (.int .i64 a2_5) ∧ w'.cell? ⟨gb237, 6, none⟩ = some (.int .i64 a2_6) ∧ w'.cell? ⟨gb237, 7, none⟩ = some (.int .i64 a2_7) ∧ w'.cell? ⟨gb237, 8, none⟩ = some (.int .i64 a2_8) ∧ w'.cell? ⟨gb237, 9, none⟩ = some (.int .i64 a2_9) ∧ w'.cell? ⟨gb237, 10, none⟩ = some (.int .i64 a2_10) ∧ w'.cell? ⟨gb237, 11, none⟩ = some (.bool a2_11) ∧ w'.cell? ⟨gb237, 12, none⟩ = some (.bool a2_12) ∧ w'.cell? ⟨gb237, 13, none⟩ = some (.bool a2_13) ∧ w'.cell? ⟨gb237, 14, none⟩ = some (.slice A2_14 l2_14.length c2_14) ∧ w'.cell? ⟨gb237, 15, none⟩ = some (.string a2_15)) ∧ (Kd.R (Kd.int .u8) 5 w' w.heap.size (fun _ => True) s_ y243) ∧ (w'.heap[gb237]? = some (.cells #[.int .i64 a2_0, .int .i64 a2_1, .int .i64 a2_2, .int .i64 a2_3, .int .i64 a2_4, .int .i64 a2_5, .int .i64 a2_6, .int .i64 a2_7, .int .i64 a2_8, .int .i64 a2_9, .int .i64 a2_10, .bool a2_11, .bool a2_12, .bool a2_13, .slice A2_14 l2_14.length c2_14, .string a2_15] 28 (0, 0))) ∧ (Below w.heap.size w w')) ?_ ?_
          rotate_left
          · intro hJ2_5_9_13_24_29
            refine join_ (σ := Unit) 9 (bz 42 924374269951) (fun s_ => [(16, .string t239), (19, .string t240), (23, .string t241), (27, .string t242), (43, .string t246), (48, .string t247), (20, .string (t239 ++ t240)), (24, .string ((t239 ++ t240) ++ t241)), (28, .string (((t239 ++ t240) ++ t241) ++ t242))]) (fun s_ w' => (w'.cell? ⟨gb237, 0, none⟩ = some (.int .i64 a2_0) ∧ w'.cell? ⟨gb237, 1, none⟩ = some (.int .i64 a2_1) ∧ w'.cell? ⟨gb237, 2, none⟩ = some (.int .i64 a2_2) ∧ w'.cell? ⟨gb237, 3, none⟩ = some (.int .i64 a2_3) ∧ w'.cell? ⟨gb237, 4, none⟩ = some (.int .i64 a2_4) ∧ w'.cell? ⟨gb237, 5, none⟩ = some (.int .i64 a2_5) ∧ w'.cell? ⟨gb237, 6, none⟩ = some (.int .i64 a2_6) ∧ w'.cell? ⟨gb237, 7, none⟩ = some (.int .i64 a2_7) ∧ w'.cell? ⟨gb237, 8, none⟩ = some (.int .i64 a2_8) ∧ w'.cell? ⟨gb237, 9, none⟩ = some (.int .i64 a2_9) ∧ w'.cell? ⟨gb237, 10, none⟩ = some (.int .i64 a2_10) ∧ w'.cell? ⟨gb237, 11, none⟩ = some (.bool a2_11) ∧ w'.cell? ⟨gb237, 12, none⟩ = some (.bool a2_12) ∧ w'.cell? ⟨gb237, 13, none⟩ = some (.bool a2_13) ∧ w'.cell? ⟨gb237, 14, none⟩ = some (.slice A2_14 l2_14.length c2_14) ∧ w'.cell? ⟨gb237, 15, none⟩ = some (.string a2_15)) ∧ (w'.heap[gb237]? = some (.cells #[.int .i64 a2_0, .int .i64 a2_1, .int .i64 a2_2, .int .i64 a2_3, .int .i64 a2_4, .int .i64 a2_5, .int .i64 a2_6, .int .i64 a2_7, .int .i64 a2_8, .int .i64 a2_9, .int .i64 a2_10, .bool a2_11, .bool a2_12, .bool a2_13, .slice A2_14 l2_14.length c2_14, .string a2_15] 28 (0, 0))) ∧ (Below w.heap.size w w')) ?_ ?_
            rotate_left
            · intro hJ2_5_9_13_29_34
              refine join_ (σ := Value) 10 (bz 42 906674307071) (fun s_ => [(16, .string t239), (19, .string t240), (23, .string t241), (27, .string t242), (38, s_), (20, .string (t239 ++ t240)), (24, .string ((t239 ++ t240) ++ t241)), (28, .string (((t239 ++ t240) ++ t241) ++ t242))]) (fun s_ w' => (w'.cell? ⟨gb237, 0, none⟩ = some (.int .i64 a2_0) ∧ w'.cell? ⟨gb237, 1, none⟩ = some (.int .i64 a2_1) ∧ w'.cell? ⟨gb237, 2, none⟩ = some (.int .i64 a2_2) ∧ w'.cell? ⟨gb237, 3, none⟩ = some (.int .i64 a2_3) ∧ w'.cell? ⟨gb237, 4, none⟩ = some (.int .i64 a2_4) ∧ w'.cell? ⟨gb237, 5, none⟩ = some (.int .i64 a2_5) ∧ w'.cell? ⟨gb237, 6, none⟩ = some (.int .i64 a2_6) ∧ w'.cell? ⟨gb237, 7, none⟩ = some (.int .i64 a2_7) ∧ w'.cell? ⟨gb237, 8, none⟩ = some (.int .i64 a2_8) ∧ w'.cell? ⟨gb237, 9, none⟩ = some (.int .i64 a2_9) ∧ w'.cell? ⟨gb237, 10, none⟩ = some (.int .i64 a2_10) ∧ w'.cell? ⟨gb237, 11, none⟩ = some (.bool a2_11) ∧ w'.cell? ⟨gb237, 12, none⟩ = some (.bool a2_12) ∧ w'.cell? ⟨gb237, 13, none⟩ = some (.bool a2_13) ∧ w'.cell? ⟨gb237, 14, none⟩ = some (.slice A2_14 l2_14.length c2_14) ∧ w'.cell? ⟨gb237, 15, none⟩ = some (.string a2_15)) ∧ (Kd.R (Kd.int .u8) 5 w' w.heap.size (fun _ => True) s_ y243) ∧ (w'.heap[gb237]? = some (.cells #[.int .i64 a2_0, .int .i64 a2_1, .int .i64 a2_2, .int .i64 a2_3, .int .i64 a2_4, .int .i64 a2_5, .int .i64 a2_6, .int .i64 a2_7, .int .i64 a2_8, .int .i64 a2_9, .int .i64 a2_10, .bool a2_11, .bool a2_12, .bool a2_13, .slice A2_14 l2_14.length c2_14, .string a2_15] 28 (0, 0))) ∧ (Below w.heap.size w w')) ?_ ?_
              rotate_left
              · intro hJ2_5_9_13_24
                refine join_ (σ := Unit) 10 (bz 42 907194400767) (fun s_ => [(16, .string t239), (19, .string t240), (23, .string t241), (27, .string t242), (43, .string t246), (20, .string (t239 ++ t240)), (24, .string ((t239 ++ t240) ++ t241)), (28, .string (((t239 ++ t240) ++ t241) ++ t242))]) (fun s_ w' => (w'.cell? ⟨gb237, 0, none⟩ = some (.int .i64 a2_0) ∧ w'.cell? ⟨gb237, 1, none⟩ = some (.int .i64 a2_1) ∧ w'.cell? ⟨gb237, 2, none⟩ = some (.int .i64 a2_2) ∧ w'.cell? ⟨gb237, 3, none⟩ = some (.int .i64 a2_3) ∧ w'.cell? ⟨gb237, 4, none⟩ = some (.int .i64 a2_4) ∧ w'.cell? ⟨gb237, 5, none⟩ = some (.int .i64 a2_5) ∧ w'.cell? ⟨gb237, 6, none⟩ = some (.int .i64 a2_6) ∧ w'.cell? ⟨gb237, 7, none⟩ = some (.int .i64 a2_7) ∧ w'.cell? ⟨gb237, 8, none⟩ = some (.int .i64 a2_8) ∧ w'.cell? ⟨gb237, 9, none⟩ = some (.int .i64 a2_9) ∧ w'.cell? ⟨gb237, 10, none⟩ = some (.int .i64 a2_10) ∧ w'.cell? ⟨gb237, 11, none⟩ = some (.bool a2_11) ∧ w'.cell? ⟨gb237, 12, none⟩ = some (.bool a2_12) ∧ w'.cell? ⟨gb237, 13, none⟩ = some (.bool a2_13) ∧ w'.cell? ⟨gb237, 14, none⟩ = some (.slice A2_14 l2_14.length c2_14) ∧ w'.cell? ⟨gb237, 15, none⟩ = some (.string a2_15)) ∧ (w'.heap[gb237]? = some (.cells #[.int .i64 a2_0, .int .i64 a2_1, .int .i64 a2_2, .int .i64 a2_3, .int .i64 a2_4, .int .i64 a2_5, .int .i64 a2_6, .int .i64 a2_7, .int .i64 a2_8, .int .i64 a2_9, .int .i64 a2_10, .bool a2_11, .bool a2_12, .bool a2_13, .slice A2_14 l2_14.length c2_14, .string a2_15] 28 (0, 0))) ∧ (Below w.heap.size w w')) ?_ ?_
                rotate_left
                · intro hJ2_5_9_13_29
                  refine join_ (σ := Value) 11 (bz 42 906707836927) (fun s_ => [(16, .string t239), (19, .string t240), (23, .string t241), (38, s_), (39, .string (strOfNums y243)), (20, .string (t239 ++ t240)), (24, .string ((t239 ++ t240) ++ t241))]) (fun s_ w' => (w'.cell? ⟨gb237, 0, none⟩ = some (.int .i64 a2_0) ∧ w'.cell? ⟨gb237, 1, none⟩ = some (.int .i64 a2_1) ∧ w'.cell? ⟨gb237, 2, none⟩ = some (.int .i64 a2_2) ∧ w'.cell? ⟨gb237, 3, none⟩ = some (.int .i64 a2_3) ∧ w'.cell? ⟨gb237, 4, none⟩ = some (.int .i64 a2_4) ∧ w'.cell? ⟨gb237, 5, none⟩ = some (.int .i64 a2_5) ∧ w'.cell? ⟨gb237, 6, none⟩ = some (.int .i64 a2_6) ∧ w'.cell? ⟨gb237, 7, none⟩ = some (.int .i64 a2_7) ∧ w'.cell? ⟨gb237, 8, none⟩ = some (.int .i64 a2_8) ∧ w'.cell? ⟨gb237, 9, none⟩ = some (.int .i64 a2_9) ∧ w'.cell? ⟨gb237, 10, none⟩ = some (.int .i64 a2_10) ∧ w'.cell? ⟨gb237, 11, none⟩ = some (.bool a2_11) ∧ w'.cell? ⟨gb237, 12, none⟩ = some (.bool a2_12) ∧ w'.cell? ⟨gb237, 13, none⟩ = some (.bool a2_13) ∧ w'.cell? ⟨gb237, 14, none⟩ = some (.slice A2_14 l2_14.length c2_14) ∧ w'.cell? ⟨gb237, 15, none⟩ = some (.string a2_15)) ∧ (Kd.R (Kd.int .u8) 5 w' w.heap.size (fun _ => True) s_ y243) ∧ (w'.heap[gb237]? = some (.cells #[.int .i64 a2_0, .int .i64 a2_1, .int .i64 a2_2, .int .i64 a2_3, .int .i64 a2_4, .int .i64 a2_5, .int .i64 a2_6, .int .i64 a2_7, .int .i64 a2_8, .int .i64 a2_9, .int .i64 a2_10, .bool a2_11, .bool a2_12, .bool a2_13, .slice A2_14 l2_14.length c2_14, .string a2_15] 28 (0, 0))) ∧ (Below w.heap.size w w')) ?_ ?_
                  rotate_left
                  · intro hJ2_5_9_24_25
                    refine join_ (σ := Unit) 11 (bz 42 906657529855) (fun s_ => [(16, .string t239), (19, .string t240), (23, .string t241), (27, .string t242), (20, .string (t239 ++ t240)), (24, .string ((t239 ++ t240) ++ t241)), (28, .string (((t239 ++ t240) ++ t241) ++ t242))]) (fun s_ w' => (w'.cell? ⟨gb237, 0, none⟩ = some (.int .i64 a2_0) ∧ w'.cell? ⟨gb237, 1, none⟩ = some (.int .i64 a2_1) ∧ w'.cell? ⟨gb237, 2, none⟩ = some (.int .i64 a2_2) ∧ w'.cell? ⟨gb237, 3, none⟩ = some (.int .i64 a2_3) ∧ w'.cell? ⟨gb237, 4, none⟩ = some (.int .i64 a2_4) ∧ w'.cell? ⟨gb237, 5, none⟩ = some (.int .i64 a2_5) ∧ w'.cell? ⟨gb237, 6, none⟩ = some (.int .i64 a2_6) ∧ w'.cell? ⟨gb237, 7, none⟩ = some (.int .i64 a2_7) ∧ w'.cell? ⟨gb237, 8, none⟩ = some (.int .i64 a2_8) ∧ w'.cell? ⟨gb237, 9, none⟩ = some (.int .i64 a2_9) ∧ w'.cell? ⟨gb237, 10, none⟩ = some (.int .i64 a2_10) ∧ w'.cell? ⟨gb237, 11, none⟩ = some (.bool a2_11) ∧ w'.cell? ⟨gb237, 12, none⟩ = some (.bool a2_12) ∧ w'.cell? ⟨gb237, 13, none⟩ = some (.bool a2_13) ∧ w'.cell? ⟨gb237, 14, none⟩ = some (.slice A2_14 l2_14.length c2_14) ∧ w'.cell? ⟨gb237, 15, none⟩ = some (.string a2_15)) ∧ (w'.heap[gb237]? = some (.cells #[.int .i64 a2_0, .int .i64 a2_1, .int .i64 a2_2, .int .i64 a2_3, .int .i64 a2_4, .int .i64 a2_5, .int .i64 a2_6, .int .i64 a2_7, .int .i64 a2_8, .int .i64 a2_9, .int .i64 a2_10, .bool a2_11, .bool a2_12, .bool a2_13, .slice A2_14 l2_14.length c2_14, .string a2_15] 28 (0, 0))) ∧ (Below w.heap.size w w')) ?_ ?_
                    rotate_left
                    · intro hJ2_5_9_13
                      refine join_ (σ := Value) 12 (bz 42 906674282495) (fun s_ => [(16, .string t239), (19, .string t240), (23, .string t241), (38, s_), (20, .string (t239 ++ t240)), (24, .string ((t239 ++ t240) ++ t241))]) (fun s_ w' => (w'.cell? ⟨gb237, 0, none⟩ = some (.int .i64 a2_0) ∧ w'.cell? ⟨gb237, 1, none⟩ = some (.int .i64 a2_1) ∧ w'.cell? ⟨gb237, 2, none⟩ = some (.int .i64 a2_2) ∧ w'.cell? ⟨gb237, 3, none⟩ = some (.int .i64 a2_3) ∧ w'.cell? ⟨gb237, 4, none⟩ = some (.int .i64 a2_4) ∧ w'.cell? ⟨gb237, 5, none⟩ = some (.int .i64 a2_5) ∧ w'.cell? ⟨gb237, 6, none⟩ = some (.int .i64 a2_6) ∧ w'.cell? ⟨gb237, 7, none⟩ = some (.int .i64 a2_7) ∧ w'.cell? ⟨gb237, 8, none⟩ = some (.int .i64 a2_8) ∧ w'.cell? ⟨gb237, 9, none⟩ = some (.int .i64 a2_9) ∧ w'.cell? ⟨gb237, 10, none⟩ = some (.int .i64 a2_10) ∧ w'.cell? ⟨gb237, 11, none⟩ = some (.bool a2_11) ∧ w'.cell? ⟨gb237, 12, none⟩ = some (.bool a2_12) ∧ w'.cell? ⟨gb237, 13, none⟩ = some (.bool a2_13) ∧ w'.cell? ⟨gb237, 14, none⟩ = some (.slice A2_14 l2_14.length c2_14) ∧ w'.cell? ⟨gb237, 15, none⟩ = some (.string a2_15)) ∧ (Kd.R (Kd.int .u8) 5 w' w.heap.size (fun _ => True) s_ y243) ∧ (w'.heap[gb237]? = some (.cells #[.int .i64 a2_0, .int .i64 a2_1, .int .i64 a2_2, .int .i64 a2_3, .int .i64 a2_4, .int .i64 a2_5, .int .i64 a2_6, .int .i64 a2_7, .int .i64 a2_8, .int .i64 a2_9, .int .i64 a2_10, .bool a2_11, .bool a2_12, .bool a2_13, .slice A2_14 l2_14.length c2_14, .string a2_15] 28 (0, 0))) ∧ (Below w.heap.size w w')) ?_ ?_
                      rotate_left
                      · intro hJ2_5_9_24
                        refine join_ (σ := Value) 13 (bz 42 906707835391) (fun s_ => [(16, .string t239), (19, .string t240), (38, s_), (39, .string (strOfNums y243)), (20, .string (t239 ++ t240))]) (fun s_ w' => (w'.cell? ⟨gb237, 0, none⟩ = some (.int .i64 a2_0) ∧ w'.cell? ⟨gb237, 1, none⟩ = some (.int .i64 a2_1) ∧ w'.cell? ⟨gb237, 2, none⟩ = some (.int .i64 a2_2) ∧ w'.cell? ⟨gb237, 3, none⟩ = some (.int .i64 a2_3) ∧ w'.cell? ⟨gb237, 4, none⟩ = some (.int .i64 a2_4) ∧ w'.cell? ⟨gb237, 5, none⟩ = some (.int .i64 a2_5) ∧ w'.cell? ⟨gb237, 6, none⟩ = some (.int .i64 a2_6) ∧ w'.cell? ⟨gb237, 7, none⟩ = some (.int .i64 a2_7) ∧ w'.cell? ⟨gb237, 8, none⟩ = some (.int .i64 a2_8) ∧ w'.cell? ⟨gb237, 9, none⟩ = some (.int .i64 a2_9) ∧ w'.cell? ⟨gb237, 10, none⟩ = some (.int .i64 a2_10) ∧ w'.cell? ⟨gb237, 11, none⟩ = some (.bool a2_11) ∧ w'.cell? ⟨gb237, 12, none⟩ = some (.bool a2_12) ∧ w'.cell? ⟨gb237, 13, none⟩ = some (.bool a2_13) ∧ w'.cell? ⟨gb237, 14, none⟩ = some (.slice A2_14 l2_14.length c2_14) ∧ w'.cell? ⟨gb237, 15, none⟩ = some (.string a2_15)) ∧ (Kd.R (Kd.int .u8) 5 w' w.heap.size (fun _ => True) s_ y243) ∧ (w'.heap[gb237]? = some (.cells #[.int .i64 a2_0, .int .i64 a2_1, .int .i64 a2_2, .int .i64 a2_3, .int .i64 a2_4, .int .i64 a2_5, .int .i64 a2_6, .int .i64 a2_7, .int .i64 a2_8, .int .i64 a2_9, .int .i64 a2_10, .bool a2_11, .bool a2_12, .bool a2_13, .slice A2_14 l2_14.length c2_14, .string a2_15] 28 (0, 0))) ∧ (Below w.heap.size w w')) ?_ ?_
                        rotate_left
                        · intro hJ2_5_24_25
                          refine join_ (σ := Unit) 13 (bz 42 906657505279) (fun s_ => [(16, .string t239), (19, .string t240), (23, .string t241), (20, .string (t239 ++ t240)), (24, .string ((t239 ++ t240) ++ t241))]) (fun s_ w' => (w'.cell? ⟨gb237, 0, none⟩ = some (.int .i64 a2_0) ∧ w'.cell? ⟨gb237, 1, none⟩ = some (.int .i64 a2_1) ∧ w'.cell? ⟨gb237, 2, none⟩ = some (.int .i64 a2_2) ∧ w'.cell? ⟨gb237, 3, none⟩ = some (.int .i64 a2_3) ∧ w'.cell? ⟨gb237, 4, none⟩ = some (.int .i64 a2_4) ∧ w'.cell? ⟨gb237, 5, none⟩ = some (.int .i64 a2_5) ∧ w'.cell? ⟨gb237, 6, none⟩ = some (.int .i64 a2_6) ∧ w'.cell? ⟨gb237, 7, none⟩ = some (.int .i64 a2_7) ∧ w'.cell? ⟨gb237, 8, none⟩ = some (.int .i64 a2_8) ∧ w'.cell? ⟨gb237, 9, none⟩ = some (.int .i64 a2_9) ∧ w'.cell? ⟨gb237, 10, none⟩ = some (.int .i64 a2_10) ∧ w'.cell? ⟨gb237, 11, none⟩ = some (.bool a2_11) ∧ w'.cell? ⟨gb237, 12, none⟩ = some (.bool a2_12) ∧ w'.cell? ⟨gb237, 13, none⟩ = some (.bool a2_13) ∧ w'.cell? ⟨gb237, 14, none⟩ = some (.slice A2_14 l2_14.length c2_14) ∧ w'.cell? ⟨gb237, 15, none⟩ = some (.string a2_15)) ∧ (w'.heap[gb237]? = some (.cells #[.int .i64 a2_0, .int .i64 a2_1, .int .i64 a2_2, .int .i64 a2_3, .int .i64 a2_4, .int .i64 a2_5, .int .i64 a2_6, .int .i64 a2_7, .int .i64 a2_8, .int .i64 a2_9, .int .i64 a2_10, .bool a2_11, .bool a2_12, .bool a2_13, .slice A2_14 l2_14.length c2_14, .string a2_15] 28 (0, 0))) ∧ (Below w.heap.size w w')) ?_ ?_
                          rotate_left
                          · intro hJ2_5_9
                            refine join_ (σ := Value) 14 (bz 42 906674280959) (fun s_ => [(16, .string t239), (19, .string t240), (38, s_), (20, .string (t239 ++ t240))]) (fun s_ w' => (w'.cell? ⟨gb237, 0, none⟩ = some (.int .i64 a2_0) ∧ w'.cell? ⟨gb237, 1, none⟩ = some (.int .i64 a2_1) ∧ w'.cell? ⟨gb237, 2, none⟩ = some (.int .i64 a2_2) ∧ w'.cell? ⟨gb237, 3, none⟩ = some (.int .i64 a2_3) ∧ w'.cell? ⟨gb237, 4, none⟩ = some (.int .i64 a2_4) ∧ w'.cell? ⟨gb237, 5, none⟩ = some (.int .i64 a2_5) ∧ w'.cell? ⟨gb237, 6, none⟩ = some (.int .i64 a2_6) ∧ w'.cell? ⟨gb237, 7, none⟩ = some (.int .i64 a2_7) ∧ w'.cell? ⟨gb237, 8, none⟩ = some (.int .i64 a2_8) ∧ w'.cell? ⟨gb237, 9, none⟩ = some (.int .i64 a2_9) ∧ w'.cell? ⟨gb237, 10, none⟩ = some (.int .i64 a2_10) ∧ w'.cell? ⟨gb237, 11, none⟩ = some (.bool a2_11) ∧ w'.cell? ⟨gb237, 12, none⟩ = some (.bool a2_12) ∧ w'.cell? ⟨gb237, 13, none⟩ = some (.bool a2_13) ∧ w'.cell? ⟨gb237, 14, none⟩ = some (.slice A2_14 l2_14.length c2_14) ∧ w'.cell? ⟨gb237, 15, none⟩ = some (.string a2_15)) ∧ (Kd.R (Kd.int .u8) 5 w' w.heap.size (fun _ => True) s_ y243) ∧ (w'.heap[gb237]? = some (.cells #[.int .i64 a2_0, .int .i64 a2_1, .int .i64 a2_2, .int .i64 a2_3, .int .i64 a2_4, .int .i64 a2_5, .int .i64 a2_6, .int .i64 a2_7, .int .i64 a2_8, .int .i64 a2_9, .int .i64 a2_10, .bool a2_11, .bool a2_12, .bool a2_13, .slice A2_14 l2_14.length c2_14, .string a2_15] 28 (0, 0))) ∧ (Below w.heap.size w w')) ?_ ?_
                            rotate_left
                            · intro hJ2_5_24
                              refine join_ (σ := Value) 15 (bz 42 906707835295) (fun s_ => [(16, .string t239), (38, s_), (39, .string (strOfNums y243))]) (fun s_ w' => (w'.cell? ⟨gb237, 0, none⟩ = some (.int .i64 a2_0) ∧ w'.cell? ⟨gb237, 1, none⟩ = some (.int .i64 a2_1) ∧ w'.cell? ⟨gb237, 2, none⟩ = some (.int .i64 a2_2) ∧ w'.cell? ⟨gb237, 3, none⟩ = some (.int .i64 a2_3) ∧ w'.cell? ⟨gb237, 4, none⟩ = some (.int .i64 a2_4) ∧ w'.cell? ⟨gb237, 5, none⟩ = some (.int .i64 a2_5) ∧ w'.cell? ⟨gb237, 6, none⟩ = some (.int .i64 a2_6) ∧ w'.cell? ⟨gb237, 7, none⟩ = some (.int .i64 a2_7) ∧ w'.cell? ⟨gb237, 8, none⟩ = some (.int .i64 a2_8) ∧ w'.cell? ⟨gb237, 9, none⟩ = some (.int .i64 a2_9) ∧ w'.cell? ⟨gb237, 10, none⟩ = some (.int .i64 a2_10) ∧ w'.cell? ⟨gb237, 11, none⟩ = some (.bool a2_11) ∧ w'.cell? ⟨gb237, 12, none⟩ = some (.bool a2_12) ∧ w'.cell? ⟨gb237, 13, none⟩ = some (.bool a2_13) ∧ w'.cell? ⟨gb237, 14, none⟩ = some (.slice A2_14 l2_14.length c2_14) ∧ w'.cell? ⟨gb237, 15, none⟩ = some (.string a2_15)) ∧ (Kd.R (Kd.int .u8) 5 w' w.heap.size (fun _ => True) s_ y243) ∧ (w'.heap[gb237]? = some (.cells #[.int .i64 a2_0, .int .i64 a2_1, .int .i64 a2_2, .int .i64 a2_3, .int .i64 a2_4, .int .i64 a2_5, .int .i64 a2_6, .int .i64 a2_7, .int .i64 a2_8, .int .i64 a2_9, .int .i64 a2_10, .bool a2_11, .bool a2_12, .bool a2_13, .slice A2_14 l2_14.length c2_14, .string a2_15] 28 (0, 0))) ∧ (Below w.heap.size w w')) ?_ ?_
                              rotate_left
                              · intro hJ2_24_25
                                refine join_ (σ := Unit) 15 (bz 42 906657503743) (fun s_ => [(16, .string t239), (19, .string t240), (20, .string (t239 ++ t240))]) (fun s_ w' => (w'.cell? ⟨gb237, 0, none⟩ = some (.int .i64 a2_0) ∧ w'.cell? ⟨gb237, 1, none⟩ = some (.int .i64 a2_1) ∧ w'.cell? ⟨gb237, 2, none⟩ = some (.int .i64 a2_2) ∧ w'.cell? ⟨gb237, 3, none⟩ = some (.int .i64 a2_3) ∧ w'.cell? ⟨gb237, 4, none⟩ = some (.int .i64 a2_4) ∧ w'.cell? ⟨gb237, 5, none⟩ = some (.int .i64 a2_5) ∧ w'.cell? ⟨gb237, 6, none⟩ = some (.int .i64 a2_6) ∧ w'.cell? ⟨gb237, 7, none⟩ = some (.int .i64 a2_7) ∧ w'.cell? ⟨gb237, 8, none⟩ = some (.int .i64 a2_8) ∧ w'.cell? ⟨gb237, 9, none⟩ = some (.int .i64 a2_9) ∧ w'.cell? ⟨gb237, 10, none⟩ = some (.int .i64 a2_10) ∧ w'.cell? ⟨gb237, 11, none⟩ = some (.bool a2_11) ∧ w'.cell? ⟨gb237, 12, none⟩ = some (.bool a2_12) ∧ w'.cell? ⟨gb237, 13, none⟩ = some (.bool a2_13) ∧ w'.cell? ⟨gb237, 14, none⟩ = some (.slice A2_14 l2_14.length c2_14) ∧ w'.cell? ⟨gb237, 15, none⟩ = some (.string a2_15)) ∧ (w'.heap[gb237]? = some (.cells #[.int .i64 a2_0, .int .i64 a2_1, .int .i64 a2_2, .int .i64 a2_3, .int .i64 a2_4, .int .i64 a2_5, .int .i64 a2_6, .int .i64 a2_7, .int .i64 a2_8, .int .i64 a2_9, .int .i64 a2_10, .bool a2_11, .bool a2_12, .bool a2_13, .slice A2_14 l2_14.length c2_14, .string a2_15] 28 (0, 0))) ∧ (Below w.heap.size w w')) ?_ ?_
                                rotate_left
                                · intro hJ2_5
                                  refine join_ (σ := Value) 16 (bz 42 906674280863) (fun s_ => [(16, .string t239), (38, s_)]) (fun s_ w' => (w'.cell? ⟨gb237, 0, none⟩ = some (.int .i64 a2_0) ∧ w'.cell? ⟨gb237, 1, none⟩ = some (.int .i64 a2_1) ∧ w'.cell? ⟨gb237, 2, none⟩ = some (.int .i64 a2_2) ∧ w'.cell? ⟨gb237, 3, none⟩ = some (.int .i64 a2_3) ∧ w'.cell? ⟨gb237, 4, none⟩ = some (.int .i64 a2_4) ∧ w'.cell? ⟨gb237, 5, none⟩ = some (.int .i64 a2_5) ∧ w'.cell? ⟨gb237, 6, none⟩ = some (.int .i64 a2_6) ∧ w'.cell? ⟨gb237, 7, none⟩ = some (.int .i64 a2_7) ∧ w'.cell? ⟨gb237, 8, none⟩ = some (.int .i64 a2_8) ∧ w'.cell? ⟨gb237, 9, none⟩ = some (.int .i64 a2_9) ∧ w'.cell? ⟨gb237, 10, none⟩ = some (.int .i64 a2_10) ∧ w'.cell? ⟨gb237, 11, none⟩ = some (.bool a2_11) ∧ w'.cell? ⟨gb237, 12, none⟩ = some (.bool a2_12) ∧ w'.cell? ⟨gb237, 13, none⟩ = some (.bool a2_13) ∧ w'.cell? ⟨gb237, 14, none⟩ = some (.slice A2_14 l2_14.length c2_14) ∧ w'.cell? ⟨gb237, 15, none⟩ = some (.string a2_15)) ∧ (Kd.R (Kd.int .u8) 5 w' w.heap.size (fun _ => True) s_ y243) ∧ (w'.heap[gb237]? = some (.cells #[.int .i64 a2_0, .int .i64 a2_1, .int .i64 a2_2, .int .i64 a2_3, .int .i64 a2_4, .int .i64 a2_5, .int .i64 a2_6, .int .i64 a2_7, .int .i64 a2_8, .int .i64 a2_9, .int .i64 a2_10, .bool a2_11, .bool a2_12, .bool a2_13, .slice A2_14 l2_14.length c2_14, .string a2_15] 28 (0, 0))) ∧ (Below w.heap.size w w')) ?_ ?_
                                  rotate_left
                                  · intro hJ2_24
                                    refine join_ (σ := Value) 16 (bz 42 906707835291) (fun s_ => [(38, s_), (39, .string (strOfNums y243))]) (fun s_ w' => (w'.cell? ⟨gb237, 0, none⟩ = some (.int .i64 a2_0) ∧ w'.cell? ⟨gb237, 1, none⟩ = some (.int .i64 a2_1) ∧ w'.cell? ⟨gb237, 2, none⟩ = some (.int .i64 a2_2) ∧ w'.cell? ⟨gb237, 3, none⟩ = some (.int .i64 a2_3) ∧ w'.cell? ⟨gb237, 4, none⟩ = some (.int .i64 a2_4) ∧ w'.cell? ⟨gb237, 5, none⟩ = some (.int .i64 a2_5) ∧ w'.cell? ⟨gb237, 6, none⟩ = some (.int .i64 a2_6) ∧ w'.cell? ⟨gb237, 7, none⟩ = some (.int .i64 a2_7) ∧ w'.cell? ⟨gb237, 8, none⟩ = some (.int .i64 a2_8) ∧ w'.cell? ⟨gb237, 9, none⟩ = some (.int .i64 a2_9) ∧ w'.cell? ⟨gb237, 10, none⟩ = some (.int .i64 a2_10) ∧ w'.cell? ⟨gb237, 11, none⟩ = some (.bool a2_11) ∧ w'.cell? ⟨gb237, 12, none⟩ = some (.bool a2_12) ∧ w'.cell? ⟨gb237, 13, none⟩ = some (.bool a2_13) ∧ w'.cell? ⟨gb237, 14, none⟩ = some (.slice A2_14 l2_14.length c2_14) ∧ w'.cell? ⟨gb237, 15, none⟩ = some (.string a2_15)) ∧ (Kd.R (Kd.int .u8) 5 w' w.heap.size (fun _ => True) s_ y243) ∧ (w'.heap[gb237]? = some (.cells #[.int .i64 a2_0, .int .i64 a2_1, .int .i64 a2_2, .int .i64 a2_3, .int .i64 a2_4, .int .i64 a2_5, .int .i64 a2_6, .int .i64 a2_7, .int .i64 a2_8, .int .i64 a2_9, .int .i64 a2_10, .bool a2_11, .bool a2_12, .bool a2_13, .slice A2_14 l2_14.length c2_14, .string a2_15] 28 (0, 0))) ∧ (Below w.heap.size w w')) ?_ ?_
                                    rotate_left
                                    · intro hJ24_25
                                      refine join_ (σ := Unit) 17 (bz 42 906657503647) (fun s_ => [(16, .string t239)]) (fun s_ w' => (w'.cell? ⟨gb237, 0, none⟩ = some (.int .i64 a2_0) ∧ w'.cell? ⟨gb237, 1, none⟩ = some (.int .i64 a2_1) ∧ w'.cell? ⟨gb237, 2, none⟩ = some (.int .i64 a2_2) ∧ w'.cell? ⟨gb237, 3, none⟩ = some (.int .i64 a2_3) ∧ w'.cell? ⟨gb237, 4, none⟩ = some (.int .i64 a2_4) ∧ w'.cell? ⟨gb237, 5, none⟩ = some (.int .i64 a2_5) ∧ w'.cell? ⟨gb237, 6, none⟩ = some (.int .i64 a2_6) ∧ w'.cell? ⟨gb237, 7, none⟩ = some (.int .i64 a2_7) ∧ w'.cell? ⟨gb237, 8, none⟩ = some (.int .i64 a2_8) ∧ w'.cell? ⟨gb237, 9, none⟩ = some (.int .i64 a2_9) ∧ w'.cell? ⟨gb237, 10, none⟩ = some (.int .i64 a2_10) ∧ w'.cell? ⟨gb237, 11, none⟩ = some (.bool a2_11) ∧ w'.cell? ⟨gb237, 12, none⟩ = some (.bool a2_12) ∧ w'.cell? ⟨gb237, 13, none⟩ = some (.bool a2_13) ∧ w'.cell? ⟨gb237, 14, none⟩ = some (.slice A2_14 l2_14.length c2_14) ∧ w'.cell? ⟨gb237, 15, none⟩ = some (.string a2_15)) ∧ (w'.heap[gb237]? = some (.cells #[.int .i64 a2_0, .int .i64 a2_1, .int .i64 a2_2, .int .i64 a2_3, .int .i64 a2_4, .int .i64 a2_5, .int .i64 a2_6, .int .i64 a2_7, .int .i64 a2_8, .int .i64 a2_9, .int .i64 a2_10, .bool a2_11, .bool a2_12, .bool a2_13, .slice A2_14 l2_14.length c2_14, .string a2_15] 28 (0, 0))) ∧ (Below w.heap.size w w')) ?_ ?_
                                      rotate_left
                                      · intro hJ2
                                        refine join_ (σ := Value) 17 (bz 42 906674280859) (fun s_ => [(38, s_)]) (fun s_ w' => (w'.cell? ⟨gb237, 0, none⟩ = some (.int .i64 a2_0) ∧ w'.cell? ⟨gb237, 1, none⟩ = some (.int .i64 a2_1) ∧ w'.cell? ⟨gb237, 2, none⟩ = some (.int .i64 a2_2) ∧ w'.cell? ⟨gb237, 3, none⟩ = some (.int .i64 a2_3) ∧ w'.cell? ⟨gb237, 4, none⟩ = some (.int .i64 a2_4) ∧ w'.cell? ⟨gb237, 5, none⟩ = some (.int .i64 a2_5) ∧ w'.cell? ⟨gb237, 6, none⟩ = some (.int .i64 a2_6) ∧ w'.cell? ⟨gb237, 7, none⟩ = some (.int .i64 a2_7) ∧ w'.cell? ⟨gb237, 8, none⟩ = some (.int .i64 a2_8) ∧ w'.cell? ⟨gb237, 9, none⟩ = some (.int .i64 a2_9) ∧ w'.cell? ⟨gb237, 10, none⟩ = some (.int .i64 a2_10) ∧ w'.cell? ⟨gb237, 11, none⟩ = some (.bool a2_11) ∧ w'.cell? ⟨gb237, 12, none⟩ = some (.bool a2_12) ∧ w'.cell? ⟨gb237, 13, none⟩ = some (.bool a2_13) ∧ w'.cell? ⟨gb237, 14, none⟩ = some (.slice A2_14 l2_14.length c2_14) ∧ w'.cell? ⟨gb237, 15, none⟩ = some (.string a2_15)) ∧ (Kd.R (Kd.int .u8) 5 w' w.heap.size (fun _ => True) s_ y243) ∧ (w'.heap[gb237]? = some (.cells #[.int .i64 a2_0, .int .i64 a2_1, .int .i64 a2_2, .int .i64 a2_3, .int .i64 a2_4, .int .i64 a2_5, .int .i64 a2_6, .int .i64 a2_7, .int .i64 a2_8, .int .i64 a2_9, .int .i64 a2_10, .bool a2_11, .bool a2_12, .bool a2_13, .slice A2_14 l2_14.length c2_14, .string a2_15] 28 (0, 0))) ∧ (Below w.heap.size w w')) ?_ ?_
                                        rotate_left
                                        · intro hJ24
                                          refine two_ (i := 2) (j := 24) (Ni := some 16) (Nj := some 38) (bz 42 906657503647) (bz 42 906674280859) rfl rfl rfl rfl (two_of HT_.out (by kernel_rfl)) (by decide) (by decide) (fun K hK => ?_) (fun K hK => ?_)
                                          · skip
                                            refine goes_ Try.func45 (by kernel_rfl) rfl #[.int .i64 a2_0, .int .i64 2] (by rfl) rfl rfl ga_ ?_
                                            with_reducible refine (sternpostref02_Text.calls k a2_0 2 t239 _ A5.out).mono ?_
                                            rintro e w33 ⟨rfl, hb⟩; refine ⟨_, rfl, ?_⟩; replace BK237 := kb_ BK237 hb; replace HB := bs1_ HB GE237 hb; (try clear hb)
                                            refine hK.out _ _ ⟨bc BK237 0, bc BK237 1, bc BK237 2, bc BK237 3, bc BK237 4, bc BK237 5, bc BK237 6, bc BK237 7, bc BK237 8, bc BK237 9, bc BK237 10, bc BK237 11, bc BK237 12, bc BK237 13, bc BK237 14, bc BK237 15⟩ (fun hHeld => ?_)
                                            clear hK K
                                            refine norm_ (a' := ?_) ?_ ?_
                                            rotate_left
                                            · show Act.put _ (some 16) _ = _; simp only [Act.put, s_0, s_1, s_2, i64_w, i32_w]; rfl
                                            exact norm_ nm_ (hJ2 () _ ⟨hHeld, (bk_ BK237), (be1_ HB GE237)⟩)
                                          skip
                                          refine Kd.R_lit_step (Kd.int .u8) _ 5 ?hg (N := 38) ?hd (xs := ([(wrap64 ((wrap64 (Int.tdiv (wrap64 (20 + (t238.size : Int))) 4)) * 16)) % 256, (a2_4) % 256] : List Int)) (inner := [.int .u8 ((wrap64 ((wrap64 (Int.tdiv (wrap64 (20 + (t238.size : Int))) 4)) * 16)) % 256), .int .u8 ((a2_4) % 256)]) (ok := fun _ => True) (okp := fun _ => True) ?hr ?hp (fun _ hk => hk) trivial (Below.refl _ _) (Nat.le_refl _) (by simp) ?_; (case hd => rfl); (case hg => rfl); (case hr => go_simp; first | done | (simp only [IntKind.wrap_u8]; done) | rfl); (case hp => exact (Reps.one (show Kd.M (Kd.int .u8) _ _ _ ((wrap64 ((wrap64 (Int.tdiv (wrap64 (20 + (t238.size : Int))) 4)) * 16)) % 256) [.int .u8 ((wrap64 ((wrap64 (Int.tdiv (wrap64 (20 + (t238.size : Int))) 4)) * 16)) % 256)] from rfl) (Reps.one (show Kd.M (Kd.int .u8) _ _ _ ((a2_4) % 256) [.int .u8 ((a2_4) % 256)] from rfl) (Reps.none _ _))))
                                          intro v244 w33 ho34 hb hg_ hnew_; clear hg_ hnew_
                                          (first | rw [← Ny243.out] at ho34 | (simp only [Int.reduceToNat] at ho34; rw [← Ny243.out] at ho34))
                                          have HO245 := Aside0.mk (Kd.R_lower ho34 (below_size (be1_ HB GE237))); replace BK237 := kb_ BK237 hb; replace HB := bs1_ HB GE237 hb
                                          clear hb ho34
                                          refine hK.out _ _ ⟨bc BK237 0, bc BK237 1, bc BK237 2, bc BK237 3, bc BK237 4, bc BK237 5, bc BK237 6, bc BK237 7, bc BK237 8, bc BK237 9, bc BK237 10, bc BK237 11, bc BK237 12, bc BK237 13, bc BK237 14, bc BK237 15⟩ (fun hHeld => ?_)
                                          clear hK K
                                          refine norm_ (a' := ?_) ?_ ?_
                                          rotate_left
                                          · show Act.put _ (some 38) _ = _; simp only [Act.put, s_0, s_1, s_2, i64_w, i32_w]; rfl
                                          exact norm_ nm_ (hJ24 (v244) _ ⟨hHeld, (by (with_reducible repeat (first | apply Kd.R_alloc | apply Kd.R_drewN | apply Kd.R_drew)); exact HO245.out), (bk_ BK237), (be1_ HB GE237)⟩)
                                        skip
                                        rintro v244 w35 ⟨hS_, h0_, h1_, h2_⟩
                                        have n0_ : Aside0 (Kd.R (Kd.int .u8) 5 w35 w.heap.size (fun _ => True) v244 y243) := ⟨h0_⟩
                                        have n1_ : Aside0 (w35.heap[gb237]? = some (.cells #[.int .i64 a2_0, .int .i64 a2_1, .int .i64 a2_2, .int .i64 a2_3, .int .i64 a2_4, .int .i64 a2_5, .int .i64 a2_6, .int .i64 a2_7, .int .i64 a2_8, .int .i64 a2_9, .int .i64 a2_10, .bool a2_11, .bool a2_12, .bool a2_13, .slice A2_14 l2_14.length c2_14, .string a2_15] 28 (0, 0))) := ⟨h1_⟩
                                        have n2_ : Aside0 (Below w.heap.size w w35) := ⟨h2_⟩
                                        clear BK237; clear HB; clear h0_ h1_ h2_; have HO245 := n0_; have BK237 := n1_; have HB := n2_; clear n0_ n1_ n2_
                                        have hHeld : w35.cell? ⟨gb237, 0, none⟩ = some (.int .i64 a2_0) ∧ w35.cell? ⟨gb237, 1, none⟩ = some (.int .i64 a2_1) ∧ w35.cell? ⟨gb237, 2, none⟩ = some (.int .i64 a2_2) ∧ w35.cell? ⟨gb237, 3, none⟩ = some (.int .i64 a2_3) ∧ w35.cell? ⟨gb237, 4, none⟩ = some (.int .i64 a2_4) ∧ w35.cell? ⟨gb237, 5, none⟩ = some (.int .i64 a2_5) ∧ w35.cell? ⟨gb237, 6, none⟩ = some (.int .i64 a2_6) ∧ w35.cell? ⟨gb237, 7, none⟩ = some (.int .i64 a2_7) ∧ w35.cell? ⟨gb237, 8, none⟩ = some (.int .i64 a2_8) ∧ w35.cell? ⟨gb237, 9, none⟩ = some (.int .i64 a2_9) ∧ w35.cell? ⟨gb237, 10, none⟩ = some (.int .i64 a2_10) ∧ w35.cell? ⟨gb237, 11, none⟩ = some (.bool a2_11) ∧ w35.cell? ⟨gb237, 12, none⟩ = some (.bool a2_12) ∧ w35.cell? ⟨gb237, 13, none⟩ = some (.bool a2_13) ∧ w35.cell? ⟨gb237, 14, none⟩ = some (.slice A2_14 l2_14.length c2_14) ∧ w35.cell? ⟨gb237, 15, none⟩ = some (.string a2_15) := hS_
                                        refine norm_ (a' := ?_) ?_ ?_
                                        rotate_left
                                        · simp only [putAll, Act.put, s_0, s_1, s_2]
                                          rfl
                                        refine two_ (i := 2) (j := 25) (Ni := some 16) (Nj := some 39) (bz 42 906674280863) (bz 42 906707835291) rfl rfl rfl rfl (two_of HT_.out (by kernel_rfl)) (by decide) (by decide) (fun K hK => ?_) (fun K hK => ?_)
                                        · skip
                                          refine goes_ Try.func45 (by kernel_rfl) rfl #[.int .i64 a2_0, .int .i64 2] (by rfl) rfl rfl ga_ ?_
                                          with_reducible refine (sternpostref02_Text.calls k a2_0 2 t239 _ A5.out).mono ?_
                                          rintro e w36 ⟨rfl, hb⟩; refine ⟨_, rfl, ?_⟩
                                          replace HO245 := Aside0.mk (Kd.R_below (by (with_reducible repeat (first | apply Kd.R_alloc | apply Kd.R_drewN | apply Kd.R_drew)); exact HO245.out) hb); replace BK237 := kb_ BK237 hb; replace HB := bs1_ HB GE237 hb
                                          (try clear hb)
                                          refine hK.out _ _ ⟨bc BK237 0, bc BK237 1, bc BK237 2, bc BK237 3, bc BK237 4, bc BK237 5, bc BK237 6, bc BK237 7, bc BK237 8, bc BK237 9, bc BK237 10, bc BK237 11, bc BK237 12, bc BK237 13, bc BK237 14, bc BK237 15⟩ (fun hHeld => ?_)
                                          clear hK K
                                          refine norm_ (a' := ?_) ?_ ?_
                                          rotate_left
                                          · show Act.put _ (some 16) _ = _; simp only [Act.put, s_0, s_1, s_2, i64_w, i32_w]; rfl
                                          exact norm_ nm_ (hJ2_24 (v244) _ ⟨hHeld, (by (with_reducible repeat (first | apply Kd.R_alloc | apply Kd.R_drewN | apply Kd.R_drew)); exact HO245.out), (bk_ BK237), (be1_ HB GE237)⟩)
                                        skip
                                        have hcv36 := own_string (P := Try.prog) Try.underlying42 Try.underlying5 Try.underlying9 (Kd.own_of_R HO245.out)
                                        refine value_ (w1 := ?_) (v := ?_) (by rfl) rfl ?_ ?_
                                        rotate_left 2
                                        · go_simp
                                          constructor
                                          · rfl
                                          rfl
                                        clear hcv36
                                        refine hK.out _ _ ⟨bc BK237 0, bc BK237 1, bc BK237 2, bc BK237 3, bc BK237 4, bc BK237 5, bc BK237 6, bc BK237 7, bc BK237 8, bc BK237 9, bc BK237 10, bc BK237 11, bc BK237 12, bc BK237 13, bc BK237 14, bc BK237 15⟩ (fun hHeld => ?_)
                                        clear hK K
                                        refine norm_ (a' := ?_) ?_ ?_
                                        rotate_left
                                        · show Act.put _ (some 39) _ = _; simp only [Act.put, s_0, s_1, s_2, i64_w, i32_w]; rfl
                                        exact norm_ nm_ (hJ24_25 (v244) _ ⟨hHeld, (by (with_reducible repeat (first | apply Kd.R_alloc | apply Kd.R_drewN | apply Kd.R_drew)); exact HO245.out), (bk_ BK237), (be1_ HB GE237)⟩)
                                      skip
                                      rintro _ w34 ⟨hS_, h0_, h1_⟩
                                      have n0_ : Aside0 (w34.heap[gb237]? = some (.cells #[.int .i64 a2_0, .int .i64 a2_1, .int .i64 a2_2, .int .i64 a2_3, .int .i64 a2_4, .int .i64 a2_5, .int .i64 a2_6, .int .i64 a2_7, .int .i64 a2_8, .int .i64 a2_9, .int .i64 a2_10, .bool a2_11, .bool a2_12, .bool a2_13, .slice A2_14 l2_14.length c2_14, .string a2_15] 28 (0, 0))) := ⟨h0_⟩
                                      have n1_ : Aside0 (Below w.heap.size w w34) := ⟨h1_⟩
                                      clear BK237; clear HB; clear h0_ h1_; have BK237 := n0_; have HB := n1_; clear n0_ n1_
                                      have hHeld : w34.cell? ⟨gb237, 0, none⟩ = some (.int .i64 a2_0) ∧ w34.cell? ⟨gb237, 1, none⟩ = some (.int .i64 a2_1) ∧ w34.cell? ⟨gb237, 2, none⟩ = some (.int .i64 a2_2) ∧ w34.cell? ⟨gb237, 3, none⟩ = some (.int .i64 a2_3) ∧ w34.cell? ⟨gb237, 4, none⟩ = some (.int .i64 a2_4) ∧ w34.cell? ⟨gb237, 5, none⟩ = some (.int .i64 a2_5) ∧ w34.cell? ⟨gb237, 6, none⟩ = some (.int .i64 a2_6) ∧ w34.cell? ⟨gb237, 7, none⟩ = some (.int .i64 a2_7) ∧ w34.cell? ⟨gb237, 8, none⟩ = some (.int .i64 a2_8) ∧ w34.cell? ⟨gb237, 9, none⟩ = some (.int .i64 a2_9) ∧ w34.cell? ⟨gb237, 10, none⟩ = some (.int .i64 a2_10) ∧ w34.cell? ⟨gb237, 11, none⟩ = some (.bool a2_11) ∧ w34.cell? ⟨gb237, 12, none⟩ = some (.bool a2_12) ∧ w34.cell? ⟨gb237, 13, none⟩ = some (.bool a2_13) ∧ w34.cell? ⟨gb237, 14, none⟩ = some (.slice A2_14 l2_14.length c2_14) ∧ w34.cell? ⟨gb237, 15, none⟩ = some (.string a2_15) := hS_
                                      refine norm_ (a' := ?_) ?_ ?_
                                      rotate_left
                                      · simp only [putAll, Act.put, s_0, s_1, s_2]
                                        rfl
                                      refine two_ (i := 5) (j := 24) (Ni := some 19) (Nj := some 38) (bz 42 906657503679) (bz 42 906674280863) rfl rfl rfl rfl (two_of HT_.out (by kernel_rfl)) (by decide) (by decide) (fun K hK => ?_) (fun K hK => ?_)
                                      · skip
                                        refine goes_ Try.func45 (by kernel_rfl) rfl #[.int .i64 a2_1, .int .i64 2] (by rfl) rfl rfl ga_ ?_
                                        with_reducible refine (sternpostref02_Text.calls k a2_1 2 t240 _ A6.out).mono ?_
                                        rintro e w35 ⟨rfl, hb⟩; refine ⟨_, rfl, ?_⟩; replace BK237 := kb_ BK237 hb; replace HB := bs1_ HB GE237 hb; (try clear hb)
                                        refine hK.out _ _ ⟨bc BK237 0, bc BK237 1, bc BK237 2, bc BK237 3, bc BK237 4, bc BK237 5, bc BK237 6, bc BK237 7, bc BK237 8, bc BK237 9, bc BK237 10, bc BK237 11, bc BK237 12, bc BK237 13, bc BK237 14, bc BK237 15⟩ (fun hHeld => ?_)
                                        clear hK K
                                        refine norm_ (a' := ?_) ?_ ?_
                                        rotate_left
                                        · show Act.put _ (some 19) _ = _; simp only [Act.put, s_0, s_1, s_2, i64_w, i32_w]; rfl
                                        refine pure_ (i := 6) (N := some 20) (v := ?_) (a' := ?_) (bz 42 906657503743) rfl rfl (any_of HT_.out (by kernel_rfl)) (fun _ _ _ h => h) (Or.inl ⟨by rfl, ?_⟩) ?_ ?_
                                        rotate_left
                                        · intro w'; go_simp; (with_reducible rfl)
                                        rotate_left
                                        · simp only [Act.put, s_0, s_1, s_2, i64_w, i32_w]; rfl
                                        exact norm_ nm_ (hJ2_5 () _ ⟨hHeld, (bk_ BK237), (be1_ HB GE237)⟩)
                                      skip
                                      refine Kd.R_lit_step (Kd.int .u8) _ 5 ?hg (N := 38) ?hd (xs := ([(wrap64 ((wrap64 (Int.tdiv (wrap64 (20 + (t238.size : Int))) 4)) * 16)) % 256, (a2_4) % 256] : List Int)) (inner := [.int .u8 ((wrap64 ((wrap64 (Int.tdiv (wrap64 (20 + (t238.size : Int))) 4)) * 16)) % 256), .int .u8 ((a2_4) % 256)]) (ok := fun _ => True) (okp := fun _ => True) ?hr ?hp (fun _ hk => hk) trivial (Below.refl _ _) (Nat.le_refl _) (by simp) ?_; (case hd => rfl); (case hg => rfl); (case hr => go_simp; first | done | (simp only [IntKind.wrap_u8]; done) | rfl); (case hp => exact (Reps.one (show Kd.M (Kd.int .u8) _ _ _ ((wrap64 ((wrap64 (Int.tdiv (wrap64 (20 + (t238.size : Int))) 4)) * 16)) % 256) [.int .u8 ((wrap64 ((wrap64 (Int.tdiv (wrap64 (20 + (t238.size : Int))) 4)) * 16)) % 256)] from rfl) (Reps.one (show Kd.M (Kd.int .u8) _ _ _ ((a2_4) % 256) [.int .u8 ((a2_4) % 256)] from rfl) (Reps.none _ _))))
                                      intro v244 w35 ho36 hb hg_ hnew_; clear hg_ hnew_
                                      (first | rw [← Ny243.out] at ho36 | (simp only [Int.reduceToNat] at ho36; rw [← Ny243.out] at ho36))
                                      have HO245 := Aside0.mk (Kd.R_lower ho36 (below_size (be1_ HB GE237))); replace BK237 := kb_ BK237 hb; replace HB := bs1_ HB GE237 hb
                                      clear hb ho36
                                      refine hK.out _ _ ⟨bc BK237 0, bc BK237 1, bc BK237 2, bc BK237 3, bc BK237 4, bc BK237 5, bc BK237 6, bc BK237 7, bc BK237 8, bc BK237 9, bc BK237 10, bc BK237 11, bc BK237 12, bc BK237 13, bc BK237 14, bc BK237 15⟩ (fun hHeld => ?_)
                                      clear hK K
                                      refine norm_ (a' := ?_) ?_ ?_
                                      rotate_left
                                      · show Act.put _ (some 38) _ = _; simp only [Act.put, s_0, s_1, s_2, i64_w, i32_w]; rfl
                                      exact norm_ nm_ (hJ2_24 (v244) _ ⟨hHeld, (by (with_reducible repeat (first | apply Kd.R_alloc | apply Kd.R_drewN | apply Kd.R_drew)); exact HO245.out), (bk_ BK237), (be1_ HB GE237)⟩)
                                    skip
                                    rintro v244 w36 ⟨hS_, h0_, h1_, h2_⟩
                                    have n0_ : Aside0 (Kd.R (Kd.int .u8) 5 w36 w.heap.size (fun _ => True) v244 y243) := ⟨h0_⟩
                                    have n1_ : Aside0 (w36.heap[gb237]? = some (.cells #[.int .i64 a2_0, .int .i64 a2_1, .int .i64 a2_2, .int .i64 a2_3, .int .i64 a2_4, .int .i64 a2_5, .int .i64 a2_6, .int .i64 a2_7, .int .i64 a2_8, .int .i64 a2_9, .int .i64 a2_10, .bool a2_11, .bool a2_12, .bool a2_13, .slice A2_14 l2_14.length c2_14, .string a2_15] 28 (0, 0))) := ⟨h1_⟩
                                    have n2_ : Aside0 (Below w.heap.size w w36) := ⟨h2_⟩
                                    clear BK237; clear HB; clear h0_ h1_ h2_; have HO245 := n0_; have BK237 := n1_; have HB := n2_; clear n0_ n1_ n2_
                                    have hHeld : w36.cell? ⟨gb237, 0, none⟩ = some (.int .i64 a2_0) ∧ w36.cell? ⟨gb237, 1, none⟩ = some (.int .i64 a2_1) ∧ w36.cell? ⟨gb237, 2, none⟩ = some (.int .i64 a2_2) ∧ w36.cell? ⟨gb237, 3, none⟩ = some (.int .i64 a2_3) ∧ w36.cell? ⟨gb237, 4, none⟩ = some (.int .i64 a2_4) ∧ w36.cell? ⟨gb237, 5, none⟩ = some (.int .i64 a2_5) ∧ w36.cell? ⟨gb237, 6, none⟩ = some (.int .i64 a2_6) ∧ w36.cell? ⟨gb237, 7, none⟩ = some (.int .i64 a2_7) ∧ w36.cell? ⟨gb237, 8, none⟩ = some (.int .i64 a2_8) ∧ w36.cell? ⟨gb237, 9, none⟩ = some (.int .i64 a2_9) ∧ w36.cell? ⟨gb237, 10, none⟩ = some (.int .i64 a2_10) ∧ w36.cell? ⟨gb237, 11, none⟩ = some (.bool a2_11) ∧ w36.cell? ⟨gb237, 12, none⟩ = some (.bool a2_12) ∧ w36.cell? ⟨gb237, 13, none⟩ = some (.bool a2_13) ∧ w36.cell? ⟨gb237, 14, none⟩ = some (.slice A2_14 l2_14.length c2_14) ∧ w36.cell? ⟨gb237, 15, none⟩ = some (.string a2_15) := hS_
                                    refine norm_ (a' := ?_) ?_ ?_
                                    rotate_left
                                    · simp only [putAll, Act.put, s_0, s_1, s_2]
                                      rfl
                                    refine one_ (i := 2) (N := some 16) (bz 42 906707835295) rfl rfl (one_of HT_.out (by kernel_rfl)) (by decide) (fun K hK => ?_)
                                    refine goes_ Try.func45 (by kernel_rfl) rfl #[.int .i64 a2_0, .int .i64 2] (by rfl) rfl rfl ga_ ?_
                                    with_reducible refine (sternpostref02_Text.calls k a2_0 2 t239 _ A5.out).mono ?_
                                    rintro e w37 ⟨rfl, hb⟩; refine ⟨_, rfl, ?_⟩
                                    replace HO245 := Aside0.mk (Kd.R_below (by (with_reducible repeat (first | apply Kd.R_alloc | apply Kd.R_drewN | apply Kd.R_drew)); exact HO245.out) hb); replace BK237 := kb_ BK237 hb; replace HB := bs1_ HB GE237 hb
                                    (try clear hb)
                                    refine hK.out _ _ ⟨bc BK237 0, bc BK237 1, bc BK237 2, bc BK237 3, bc BK237 4, bc BK237 5, bc BK237 6, bc BK237 7, bc BK237 8, bc BK237 9, bc BK237 10, bc BK237 11, bc BK237 12, bc BK237 13, bc BK237 14, bc BK237 15⟩ (fun hHeld => ?_)
                                    clear hK K
                                    refine norm_ (a' := ?_) ?_ ?_
                                    rotate_left
                                    · show Act.put _ (some 16) _ = _; simp only [Act.put, s_0, s_1, s_2, i64_w, i32_w]; rfl
                                    exact norm_ nm_ (hJ2_24_25 (v244) _ ⟨hHeld, (by (with_reducible repeat (first | apply Kd.R_alloc | apply Kd.R_drewN | apply Kd.R_drew)); exact HO245.out), (bk_ BK237), (be1_ HB GE237)⟩)
                                  skip
                                  rintro v244 w36 ⟨hS_, h0_, h1_, h2_⟩
                                  have n0_ : Aside0 (Kd.R (Kd.int .u8) 5 w36 w.heap.size (fun _ => True) v244 y243) := ⟨h0_⟩
                                  have n1_ : Aside0 (w36.heap[gb237]? = some (.cells #[.int .i64 a2_0, .int .i64 a2_1, .int .i64 a2_2, .int .i64 a2_3, .int .i64 a2_4, .int .i64 a2_5, .int .i64 a2_6, .int .i64 a2_7, .int .i64 a2_8, .int .i64 a2_9, .int .i64 a2_10, .bool a2_11, .bool a2_12, .bool a2_13, .slice A2_14 l2_14.length c2_14, .string a2_15] 28 (0, 0))) := ⟨h1_⟩
                                  have n2_ : Aside0 (Below w.heap.size w w36) := ⟨h2_⟩
                                  clear BK237; clear HB; clear h0_ h1_ h2_; have HO245 := n0_; have BK237 := n1_; have HB := n2_; clear n0_ n1_ n2_
                                  have hHeld : w36.cell? ⟨gb237, 0, none⟩ = some (.int .i64 a2_0) ∧ w36.cell? ⟨gb237, 1, none⟩ = some (.int .i64 a2_1) ∧ w36.cell? ⟨gb237, 2, none⟩ = some (.int .i64 a2_2) ∧ w36.cell? ⟨gb237, 3, none⟩ = some (.int .i64 a2_3) ∧ w36.cell? ⟨gb237, 4, none⟩ = some (.int .i64 a2_4) ∧ w36.cell? ⟨gb237, 5, none⟩ = some (.int .i64 a2_5) ∧ w36.cell? ⟨gb237, 6, none⟩ = some (.int .i64 a2_6) ∧ w36.cell? ⟨gb237, 7, none⟩ = some (.int .i64 a2_7) ∧ w36.cell? ⟨gb237, 8, none⟩ = some (.int .i64 a2_8) ∧ w36.cell? ⟨gb237, 9, none⟩ = some (.int .i64 a2_9) ∧ w36.cell? ⟨gb237, 10, none⟩ = some (.int .i64 a2_10) ∧ w36.cell? ⟨gb237, 11, none⟩ = some (.bool a2_11) ∧ w36.cell? ⟨gb237, 12, none⟩ = some (.bool a2_12) ∧ w36.cell? ⟨gb237, 13, none⟩ = some (.bool a2_13) ∧ w36.cell? ⟨gb237, 14, none⟩ = some (.slice A2_14 l2_14.length c2_14) ∧ w36.cell? ⟨gb237, 15, none⟩ = some (.string a2_15) := hS_
                                  refine norm_ (a' := ?_) ?_ ?_
                                  rotate_left
                                  · simp only [putAll, Act.put, s_0, s_1, s_2]
                                    rfl
                                  refine two_ (i := 5) (j := 25) (Ni := some 19) (Nj := some 39) (bz 42 906674280895) (bz 42 906707835295) rfl rfl rfl rfl (two_of HT_.out (by kernel_rfl)) (by decide) (by decide) (fun K hK => ?_) (fun K hK => ?_)
                                  · skip
                                    refine goes_ Try.func45 (by kernel_rfl) rfl #[.int .i64 a2_1, .int .i64 2] (by rfl) rfl rfl ga_ ?_
                                    with_reducible refine (sternpostref02_Text.calls k a2_1 2 t240 _ A6.out).mono ?_
                                    rintro e w37 ⟨rfl, hb⟩; refine ⟨_, rfl, ?_⟩
                                    replace HO245 := Aside0.mk (Kd.R_below (by (with_reducible repeat (first | apply Kd.R_alloc | apply Kd.R_drewN | apply Kd.R_drew)); exact HO245.out) hb); replace BK237 := kb_ BK237 hb; replace HB := bs1_ HB GE237 hb
                                    (try clear hb)
                                    refine hK.out _ _ ⟨bc BK237 0, bc BK237 1, bc BK237 2, bc BK237 3, bc BK237 4, bc BK237 5, bc BK237 6, bc BK237 7, bc BK237 8, bc BK237 9, bc BK237 10, bc BK237 11, bc BK237 12, bc BK237 13, bc BK237 14, bc BK237 15⟩ (fun hHeld => ?_)
                                    clear hK K
                                    refine norm_ (a' := ?_) ?_ ?_
                                    rotate_left
                                    · show Act.put _ (some 19) _ = _; simp only [Act.put, s_0, s_1, s_2, i64_w, i32_w]; rfl
                                    refine pure_ (i := 6) (N := some 20) (v := ?_) (a' := ?_) (bz 42 906674280959) rfl rfl (any_of HT_.out (by kernel_rfl)) (fun _ _ _ h => h) (Or.inl ⟨by rfl, ?_⟩) ?_ ?_
                                    rotate_left
                                    · intro w'; go_simp; (with_reducible rfl)
                                    rotate_left
                                    · simp only [Act.put, s_0, s_1, s_2, i64_w, i32_w]; rfl
                                    exact norm_ nm_ (hJ2_5_24 (v244) _ ⟨hHeld, (by (with_reducible repeat (first | apply Kd.R_alloc | apply Kd.R_drewN | apply Kd.R_drew)); exact HO245.out), (bk_ BK237), (be1_ HB GE237)⟩)
                                  skip
                                  have hcv37 := own_string (P := Try.prog) Try.underlying42 Try.underlying5 Try.underlying9 (Kd.own_of_R HO245.out)
                                  refine value_ (w1 := ?_) (v := ?_) (by rfl) rfl ?_ ?_
                                  rotate_left 2
                                  · go_simp
                                    constructor
                                    · rfl
                                    rfl
                                  clear hcv37
                                  refine hK.out _ _ ⟨bc BK237 0, bc BK237 1, bc BK237 2, bc BK237 3, bc BK237 4, bc BK237 5, bc BK237 6, bc BK237 7, bc BK237 8, bc BK237 9, bc BK237 10, bc BK237 11, bc BK237 12, bc BK237 13, bc BK237 14, bc BK237 15⟩ (fun hHeld => ?_)
                                  clear hK K
                                  refine norm_ (a' := ?_) ?_ ?_
                                  rotate_left
                                  · show Act.put _ (some 39) _ = _; simp only [Act.put, s_0, s_1, s_2, i64_w, i32_w]; rfl
                                  exact norm_ nm_ (hJ2_24_25 (v244) _ ⟨hHeld, (by (with_reducible repeat (first | apply Kd.R_alloc | apply Kd.R_drewN | apply Kd.R_drew)); exact HO245.out), (bk_ BK237), (be1_ HB GE237)⟩)
                                skip
                                rintro _ w35 ⟨hS_, h0_, h1_⟩
                                have n0_ : Aside0 (w35.heap[gb237]? = some (.cells #[.int .i64 a2_0, .int .i64 a2_1, .int .i64 a2_2, .int .i64 a2_3, .int .i64 a2_4, .int .i64 a2_5, .int .i64 a2_6, .int .i64 a2_7, .int .i64 a2_8, .int .i64 a2_9, .int .i64 a2_10, .bool a2_11, .bool a2_12, .bool a2_13, .slice A2_14 l2_14.length c2_14, .string a2_15] 28 (0, 0))) := ⟨h0_⟩
                                have n1_ : Aside0 (Below w.heap.size w w35) := ⟨h1_⟩
                                clear BK237; clear HB; clear h0_ h1_; have BK237 := n0_; have HB := n1_; clear n0_ n1_
                                have hHeld : w35.cell? ⟨gb237, 0, none⟩ = some (.int .i64 a2_0) ∧ w35.cell? ⟨gb237, 1, none⟩ = some (.int .i64 a2_1) ∧ w35.cell? ⟨gb237, 2, none⟩ = some (.int .i64 a2_2) ∧ w35.cell? ⟨gb237, 3, none⟩ = some (.int .i64 a2_3) ∧ w35.cell? ⟨gb237, 4, none⟩ = some (.int .i64 a2_4) ∧ w35.cell? ⟨gb237, 5, none⟩ = some (.int .i64 a2_5) ∧ w35.cell? ⟨gb237, 6, none⟩ = some (.int .i64 a2_6) ∧ w35.cell? ⟨gb237, 7, none⟩ = some (.int .i64 a2_7) ∧ w35.cell? ⟨gb237, 8, none⟩ = some (.int .i64 a2_8) ∧ w35.cell? ⟨gb237, 9, none⟩ = some (.int .i64 a2_9) ∧ w35.cell? ⟨gb237, 10, none⟩ = some (.int .i64 a2_10) ∧ w35.cell? ⟨gb237, 11, none⟩ = some (.bool a2_11) ∧ w35.cell? ⟨gb237, 12, none⟩ = some (.bool a2_12) ∧ w35.cell? ⟨gb237, 13, none⟩ = some (.bool a2_13) ∧ w35.cell? ⟨gb237, 14, none⟩ = some (.slice A2_14 l2_14.length c2_14) ∧ w35.cell? ⟨gb237, 15, none⟩ = some (.string a2_15) := hS_
                                refine norm_ (a' := ?_) ?_ ?_
                                rotate_left
                                · simp only [putAll, Act.put, s_0, s_1, s_2]
                                  rfl
                                refine two_ (i := 9) (j := 24) (Ni := some 23) (Nj := some 38) (bz 42 906657504255) (bz 42 906674280959) rfl rfl rfl rfl (two_of HT_.out (by kernel_rfl)) (by decide) (by decide) (fun K hK => ?_) (fun K hK => ?_)
                                · skip
                                  refine goes_ Try.func45 (by kernel_rfl) rfl #[.int .i64 a2_2, .int .i64 4] (by rfl) rfl rfl ga_ ?_
                                  with_reducible refine (sternpostref02_Text.calls k a2_2 4 t241 _ A8.out).mono ?_
                                  rintro e w36 ⟨rfl, hb⟩; refine ⟨_, rfl, ?_⟩; replace BK237 := kb_ BK237 hb; replace HB := bs1_ HB GE237 hb; (try clear hb)
                                  refine hK.out _ _ ⟨bc BK237 0, bc BK237 1, bc BK237 2, bc BK237 3, bc BK237 4, bc BK237 5, bc BK237 6, bc BK237 7, bc BK237 8, bc BK237 9, bc BK237 10, bc BK237 11, bc BK237 12, bc BK237 13, bc BK237 14, bc BK237 15⟩ (fun hHeld => ?_)
                                  clear hK K
                                  refine norm_ (a' := ?_) ?_ ?_
                                  rotate_left
                                  · show Act.put _ (some 23) _ = _; simp only [Act.put, s_0, s_1, s_2, i64_w, i32_w]; rfl
                                  refine pure_ (i := 10) (N := some 24) (v := ?_) (a' := ?_) (bz 42 906657505279) rfl rfl (any_of HT_.out (by kernel_rfl)) (fun _ _ _ h => h) (Or.inl ⟨by rfl, ?_⟩) ?_ ?_
                                  rotate_left
                                  · intro w'; go_simp; (with_reducible rfl)
                                  rotate_left
                                  · simp only [Act.put, s_0, s_1, s_2, i64_w, i32_w]; rfl
                                  exact norm_ nm_ (hJ2_5_9 () _ ⟨hHeld, (bk_ BK237), (be1_ HB GE237)⟩)
                                skip
                                refine Kd.R_lit_step (Kd.int .u8) _ 5 ?hg (N := 38) ?hd (xs := ([(wrap64 ((wrap64 (Int.tdiv (wrap64 (20 + (t238.size : Int))) 4)) * 16)) % 256, (a2_4) % 256] : List Int)) (inner := [.int .u8 ((wrap64 ((wrap64 (Int.tdiv (wrap64 (20 + (t238.size : Int))) 4)) * 16)) % 256), .int .u8 ((a2_4) % 256)]) (ok := fun _ => True) (okp := fun _ => True) ?hr ?hp (fun _ hk => hk) trivial (Below.refl _ _) (Nat.le_refl _) (by simp) ?_; (case hd => rfl); (case hg => rfl); (case hr => go_simp; first | done | (simp only [IntKind.wrap_u8]; done) | rfl); (case hp => exact (Reps.one (show Kd.M (Kd.int .u8) _ _ _ ((wrap64 ((wrap64 (Int.tdiv (wrap64 (20 + (t238.size : Int))) 4)) * 16)) % 256) [.int .u8 ((wrap64 ((wrap64 (Int.tdiv (wrap64 (20 + (t238.size : Int))) 4)) * 16)) % 256)] from rfl) (Reps.one (show Kd.M (Kd.int .u8) _ _ _ ((a2_4) % 256) [.int .u8 ((a2_4) % 256)] from rfl) (Reps.none _ _))))
                                intro v244 w36 ho37 hb hg_ hnew_; clear hg_ hnew_
                                (first | rw [← Ny243.out] at ho37 | (simp only [Int.reduceToNat] at ho37; rw [← Ny243.out] at ho37))
                                have HO245 := Aside0.mk (Kd.R_lower ho37 (below_size (be1_ HB GE237))); replace BK237 := kb_ BK237 hb; replace HB := bs1_ HB GE237 hb
                                clear hb ho37
                                refine hK.out _ _ ⟨bc BK237 0, bc BK237 1, bc BK237 2, bc BK237 3, bc BK237 4, bc BK237 5, bc BK237 6, bc BK237 7, bc BK237 8, bc BK237 9, bc BK237 10, bc BK237 11, bc BK237 12, bc BK237 13, bc BK237 14, bc BK237 15⟩ (fun hHeld => ?_)
                                clear hK K
                                refine norm_ (a' := ?_) ?_ ?_
                                rotate_left
                                · show Act.put _ (some 38) _ = _; simp only [Act.put, s_0, s_1, s_2, i64_w, i32_w]; rfl
                                exact norm_ nm_ (hJ2_5_24 (v244) _ ⟨hHeld, (by (with_reducible repeat (first | apply Kd.R_alloc | apply Kd.R_drewN | apply Kd.R_drew)); exact HO245.out), (bk_ BK237), (be1_ HB GE237)⟩)
                              skip
                              rintro v244 w37 ⟨hS_, h0_, h1_, h2_⟩
                              have n0_ : Aside0 (Kd.R (Kd.int .u8) 5 w37 w.heap.size (fun _ => True) v244 y243) := ⟨h0_⟩
                              have n1_ : Aside0 (w37.heap[gb237]? = some (.cells #[.int .i64 a2_0, .int .i64 a2_1, .int .i64 a2_2, .int .i64 a2_3, .int .i64 a2_4, .int .i64 a2_5, .int .i64 a2_6, .int .i64 a2_7, .int .i64 a2_8, .int .i64 a2_9, .int .i64 a2_10, .bool a2_11, .bool a2_12, .bool a2_13, .slice A2_14 l2_14.length c2_14, .string a2_15] 28 (0, 0))) := ⟨h1_⟩
                              have n2_ : Aside0 (Below w.heap.size w w37) := ⟨h2_⟩
                              clear BK237; clear HB; clear h0_ h1_ h2_; have HO245 := n0_; have BK237 := n1_; have HB := n2_; clear n0_ n1_ n2_
                              have hHeld : w37.cell? ⟨gb237, 0, none⟩ = some (.int .i64 a2_0) ∧ w37.cell? ⟨gb237, 1, none⟩ = some (.int .i64 a2_1) ∧ w37.cell? ⟨gb237, 2, none⟩ = some (.int .i64 a2_2) ∧ w37.cell? ⟨gb237, 3, none⟩ = some (.int .i64 a2_3) ∧ w37.cell? ⟨gb237, 4, none⟩ = some (.int .i64 a2_4) ∧ w37.cell? ⟨gb237, 5, none⟩ = some (.int .i64 a2_5) ∧ w37.cell? ⟨gb237, 6, none⟩ = some (.int .i64 a2_6) ∧ w37.cell? ⟨gb237, 7, none⟩ = some (.int .i64 a2_7) ∧ w37.cell? ⟨gb237, 8, none⟩ = some (.int .i64 a2_8) ∧ w37.cell? ⟨gb237, 9, none⟩ = some (.int .i64 a2_9) ∧ w37.cell? ⟨gb237, 10, none⟩ = some (.int .i64 a2_10) ∧ w37.cell? ⟨gb237, 11, none⟩ = some (.bool a2_11) ∧ w37.cell? ⟨gb237, 12, none⟩ = some (.bool a2_12) ∧ w37.cell? ⟨gb237, 13, none⟩ = some (.bool a2_13) ∧ w37.cell? ⟨gb237, 14, none⟩ = some (.slice A2_14 l2_14.length c2_14) ∧ w37.cell? ⟨gb237, 15, none⟩ = some (.string a2_15) := hS_
                              refine norm_ (a' := ?_) ?_ ?_
                              rotate_left
                              · simp only [putAll, Act.put, s_0, s_1, s_2]
                                rfl
                              refine one_ (i := 5) (N := some 19) (bz 42 906707835327) rfl rfl (one_of HT_.out (by kernel_rfl)) (by decide) (fun K hK => ?_)
                              refine goes_ Try.func45 (by kernel_rfl) rfl #[.int .i64 a2_1, .int .i64 2] (by rfl) rfl rfl ga_ ?_
                              with_reducible refine (sternpostref02_Text.calls k a2_1 2 t240 _ A6.out).mono ?_
                              rintro e w38 ⟨rfl, hb⟩; refine ⟨_, rfl, ?_⟩
                              replace HO245 := Aside0.mk (Kd.R_below (by (with_reducible repeat (first | apply Kd.R_alloc | apply Kd.R_drewN | apply Kd.R_drew)); exact HO245.out) hb); replace BK237 := kb_ BK237 hb; replace HB := bs1_ HB GE237 hb
                              (try clear hb)
                              refine hK.out _ _ ⟨bc BK237 0, bc BK237 1, bc BK237 2, bc BK237 3, bc BK237 4, bc BK237 5, bc BK237 6, bc BK237 7, bc BK237 8, bc BK237 9, bc BK237 10, bc BK237 11, bc BK237 12, bc BK237 13, bc BK237 14, bc BK237 15⟩ (fun hHeld => ?_)
                              clear hK K
                              refine norm_ (a' := ?_) ?_ ?_
                              rotate_left
                              · show Act.put _ (some 19) _ = _; simp only [Act.put, s_0, s_1, s_2, i64_w, i32_w]; rfl
                              refine pure_ (i := 6) (N := some 20) (v := ?_) (a' := ?_) (bz 42 906707835391) rfl rfl (any_of HT_.out (by kernel_rfl)) (fun _ _ _ h => h) (Or.inl ⟨by rfl, ?_⟩) ?_ ?_
                              rotate_left
                              · intro w'; go_simp; (with_reducible rfl)
                              rotate_left
                              · simp only [Act.put, s_0, s_1, s_2, i64_w, i32_w]; rfl
                              exact norm_ nm_ (hJ2_5_24_25 (v244) _ ⟨hHeld, (by (with_reducible repeat (first | apply Kd.R_alloc | apply Kd.R_drewN | apply Kd.R_drew)); exact HO245.out), (bk_ BK237), (be1_ HB GE237)⟩)
                            skip
                            rintro v244 w37 ⟨hS_, h0_, h1_, h2_⟩
                            have n0_ : Aside0 (Kd.R (Kd.int .u8) 5 w37 w.heap.size (fun _ => True) v244 y243) := ⟨h0_⟩
                            have n1_ : Aside0 (w37.heap[gb237]? = some (.cells #[.int .i64 a2_0, .int .i64 a2_1, .int .i64 a2_2, .int .i64 a2_3, .int .i64 a2_4, .int .i64 a2_5, .int .i64 a2_6, .int .i64 a2_7, .int .i64 a2_8, .int .i64 a2_9, .int .i64 a2_10, .bool a2_11, .bool a2_12, .bool a2_13, .slice A2_14 l2_14.length c2_14, .string a2_15] 28 (0, 0))) := ⟨h1_⟩
                            have n2_ : Aside0 (Below w.heap.size w w37) := ⟨h2_⟩
                            clear BK237; clear HB; clear h0_ h1_ h2_; have HO245 := n0_; have BK237 := n1_; have HB := n2_; clear n0_ n1_ n2_
                            have hHeld : w37.cell? ⟨gb237, 0, none⟩ = some (.int .i64 a2_0) ∧ w37.cell? ⟨gb237, 1, none⟩ = some (.int .i64 a2_1) ∧ w37.cell? ⟨gb237, 2, none⟩ = some (.int .i64 a2_2) ∧ w37.cell? ⟨gb237, 3, none⟩ = some (.int .i64 a2_3) ∧ w37.cell? ⟨gb237, 4, none⟩ = some (.int .i64 a2_4) ∧ w37.cell? ⟨gb237, 5, none⟩ = some (.int .i64 a2_5) ∧ w37.cell? ⟨gb237, 6, none⟩ = some (.int .i64 a2_6) ∧ w37.cell? ⟨gb237, 7, none⟩ = some (.int .i64 a2_7) ∧ w37.cell? ⟨gb237, 8, none⟩ = some (.int .i64 a2_8) ∧ w37.cell? ⟨gb237, 9, none⟩ = some (.int .i64 a2_9) ∧ w37.cell? ⟨gb237, 10, none⟩ = some (.int .i64 a2_10) ∧ w37.cell? ⟨gb237, 11, none⟩ = some (.bool a2_11) ∧ w37.cell? ⟨gb237, 12, none⟩ = some (.bool a2_12) ∧ w37.cell? ⟨gb237, 13, none⟩ = some (.bool a2_13) ∧ w37.cell? ⟨gb237, 14, none⟩ = some (.slice A2_14 l2_14.length c2_14) ∧ w37.cell? ⟨gb237, 15, none⟩ = some (.string a2_15) := hS_
                            refine norm_ (a' := ?_) ?_ ?_
                            rotate_left
                            · simp only [putAll, Act.put, s_0, s_1, s_2]
                              rfl
                            refine two_ (i := 9) (j := 25) (Ni := some 23) (Nj := some 39) (bz 42 906674281471) (bz 42 906707835391) rfl rfl rfl rfl (two_of HT_.out (by kernel_rfl)) (by decide) (by decide) (fun K hK => ?_) (fun K hK => ?_)
                            · skip
                              refine goes_ Try.func45 (by kernel_rfl) rfl #[.int .i64 a2_2, .int .i64 4] (by rfl) rfl rfl ga_ ?_
                              with_reducible refine (sternpostref02_Text.calls k a2_2 4 t241 _ A8.out).mono ?_
                              rintro e w38 ⟨rfl, hb⟩; refine ⟨_, rfl, ?_⟩
                              replace HO245 := Aside0.mk (Kd.R_below (by (with_reducible repeat (first | apply Kd.R_alloc | apply Kd.R_drewN | apply Kd.R_drew)); exact HO245.out) hb); replace BK237 := kb_ BK237 hb; replace HB := bs1_ HB GE237 hb
                              (try clear hb)
                              refine hK.out _ _ ⟨bc BK237 0, bc BK237 1, bc BK237 2, bc BK237 3, bc BK237 4, bc BK237 5, bc BK237 6, bc BK237 7, bc BK237 8, bc BK237 9, bc BK237 10, bc BK237 11, bc BK237 12, bc BK237 13, bc BK237 14, bc BK237 15⟩ (fun hHeld => ?_)
                              clear hK K
                              refine norm_ (a' := ?_) ?_ ?_
                              rotate_left
                              · show Act.put _ (some 23) _ = _; simp only [Act.put, s_0, s_1, s_2, i64_w, i32_w]; rfl
                              refine pure_ (i := 10) (N := some 24) (v := ?_) (a' := ?_) (bz 42 906674282495) rfl rfl (any_of HT_.out (by kernel_rfl)) (fun _ _ _ h => h) (Or.inl ⟨by rfl, ?_⟩) ?_ ?_
                              rotate_left
                              · intro w'; go_simp; (with_reducible rfl)
                              rotate_left
                              · simp only [Act.put, s_0, s_1, s_2, i64_w, i32_w]; rfl
                              exact norm_ nm_ (hJ2_5_9_24 (v244) _ ⟨hHeld, (by (with_reducible repeat (first | apply Kd.R_alloc | apply Kd.R_drewN | apply Kd.R_drew)); exact HO245.out), (bk_ BK237), (be1_ HB GE237)⟩)
                            skip
                            have hcv38 := own_string (P := Try.prog) Try.underlying42 Try.underlying5 Try.underlying9 (Kd.own_of_R HO245.out)
                            refine value_ (w1 := ?_) (v := ?_) (by rfl) rfl ?_ ?_
                            rotate_left 2
                            · go_simp
                              constructor
                              · rfl
                              rfl
                            clear hcv38
                            refine hK.out _ _ ⟨bc BK237 0, bc BK237 1, bc BK237 2, bc BK237 3, bc BK237 4, bc BK237 5, bc BK237 6, bc BK237 7, bc BK237 8, bc BK237 9, bc BK237 10, bc BK237 11, bc BK237 12, bc BK237 13, bc BK237 14, bc BK237 15⟩ (fun hHeld => ?_)
                            clear hK K
                            refine norm_ (a' := ?_) ?_ ?_
                            rotate_left
                            · show Act.put _ (some 39) _ = _; simp only [Act.put, s_0, s_1, s_2, i64_w, i32_w]; rfl
                            exact norm_ nm_ (hJ2_5_24_25 (v244) _ ⟨hHeld, (by (with_reducible repeat (first | apply Kd.R_alloc | apply Kd.R_drewN | apply Kd.R_drew)); exact HO245.out), (bk_ BK237), (be1_ HB GE237)⟩)
                          skip
                          rintro _ w36 ⟨hS_, h0_, h1_⟩
                          have n0_ : Aside0 (w36.heap[gb237]? = some (.cells #[.int .i64 a2_0, .int .i64 a2_1, .int .i64 a2_2, .int .i64 a2_3, .int .i64 a2_4, .int .i64 a2_5, .int .i64 a2_6, .int .i64 a2_7, .int .i64 a2_8, .int .i64 a2_9, .int .i64 a2_10, .bool a2_11, .bool a2_12, .bool a2_13, .slice A2_14 l2_14.length c2_14, .string a2_15] 28 (0, 0))) := ⟨h0_⟩
                          have n1_ : Aside0 (Below w.heap.size w w36) := ⟨h1_⟩
                          clear BK237; clear HB; clear h0_ h1_; have BK237 := n0_; have HB := n1_; clear n0_ n1_
                          have hHeld : w36.cell? ⟨gb237, 0, none⟩ = some (.int .i64 a2_0) ∧ w36.cell? ⟨gb237, 1, none⟩ = some (.int .i64 a2_1) ∧ w36.cell? ⟨gb237, 2, none⟩ = some (.int .i64 a2_2) ∧ w36.cell? ⟨gb237, 3, none⟩ = some (.int .i64 a2_3) ∧ w36.cell? ⟨gb237, 4, none⟩ = some (.int .i64 a2_4) ∧ w36.cell? ⟨gb237, 5, none⟩ = some (.int .i64 a2_5) ∧ w36.cell? ⟨gb237, 6, none⟩ = some (.int .i64 a2_6) ∧ w36.cell? ⟨gb237, 7, none⟩ = some (.int .i64 a2_7) ∧ w36.cell? ⟨gb237, 8, none⟩ = some (.int .i64 a2_8) ∧ w36.cell? ⟨gb237, 9, none⟩ = some (.int .i64 a2_9) ∧ w36.cell? ⟨gb237, 10, none⟩ = some (.int .i64 a2_10) ∧ w36.cell? ⟨gb237, 11, none⟩ = some (.bool a2_11) ∧ w36.cell? ⟨gb237, 12, none⟩ = some (.bool a2_12) ∧ w36.cell? ⟨gb237, 13, none⟩ = some (.bool a2_13) ∧ w36.cell? ⟨gb237, 14, none⟩ = some (.slice A2_14 l2_14.length c2_14) ∧ w36.cell? ⟨gb237, 15, none⟩ = some (.string a2_15) := hS_
                          refine norm_ (a' := ?_) ?_ ?_
                          rotate_left
                          · simp only [putAll, Act.put, s_0, s_1, s_2]
                            rfl
                          refine two_ (i := 13) (j := 24) (Ni := some 27) (Nj := some 38) (bz 42 906657513471) (bz 42 906674282495) rfl rfl rfl rfl (two_of HT_.out (by kernel_rfl)) (by decide) (by decide) (fun K hK => ?_) (fun K hK => ?_)
                          · skip
                            refine goes_ Try.func45 (by kernel_rfl) rfl #[.int .i64 a2_3, .int .i64 4] (by rfl) rfl rfl ga_ ?_
                            with_reducible refine (sternpostref02_Text.calls k a2_3 4 t242 _ A10.out).mono ?_
                            rintro e w37 ⟨rfl, hb⟩; refine ⟨_, rfl, ?_⟩; replace BK237 := kb_ BK237 hb; replace HB := bs1_ HB GE237 hb; (try clear hb)
                            refine hK.out _ _ ⟨bc BK237 0, bc BK237 1, bc BK237 2, bc BK237 3, bc BK237 4, bc BK237 5, bc BK237 6, bc BK237 7, bc BK237 8, bc BK237 9, bc BK237 10, bc BK237 11, bc BK237 12, bc BK237 13, bc BK237 14, bc BK237 15⟩ (fun hHeld => ?_)
                            clear hK K
                            refine norm_ (a' := ?_) ?_ ?_
                            rotate_left
                            · show Act.put _ (some 27) _ = _; simp only [Act.put, s_0, s_1, s_2, i64_w, i32_w]; rfl
                            refine pure_ (i := 14) (N := some 28) (v := ?_) (a' := ?_) (bz 42 906657529855) rfl rfl (any_of HT_.out (by kernel_rfl)) (fun _ _ _ h => h) (Or.inl ⟨by rfl, ?_⟩) ?_ ?_
                            rotate_left
                            · intro w'; go_simp; (with_reducible rfl)
                            rotate_left
                            · simp only [Act.put, s_0, s_1, s_2, i64_w, i32_w]; rfl
                            exact norm_ nm_ (hJ2_5_9_13 () _ ⟨hHeld, (bk_ BK237), (be1_ HB GE237)⟩)
                          skip
                          refine Kd.R_lit_step (Kd.int .u8) _ 5 ?hg (N := 38) ?hd (xs := ([(wrap64 ((wrap64 (Int.tdiv (wrap64 (20 + (t238.size : Int))) 4)) * 16)) % 256, (a2_4) % 256] : List Int)) (inner := [.int .u8 ((wrap64 ((wrap64 (Int.tdiv (wrap64 (20 + (t238.size : Int))) 4)) * 16)) % 256), .int .u8 ((a2_4) % 256)]) (ok := fun _ => True) (okp := fun _ => True) ?hr ?hp (fun _ hk => hk) trivial (Below.refl _ _) (Nat.le_refl _) (by simp) ?_; (case hd => rfl); (case hg => rfl); (case hr => go_simp; first | done | (simp only [IntKind.wrap_u8]; done) | rfl); (case hp => exact (Reps.one (show Kd.M (Kd.int .u8) _ _ _ ((wrap64 ((wrap64 (Int.tdiv (wrap64 (20 + (t238.size : Int))) 4)) * 16)) % 256) [.int .u8 ((wrap64 ((wrap64 (Int.tdiv (wrap64 (20 + (t238.size : Int))) 4)) * 16)) % 256)] from rfl) (Reps.one (show Kd.M (Kd.int .u8) _ _ _ ((a2_4) % 256) [.int .u8 ((a2_4) % 256)] from rfl) (Reps.none _ _))))
                          intro v244 w37 ho38 hb hg_ hnew_; clear hg_ hnew_
                          (first | rw [← Ny243.out] at ho38 | (simp only [Int.reduceToNat] at ho38; rw [← Ny243.out] at ho38))
                          have HO245 := Aside0.mk (Kd.R_lower ho38 (below_size (be1_ HB GE237))); replace BK237 := kb_ BK237 hb; replace HB := bs1_ HB GE237 hb
                          clear hb ho38
                          refine hK.out _ _ ⟨bc BK237 0, bc BK237 1, bc BK237 2, bc BK237 3, bc BK237 4, bc BK237 5, bc BK237 6, bc BK237 7, bc BK237 8, bc BK237 9, bc BK237 10, bc BK237 11, bc BK237 12, bc BK237 13, bc BK237 14, bc BK237 15⟩ (fun hHeld => ?_)
                          clear hK K
                          refine norm_ (a' := ?_) ?_ ?_
                          rotate_left
                          · show Act.put _ (some 38) _ = _; simp only [Act.put, s_0, s_1, s_2, i64_w, i32_w]; rfl
                          exact norm_ nm_ (hJ2_5_9_24 (v244) _ ⟨hHeld, (by (with_reducible repeat (first | apply Kd.R_alloc | apply Kd.R_drewN | apply Kd.R_drew)); exact HO245.out), (bk_ BK237), (be1_ HB GE237)⟩)
                        skip
                        rintro v244 w38 ⟨hS_, h0_, h1_, h2_⟩
                        have n0_ : Aside0 (Kd.R (Kd.int .u8) 5 w38 w.heap.size (fun _ => True) v244 y243) := ⟨h0_⟩
                        have n1_ : Aside0 (w38.heap[gb237]? = some (.cells #[.int .i64 a2_0, .int .i64 a2_1, .int .i64 a2_2, .int .i64 a2_3, .int .i64 a2_4, .int .i64 a2_5, .int .i64 a2_6, .int .i64 a2_7, .int .i64 a2_8, .int .i64 a2_9, .int .i64 a2_10, .bool a2_11, .bool a2_12, .bool a2_13, .slice A2_14 l2_14.length c2_14, .string a2_15] 28 (0, 0))) := ⟨h1_⟩
                        have n2_ : Aside0 (Below w.heap.size w w38) := ⟨h2_⟩
                        clear BK237; clear HB; clear h0_ h1_ h2_; have HO245 := n0_; have BK237 := n1_; have HB := n2_; clear n0_ n1_ n2_
                        have hHeld : w38.cell? ⟨gb237, 0, none⟩ = some (.int .i64 a2_0) ∧ w38.cell? ⟨gb237, 1, none⟩ = some (.int .i64 a2_1) ∧ w38.cell? ⟨gb237, 2, none⟩ = some (.int .i64 a2_2) ∧ w38.cell? ⟨gb237, 3, none⟩ = some (.int .i64 a2_3) ∧ w38.cell? ⟨gb237, 4, none⟩ = some (.int .i64 a2_4) ∧ w38.cell? ⟨gb237, 5, none⟩ = some (.int .i64 a2_5) ∧ w38.cell? ⟨gb237, 6, none⟩ = some (.int .i64 a2_6) ∧ w38.cell? ⟨gb237, 7, none⟩ = some (.int .i64 a2_7) ∧ w38.cell? ⟨gb237, 8, none⟩ = some (.int .i64 a2_8) ∧ w38.cell? ⟨gb237, 9, none⟩ = some (.int .i64 a2_9) ∧ w38.cell? ⟨gb237, 10, none⟩ = some (.int .i64 a2_10) ∧ w38.cell? ⟨gb237, 11, none⟩ = some (.bool a2_11) ∧ w38.cell? ⟨gb237, 12, none⟩ = some (.bool a2_12) ∧ w38.cell? ⟨gb237, 13, none⟩ = some (.bool a2_13) ∧ w38.cell? ⟨gb237, 14, none⟩ = some (.slice A2_14 l2_14.length c2_14) ∧ w38.cell? ⟨gb237, 15, none⟩ = some (.string a2_15) := hS_
                        refine norm_ (a' := ?_) ?_ ?_
                        rotate_left
                        · simp only [putAll, Act.put, s_0, s_1, s_2]
                          rfl
                        refine one_ (i := 9) (N := some 23) (bz 42 906707835903) rfl rfl (one_of HT_.out (by kernel_rfl)) (by decide) (fun K hK => ?_)
                        refine goes_ Try.func45 (by kernel_rfl) rfl #[.int .i64 a2_2, .int .i64 4] (by rfl) rfl rfl ga_ ?_
                        with_reducible refine (sternpostref02_Text.calls k a2_2 4 t241 _ A8.out).mono ?_
                        rintro e w39 ⟨rfl, hb⟩; refine ⟨_, rfl, ?_⟩
                        replace HO245 := Aside0.mk (Kd.R_below (by (with_reducible repeat (first | apply Kd.R_alloc | apply Kd.R_drewN | apply Kd.R_drew)); exact HO245.out) hb); replace BK237 := kb_ BK237 hb; replace HB := bs1_ HB GE237 hb
                        (try clear hb)
                        refine hK.out _ _ ⟨bc BK237 0, bc BK237 1, bc BK237 2, bc BK237 3, bc BK237 4, bc BK237 5, bc BK237 6, bc BK237 7, bc BK237 8, bc BK237 9, bc BK237 10, bc BK237 11, bc BK237 12, bc BK237 13, bc BK237 14, bc BK237 15⟩ (fun hHeld => ?_)
                        clear hK K
                        refine norm_ (a' := ?_) ?_ ?_
                        rotate_left
                        · show Act.put _ (some 23) _ = _; simp only [Act.put, s_0, s_1, s_2, i64_w, i32_w]; rfl
                        refine pure_ (i := 10) (N := some 24) (v := ?_) (a' := ?_) (bz 42 906707836927) rfl rfl (any_of HT_.out (by kernel_rfl)) (fun _ _ _ h => h) (Or.inl ⟨by rfl, ?_⟩) ?_ ?_
                        rotate_left
                        · intro w'; go_simp; (with_reducible rfl)
                        rotate_left
                        · simp only [Act.put, s_0, s_1, s_2, i64_w, i32_w]; rfl
                        exact norm_ nm_ (hJ2_5_9_24_25 (v244) _ ⟨hHeld, (by (with_reducible repeat (first | apply Kd.R_alloc | apply Kd.R_drewN | apply Kd.R_drew)); exact HO245.out), (bk_ BK237), (be1_ HB GE237)⟩)
                      skip
                      rintro v244 w38 ⟨hS_, h0_, h1_, h2_⟩
                      have n0_ : Aside0 (Kd.R (Kd.int .u8) 5 w38 w.heap.size (fun _ => True) v244 y243) := ⟨h0_⟩
                      have n1_ : Aside0 (w38.heap[gb237]? = some (.cells #[.int .i64 a2_0, .int .i64 a2_1, .int .i64 a2_2, .int .i64 a2_3, .int .i64 a2_4, .int .i64 a2_5, .int .i64 a2_6, .int .i64 a2_7, .int .i64 a2_8, .int .i64 a2_9, .int .i64 a2_10, .bool a2_11, .bool a2_12, .bool a2_13, .slice A2_14 l2_14.length c2_14, .string a2_15] 28 (0, 0))) := ⟨h1_⟩
                      have n2_ : Aside0 (Below w.heap.size w w38) := ⟨h2_⟩
                      clear BK237; clear HB; clear h0_ h1_ h2_; have HO245 := n0_; have BK237 := n1_; have HB := n2_; clear n0_ n1_ n2_
                      have hHeld : w38.cell? ⟨gb237, 0, none⟩ = some (.int .i64 a2_0) ∧ w38.cell? ⟨gb237, 1, none⟩ = some (.int .i64 a2_1) ∧ w38.cell? ⟨gb237, 2, none⟩ = some (.int .i64 a2_2) ∧ w38.cell? ⟨gb237, 3, none⟩ = some (.int .i64 a2_3) ∧ w38.cell? ⟨gb237, 4, none⟩ = some (.int .i64 a2_4) ∧ w38.cell? ⟨gb237, 5, none⟩ = some (.int .i64 a2_5) ∧ w38.cell? ⟨gb237, 6, none⟩ = some (.int .i64 a2_6) ∧ w38.cell? ⟨gb237, 7, none⟩ = some (.int .i64 a2_7) ∧ w38.cell? ⟨gb237, 8, none⟩ = some (.int .i64 a2_8) ∧ w38.cell? ⟨gb237, 9, none⟩ = some (.int .i64 a2_9) ∧ w38.cell? ⟨gb237, 10, none⟩ = some (.int .i64 a2_10) ∧ w38.cell? ⟨gb237, 11, none⟩ = some (.bool a2_11) ∧ w38.cell? ⟨gb237, 12, none⟩ = some (.bool a2_12) ∧ w38.cell? ⟨gb237, 13, none⟩ = some (.bool a2_13) ∧ w38.cell? ⟨gb237, 14, none⟩ = some (.slice A2_14 l2_14.length c2_14) ∧ w38.cell? ⟨gb237, 15, none⟩ = some (.string a2_15) := hS_
                      refine norm_ (a' := ?_) ?_ ?_
                      rotate_left
                      · simp only [putAll, Act.put, s_0, s_1, s_2]
                        rfl
                      refine two_ (i := 13) (j := 25) (Ni := some 27) (Nj := some 39) (bz 42 906674290687) (bz 42 906707836927) rfl rfl rfl rfl (two_of HT_.out (by kernel_rfl)) (by decide) (by decide) (fun K hK => ?_) (fun K hK => ?_)
                      · skip
                        refine goes_ Try.func45 (by kernel_rfl) rfl #[.int .i64 a2_3, .int .i64 4] (by rfl) rfl rfl ga_ ?_
                        with_reducible refine (sternpostref02_Text.calls k a2_3 4 t242 _ A10.out).mono ?_
                        rintro e w39 ⟨rfl, hb⟩; refine ⟨_, rfl, ?_⟩
                        replace HO245 := Aside0.mk (Kd.R_below (by (with_reducible repeat (first | apply Kd.R_alloc | apply Kd.R_drewN | apply Kd.R_drew)); exact HO245.out) hb); replace BK237 := kb_ BK237 hb; replace HB := bs1_ HB GE237 hb
                        (try clear hb)
                        refine hK.out _ _ ⟨bc BK237 0, bc BK237 1, bc BK237 2, bc BK237 3, bc BK237 4, bc BK237 5, bc BK237 6, bc BK237 7, bc BK237 8, bc BK237 9, bc BK237 10, bc BK237 11, bc BK237 12, bc BK237 13, bc BK237 14, bc BK237 15⟩ (fun hHeld => ?_)
                        clear hK K
                        refine norm_ (a' := ?_) ?_ ?_
                        rotate_left
                        · show Act.put _ (some 27) _ = _; simp only [Act.put, s_0, s_1, s_2, i64_w, i32_w]; rfl
                        refine pure_ (i := 14) (N := some 28) (v := ?_) (a' := ?_) (bz 42 906674307071) rfl rfl (any_of HT_.out (by kernel_rfl)) (fun _ _ _ h => h) (Or.inl ⟨by rfl, ?_⟩) ?_ ?_
                        rotate_left
                        · intro w'; go_simp; (with_reducible rfl)
                        rotate_left
                        · simp only [Act.put, s_0, s_1, s_2, i64_w, i32_w]; rfl
                        exact norm_ nm_ (hJ2_5_9_13_24 (v244) _ ⟨hHeld, (by (with_reducible repeat (first | apply Kd.R_alloc | apply Kd.R_drewN | apply Kd.R_drew)); exact HO245.out), (bk_ BK237), (be1_ HB GE237)⟩)
                      skip
                      have hcv39 := own_string (P := Try.prog) Try.underlying42 Try.underlying5 Try.underlying9 (Kd.own_of_R HO245.out)
                      refine value_ (w1 := ?_) (v := ?_) (by rfl) rfl ?_ ?_
                      rotate_left 2
                      · go_simp
                        constructor
                        · rfl
                        rfl
                      clear hcv39
                      refine hK.out _ _ ⟨bc BK237 0, bc BK237 1, bc BK237 2, bc BK237 3, bc BK237 4, bc BK237 5, bc BK237 6, bc BK237 7, bc BK237 8, bc BK237 9, bc BK237 10, bc BK237 11, bc BK237 12, bc BK237 13, bc BK237 14, bc BK237 15⟩ (fun hHeld => ?_)
                      clear hK K
                      refine norm_ (a' := ?_) ?_ ?_
                      rotate_left
                      · show Act.put _ (some 39) _ = _; simp only [Act.put, s_0, s_1, s_2, i64_w, i32_w]; rfl
                      exact norm_ nm_ (hJ2_5_9_24_25 (v244) _ ⟨hHeld, (by (with_reducible repeat (first | apply Kd.R_alloc | apply Kd.R_drewN | apply Kd.R_drew)); exact HO245.out), (bk_ BK237), (be1_ HB GE237)⟩)
                    skip
                    rintro _ w37 ⟨hS_, h0_, h1_⟩
                    have n0_ : Aside0 (w37.heap[gb237]? = some (.cells #[.int .i64 a2_0, .int .i64 a2_1, .int .i64 a2_2, .int .i64 a2_3, .int .i64 a2_4, .int .i64 a2_5, .int .i64 a2_6, .int .i64 a2_7, .int .i64 a2_8, .int .i64 a2_9, .int .i64 a2_10, .bool a2_11, .bool a2_12, .bool a2_13, .slice A2_14 l2_14.length c2_14, .string a2_15] 28 (0, 0))) := ⟨h0_⟩
                    have n1_ : Aside0 (Below w.heap.size w w37) := ⟨h1_⟩
                    clear BK237; clear HB; clear h0_ h1_; have BK237 := n0_; have HB := n1_; clear n0_ n1_
                    have hHeld : w37.cell? ⟨gb237, 0, none⟩ = some (.int .i64 a2_0) ∧ w37.cell? ⟨gb237, 1, none⟩ = some (.int .i64 a2_1) ∧ w37.cell? ⟨gb237, 2, none⟩ = some (.int .i64 a2_2) ∧ w37.cell? ⟨gb237, 3, none⟩ = some (.int .i64 a2_3) ∧ w37.cell? ⟨gb237, 4, none⟩ = some (.int .i64 a2_4) ∧ w37.cell? ⟨gb237, 5, none⟩ = some (.int .i64 a2_5) ∧ w37.cell? ⟨gb237, 6, none⟩ = some (.int .i64 a2_6) ∧ w37.cell? ⟨gb237, 7, none⟩ = some (.int .i64 a2_7) ∧ w37.cell? ⟨gb237, 8, none⟩ = some (.int .i64 a2_8) ∧ w37.cell? ⟨gb237, 9, none⟩ = some (.int .i64 a2_9) ∧ w37.cell? ⟨gb237, 10, none⟩ = some (.int .i64 a2_10) ∧ w37.cell? ⟨gb237, 11, none⟩ = some (.bool a2_11) ∧ w37.cell? ⟨gb237, 12, none⟩ = some (.bool a2_12) ∧ w37.cell? ⟨gb237, 13, none⟩ = some (.bool a2_13) ∧ w37.cell? ⟨gb237, 14, none⟩ = some (.slice A2_14 l2_14.length c2_14) ∧ w37.cell? ⟨gb237, 15, none⟩ = some (.string a2_15) := hS_
                    refine norm_ (a' := ?_) ?_ ?_
                    rotate_left
                    · simp only [putAll, Act.put, s_0, s_1, s_2]
                      rfl
                    refine two_ (i := 24) (j := 29) (Ni := some 38) (Nj := some 43) (bz 42 906674307071) (bz 42 907194400767) rfl rfl rfl rfl (two_of HT_.out (by kernel_rfl)) (by decide) (by decide) (fun K hK => ?_) (fun K hK => ?_)
                    · skip
                      refine Kd.R_lit_step (Kd.int .u8) _ 5 ?hg (N := 38) ?hd (xs := ([(wrap64 ((wrap64 (Int.tdiv (wrap64 (20 + (t238.size : Int))) 4)) * 16)) % 256, (a2_4) % 256] : List Int)) (inner := [.int .u8 ((wrap64 ((wrap64 (Int.tdiv (wrap64 (20 + (t238.size : Int))) 4)) * 16)) % 256), .int .u8 ((a2_4) % 256)]) (ok := fun _ => True) (okp := fun _ => True) ?hr ?hp (fun _ hk => hk) trivial (Below.refl _ _) (Nat.le_refl _) (by simp) ?_; (case hd => rfl); (case hg => rfl); (case hr => go_simp; first | done | (simp only [IntKind.wrap_u8]; done) | rfl); (case hp => exact (Reps.one (show Kd.M (Kd.int .u8) _ _ _ ((wrap64 ((wrap64 (Int.tdiv (wrap64 (20 + (t238.size : Int))) 4)) * 16)) % 256) [.int .u8 ((wrap64 ((wrap64 (Int.tdiv (wrap64 (20 + (t238.size : Int))) 4)) * 16)) % 256)] from rfl) (Reps.one (show Kd.M (Kd.int .u8) _ _ _ ((a2_4) % 256) [.int .u8 ((a2_4) % 256)] from rfl) (Reps.none _ _))))
                      intro v244 w38 ho39 hb hg_ hnew_; clear hg_ hnew_
                      (first | rw [← Ny243.out] at ho39 | (simp only [Int.reduceToNat] at ho39; rw [← Ny243.out] at ho39))
                      have HO245 := Aside0.mk (Kd.R_lower ho39 (below_size (be1_ HB GE237))); replace BK237 := kb_ BK237 hb; replace HB := bs1_ HB GE237 hb
                      clear hb ho39
                      refine hK.out _ _ ⟨bc BK237 0, bc BK237 1, bc BK237 2, bc BK237 3, bc BK237 4, bc BK237 5, bc BK237 6, bc BK237 7, bc BK237 8, bc BK237 9, bc BK237 10, bc BK237 11, bc BK237 12, bc BK237 13, bc BK237 14, bc BK237 15⟩ (fun hHeld => ?_)
                      clear hK K
                      refine norm_ (a' := ?_) ?_ ?_
                      rotate_left
                      · show Act.put _ (some 38) _ = _; simp only [Act.put, s_0, s_1, s_2, i64_w, i32_w]; rfl
                      exact norm_ nm_ (hJ2_5_9_13_24 (v244) _ ⟨hHeld, (by (with_reducible repeat (first | apply Kd.R_alloc | apply Kd.R_drewN | apply Kd.R_drew)); exact HO245.out), (bk_ BK237), (be1_ HB GE237)⟩)
                    skip
                    refine goes_ Try.func45 (by kernel_rfl) rfl #[.int .i64 a2_5, .int .i64 2] (by rfl) rfl rfl ga_ ?_
                    with_reducible refine (sternpostref02_Text.calls k a2_5 2 t246 _ A13.out).mono ?_
                    rintro e w38 ⟨rfl, hb⟩; refine ⟨_, rfl, ?_⟩; replace BK237 := kb_ BK237 hb; replace HB := bs1_ HB GE237 hb; (try clear hb)
                    refine hK.out _ _ ⟨bc BK237 0, bc BK237 1, bc BK237 2, bc BK237 3, bc BK237 4, bc BK237 5, bc BK237 6, bc BK237 7, bc BK237 8, bc BK237 9, bc BK237 10, bc BK237 11, bc BK237 12, bc BK237 13, bc BK237 14, bc BK237 15⟩ (fun hHeld => ?_)
                    clear hK K
                    refine norm_ (a' := ?_) ?_ ?_
                    rotate_left
                    · show Act.put _ (some 43) _ = _; simp only [Act.put, s_0, s_1, s_2, i64_w, i32_w]; rfl
                    exact norm_ nm_ (hJ2_5_9_13_29 () _ ⟨hHeld, (bk_ BK237), (be1_ HB GE237)⟩)
                  skip
                  rintro v244 w39 ⟨hS_, h0_, h1_, h2_⟩
                  have n0_ : Aside0 (Kd.R (Kd.int .u8) 5 w39 w.heap.size (fun _ => True) v244 y243) := ⟨h0_⟩
                  have n1_ : Aside0 (w39.heap[gb237]? = some (.cells #[.int .i64 a2_0, .int .i64 a2_1, .int .i64 a2_2, .int .i64 a2_3, .int .i64 a2_4, .int .i64 a2_5, .int .i64 a2_6, .int .i64 a2_7, .int .i64 a2_8, .int .i64 a2_9, .int .i64 a2_10, .bool a2_11, .bool a2_12, .bool a2_13, .slice A2_14 l2_14.length c2_14, .string a2_15] 28 (0, 0))) := ⟨h1_⟩
                  have n2_ : Aside0 (Below w.heap.size w w39) := ⟨h2_⟩
                  clear BK237; clear HB; clear h0_ h1_ h2_; have HO245 := n0_; have BK237 := n1_; have HB := n2_; clear n0_ n1_ n2_
                  have hHeld : w39.cell? ⟨gb237, 0, none⟩ = some (.int .i64 a2_0) ∧ w39.cell? ⟨gb237, 1, none⟩ = some (.int .i64 a2_1) ∧ w39.cell? ⟨gb237, 2, none⟩ = some (.int .i64 a2_2) ∧ w39.cell? ⟨gb237, 3, none⟩ = some (.int .i64 a2_3) ∧ w39.cell? ⟨gb237, 4, none⟩ = some (.int .i64 a2_4) ∧ w39.cell? ⟨gb237, 5, none⟩ = some (.int .i64 a2_5) ∧ w39.cell? ⟨gb237, 6, none⟩ = some (.int .i64 a2_6) ∧ w39.cell? ⟨gb237, 7, none⟩ = some (.int .i64 a2_7) ∧ w39.cell? ⟨gb237, 8, none⟩ = some (.int .i64 a2_8) ∧ w39.cell? ⟨gb237, 9, none⟩ = some (.int .i64 a2_9) ∧ w39.cell? ⟨gb237, 10, none⟩ = some (.int .i64 a2_10) ∧ w39.cell? ⟨gb237, 11, none⟩ = some (.bool a2_11) ∧ w39.cell? ⟨gb237, 12, none⟩ = some (.bool a2_12) ∧ w39.cell? ⟨gb237, 13, none⟩ = some (.bool a2_13) ∧ w39.cell? ⟨gb237, 14, none⟩ = some (.slice A2_14 l2_14.length c2_14) ∧ w39.cell? ⟨gb237, 15, none⟩ = some (.string a2_15) := hS_
                  refine norm_ (a' := ?_) ?_ ?_
                  rotate_left
                  · simp only [putAll, Act.put, s_0, s_1, s_2]
                    rfl
                  refine one_ (i := 13) (N := some 27) (bz 42 906707845119) rfl rfl (one_of HT_.out (by kernel_rfl)) (by decide) (fun K hK => ?_)
                  refine goes_ Try.func45 (by kernel_rfl) rfl #[.int .i64 a2_3, .int .i64 4] (by rfl) rfl rfl ga_ ?_
                  with_reducible refine (sternpostref02_Text.calls k a2_3 4 t242 _ A10.out).mono ?_
                  rintro e w40 ⟨rfl, hb⟩; refine ⟨_, rfl, ?_⟩
                  replace HO245 := Aside0.mk (Kd.R_below (by (with_reducible repeat (first | apply Kd.R_alloc | apply Kd.R_drewN | apply Kd.R_drew)); exact HO245.out) hb); replace BK237 := kb_ BK237 hb; replace HB := bs1_ HB GE237 hb
                  (try clear hb)
                  refine hK.out _ _ ⟨bc BK237 0, bc BK237 1, bc BK237 2, bc BK237 3, bc BK237 4, bc BK237 5, bc BK237 6, bc BK237 7, bc BK237 8, bc BK237 9, bc BK237 10, bc BK237 11, bc BK237 12, bc BK237 13, bc BK237 14, bc BK237 15⟩ (fun hHeld => ?_)
                  clear hK K
                  refine norm_ (a' := ?_) ?_ ?_
                  rotate_left
                  · show Act.put _ (some 27) _ = _; simp only [Act.put, s_0, s_1, s_2, i64_w, i32_w]; rfl
                  refine pure_ (i := 14) (N := some 28) (v := ?_) (a' := ?_) (bz 42 906707861503) rfl rfl (any_of HT_.out (by kernel_rfl)) (fun _ _ _ h => h) (Or.inl ⟨by rfl, ?_⟩) ?_ ?_
                  rotate_left
                  · intro w'; go_simp; (with_reducible rfl)
                  rotate_left
                  · simp only [Act.put, s_0, s_1, s_2, i64_w, i32_w]; rfl
                  refine pure_ (i := 26) (N := some 40) (v := ?_) (a' := ?_) (bz 42 906774970367) rfl rfl (any_of HT_.out (by kernel_rfl)) (fun _ _ _ h => h) (Or.inl ⟨by rfl, ?_⟩) ?_ ?_
                  rotate_left
                  · intro w'; go_simp; (with_reducible rfl)
                  rotate_left
                  · simp only [Act.put, s_0, s_1, s_2, i64_w, i32_w]; rfl
                  exact norm_ nm_ (hJ2_5_9_13_24_25 (v244) _ ⟨hHeld, (by (with_reducible repeat (first | apply Kd.R_alloc | apply Kd.R_drewN | apply Kd.R_drew)); exact HO245.out), (bk_ BK237), (be1_ HB GE237)⟩)
                skip
                rintro _ w38 ⟨hS_, h0_, h1_⟩
                have n0_ : Aside0 (w38.heap[gb237]? = some (.cells #[.int .i64 a2_0, .int .i64 a2_1, .int .i64 a2_2, .int .i64 a2_3, .int .i64 a2_4, .int .i64 a2_5, .int .i64 a2_6, .int .i64 a2_7, .int .i64 a2_8, .int .i64 a2_9, .int .i64 a2_10, .bool a2_11, .bool a2_12, .bool a2_13, .slice A2_14 l2_14.length c2_14, .string a2_15] 28 (0, 0))) := ⟨h0_⟩
                have n1_ : Aside0 (Below w.heap.size w w38) := ⟨h1_⟩
                clear BK237; clear HB; clear h0_ h1_; have BK237 := n0_; have HB := n1_; clear n0_ n1_
                have hHeld : w38.cell? ⟨gb237, 0, none⟩ = some (.int .i64 a2_0) ∧ w38.cell? ⟨gb237, 1, none⟩ = some (.int .i64 a2_1) ∧ w38.cell? ⟨gb237, 2, none⟩ = some (.int .i64 a2_2) ∧ w38.cell? ⟨gb237, 3, none⟩ = some (.int .i64 a2_3) ∧ w38.cell? ⟨gb237, 4, none⟩ = some (.int .i64 a2_4) ∧ w38.cell? ⟨gb237, 5, none⟩ = some (.int .i64 a2_5) ∧ w38.cell? ⟨gb237, 6, none⟩ = some (.int .i64 a2_6) ∧ w38.cell? ⟨gb237, 7, none⟩ = some (.int .i64 a2_7) ∧ w38.cell? ⟨gb237, 8, none⟩ = some (.int .i64 a2_8) ∧ w38.cell? ⟨gb237, 9, none⟩ = some (.int .i64 a2_9) ∧ w38.cell? ⟨gb237, 10, none⟩ = some (.int .i64 a2_10) ∧ w38.cell? ⟨gb237, 11, none⟩ = some (.bool a2_11) ∧ w38.cell? ⟨gb237, 12, none⟩ = some (.bool a2_12) ∧ w38.cell? ⟨gb237, 13, none⟩ = some (.bool a2_13) ∧ w38.cell? ⟨gb237, 14, none⟩ = some (.slice A2_14 l2_14.length c2_14) ∧ w38.cell? ⟨gb237, 15, none⟩ = some (.string a2_15) := hS_
                refine norm_ (a' := ?_) ?_ ?_
                rotate_left
                · simp only [putAll, Act.put, s_0, s_1, s_2]
                  rfl
                refine two_ (i := 24) (j := 34) (Ni := some 38) (Nj := some 48) (bz 42 907211177983) (bz 42 924374269951) rfl rfl rfl rfl (two_of HT_.out (by kernel_rfl)) (by decide) (by decide) (fun K hK => ?_) (fun K hK => ?_)
                · skip
                  refine Kd.R_lit_step (Kd.int .u8) _ 5 ?hg (N := 38) ?hd (xs := ([(wrap64 ((wrap64 (Int.tdiv (wrap64 (20 + (t238.size : Int))) 4)) * 16)) % 256, (a2_4) % 256] : List Int)) (inner := [.int .u8 ((wrap64 ((wrap64 (Int.tdiv (wrap64 (20 + (t238.size : Int))) 4)) * 16)) % 256), .int .u8 ((a2_4) % 256)]) (ok := fun _ => True) (okp := fun _ => True) ?hr ?hp (fun _ hk => hk) trivial (Below.refl _ _) (Nat.le_refl _) (by simp) ?_; (case hd => rfl); (case hg => rfl); (case hr => go_simp; first | done | (simp only [IntKind.wrap_u8]; done) | rfl); (case hp => exact (Reps.one (show Kd.M (Kd.int .u8) _ _ _ ((wrap64 ((wrap64 (Int.tdiv (wrap64 (20 + (t238.size : Int))) 4)) * 16)) % 256) [.int .u8 ((wrap64 ((wrap64 (Int.tdiv (wrap64 (20 + (t238.size : Int))) 4)) * 16)) % 256)] from rfl) (Reps.one (show Kd.M (Kd.int .u8) _ _ _ ((a2_4) % 256) [.int .u8 ((a2_4) % 256)] from rfl) (Reps.none _ _))))
                  intro v244 w39 ho40 hb hg_ hnew_; clear hg_ hnew_
                  (first | rw [← Ny243.out] at ho40 | (simp only [Int.reduceToNat] at ho40; rw [← Ny243.out] at ho40))
                  have HO245 := Aside0.mk (Kd.R_lower ho40 (below_size (be1_ HB GE237))); replace BK237 := kb_ BK237 hb; replace HB := bs1_ HB GE237 hb
                  clear hb ho40
                  refine hK.out _ _ ⟨bc BK237 0, bc BK237 1, bc BK237 2, bc BK237 3, bc BK237 4, bc BK237 5, bc BK237 6, bc BK237 7, bc BK237 8, bc BK237 9, bc BK237 10, bc BK237 11, bc BK237 12, bc BK237 13, bc BK237 14, bc BK237 15⟩ (fun hHeld => ?_)
                  clear hK K
                  refine norm_ (a' := ?_) ?_ ?_
                  rotate_left
                  · show Act.put _ (some 38) _ = _; simp only [Act.put, s_0, s_1, s_2, i64_w, i32_w]; rfl
                  exact norm_ nm_ (hJ2_5_9_13_24_29 (v244) _ ⟨hHeld, (by (with_reducible repeat (first | apply Kd.R_alloc | apply Kd.R_drewN | apply Kd.R_drew)); exact HO245.out), (bk_ BK237), (be1_ HB GE237)⟩)
                skip
                refine goes_ Try.func45 (by kernel_rfl) rfl #[.int .i64 a2_6, .int .i64 2] (by rfl) rfl rfl ga_ ?_
                with_reducible refine (sternpostref02_Text.calls k a2_6 2 t247 _ A16.out).mono ?_
                rintro e w39 ⟨rfl, hb⟩; refine ⟨_, rfl, ?_⟩; replace BK237 := kb_ BK237 hb; replace HB := bs1_ HB GE237 hb; (try clear hb)
                refine hK.out _ _ ⟨bc BK237 0, bc BK237 1, bc BK237 2, bc BK237 3, bc BK237 4, bc BK237 5, bc BK237 6, bc BK237 7, bc BK237 8, bc BK237 9, bc BK237 10, bc BK237 11, bc BK237 12, bc BK237 13, bc BK237 14, bc BK237 15⟩ (fun hHeld => ?_)
                clear hK K
                refine norm_ (a' := ?_) ?_ ?_
                rotate_left
                · show Act.put _ (some 48) _ = _; simp only [Act.put, s_0, s_1, s_2, i64_w, i32_w]; rfl
                exact norm_ nm_ (hJ2_5_9_13_29_34 () _ ⟨hHeld, (bk_ BK237), (be1_ HB GE237)⟩)
              skip
              rintro v244 w39 ⟨hS_, h0_, h1_, h2_⟩
              have n0_ : Aside0 (Kd.R (Kd.int .u8) 5 w39 w.heap.size (fun _ => True) v244 y243) := ⟨h0_⟩
              have n1_ : Aside0 (w39.heap[gb237]? = some (.cells #[.int .i64 a2_0, .int .i64 a2_1, .int .i64 a2_2, .int .i64 a2_3, .int .i64 a2_4, .int .i64 a2_5, .int .i64 a2_6, .int .i64 a2_7, .int .i64 a2_8, .int .i64 a2_9, .int .i64 a2_10, .bool a2_11, .bool a2_12, .bool a2_13, .slice A2_14 l2_14.length c2_14, .string a2_15] 28 (0, 0))) := ⟨h1_⟩
              have n2_ : Aside0 (Below w.heap.size w w39) := ⟨h2_⟩
              clear BK237; clear HB; clear h0_ h1_ h2_; have HO245 := n0_; have BK237 := n1_; have HB := n2_; clear n0_ n1_ n2_
              have hHeld : w39.cell? ⟨gb237, 0, none⟩ = some (.int .i64 a2_0) ∧ w39.cell? ⟨gb237, 1, none⟩ = some (.int .i64 a2_1) ∧ w39.cell? ⟨gb237, 2, none⟩ = some (.int .i64 a2_2) ∧ w39.cell? ⟨gb237, 3, none⟩ = some (.int .i64 a2_3) ∧ w39.cell? ⟨gb237, 4, none⟩ = some (.int .i64 a2_4) ∧ w39.cell? ⟨gb237, 5, none⟩ = some (.int .i64 a2_5) ∧ w39.cell? ⟨gb237, 6, none⟩ = some (.int .i64 a2_6) ∧ w39.cell? ⟨gb237, 7, none⟩ = some (.int .i64 a2_7) ∧ w39.cell? ⟨gb237, 8, none⟩ = some (.int .i64 a2_8) ∧ w39.cell? ⟨gb237, 9, none⟩ = some (.int .i64 a2_9) ∧ w39.cell? ⟨gb237, 10, none⟩ = some (.int .i64 a2_10) ∧ w39.cell? ⟨gb237, 11, none⟩ = some (.bool a2_11) ∧ w39.cell? ⟨gb237, 12, none⟩ = some (.bool a2_12) ∧ w39.cell? ⟨gb237, 13, none⟩ = some (.bool a2_13) ∧ w39.cell? ⟨gb237, 14, none⟩ = some (.slice A2_14 l2_14.length c2_14) ∧ w39.cell? ⟨gb237, 15, none⟩ = some (.string a2_15) := hS_
              refine norm_ (a' := ?_) ?_ ?_
              rotate_left
              · simp only [putAll, Act.put, s_0, s_1, s_2]
                rfl
              refine two_ (i := 25) (j := 29) (Ni := some 39) (Nj := some 43) (bz 42 906707861503) (bz 42 907211177983) rfl rfl rfl rfl (two_of HT_.out (by kernel_rfl)) (by decide) (by decide) (fun K hK => ?_) (fun K hK => ?_)
              · skip
                have hcv40 := own_string (P := Try.prog) Try.underlying42 Try.underlying5 Try.underlying9 (Kd.own_of_R HO245.out)
                refine value_ (w1 := ?_) (v := ?_) (by rfl) rfl ?_ ?_
                rotate_left 2
                · go_simp
                  constructor
                  · rfl
                  rfl
                clear hcv40
                refine hK.out _ _ ⟨bc BK237 0, bc BK237 1, bc BK237 2, bc BK237 3, bc BK237 4, bc BK237 5, bc BK237 6, bc BK237 7, bc BK237 8, bc BK237 9, bc BK237 10, bc BK237 11, bc BK237 12, bc BK237 13, bc BK237 14, bc BK237 15⟩ (fun hHeld => ?_)
                clear hK K
                refine norm_ (a' := ?_) ?_ ?_
                rotate_left
                · show Act.put _ (some 39) _ = _; simp only [Act.put, s_0, s_1, s_2, i64_w, i32_w]; rfl
                refine pure_ (i := 26) (N := some 40) (v := ?_) (a' := ?_) (bz 42 906774970367) rfl rfl (any_of HT_.out (by kernel_rfl)) (fun _ _ _ h => h) (Or.inl ⟨by rfl, ?_⟩) ?_ ?_
                rotate_left
                · intro w'; go_simp; (with_reducible rfl)
                rotate_left
                · simp only [Act.put, s_0, s_1, s_2, i64_w, i32_w]; rfl
                exact norm_ nm_ (hJ2_5_9_13_24_25 (v244) _ ⟨hHeld, (by (with_reducible repeat (first | apply Kd.R_alloc | apply Kd.R_drewN | apply Kd.R_drew)); exact HO245.out), (bk_ BK237), (be1_ HB GE237)⟩)
              skip
              refine goes_ Try.func45 (by kernel_rfl) rfl #[.int .i64 a2_5, .int .i64 2] (by rfl) rfl rfl ga_ ?_
              with_reducible refine (sternpostref02_Text.calls k a2_5 2 t246 _ A13.out).mono ?_
              rintro e w40 ⟨rfl, hb⟩; refine ⟨_, rfl, ?_⟩
              replace HO245 := Aside0.mk (Kd.R_below (by (with_reducible repeat (first | apply Kd.R_alloc | apply Kd.R_drewN | apply Kd.R_drew)); exact HO245.out) hb); replace BK237 := kb_ BK237 hb; replace HB := bs1_ HB GE237 hb
              (try clear hb)
              refine hK.out _ _ ⟨bc BK237 0, bc BK237 1, bc BK237 2, bc BK237 3, bc BK237 4, bc BK237 5, bc BK237 6, bc BK237 7, bc BK237 8, bc BK237 9, bc BK237 10, bc BK237 11, bc BK237 12, bc BK237 13, bc BK237 14, bc BK237 15⟩ (fun hHeld => ?_)
              clear hK K
              refine norm_ (a' := ?_) ?_ ?_
              rotate_left
              · show Act.put _ (some 43) _ = _; simp only [Act.put, s_0, s_1, s_2, i64_w, i32_w]; rfl
              exact norm_ nm_ (hJ2_5_9_13_24_29 (v244) _ ⟨hHeld, (by (with_reducible repeat (first | apply Kd.R_alloc | apply Kd.R_drewN | apply Kd.R_drew)); exact HO245.out), (bk_ BK237), (be1_ HB GE237)⟩)
            skip
            rintro _ w39 ⟨hS_, h0_, h1_⟩
            have n0_ : Aside0 (w39.heap[gb237]? = some (.cells #[.int .i64 a2_0, .int .i64 a2_1, .int .i64 a2_2, .int .i64 a2_3, .int .i64 a2_4, .int .i64 a2_5, .int .i64 a2_6, .int .i64 a2_7, .int .i64 a2_8, .int .i64 a2_9, .int .i64 a2_10, .bool a2_11, .bool a2_12, .bool a2_13, .slice A2_14 l2_14.length c2_14, .string a2_15] 28 (0, 0))) := ⟨h0_⟩
            have n1_ : Aside0 (Below w.heap.size w w39) := ⟨h1_⟩
            clear BK237; clear HB; clear h0_ h1_; have BK237 := n0_; have HB := n1_; clear n0_ n1_
            have hHeld : w39.cell? ⟨gb237, 0, none⟩ = some (.int .i64 a2_0) ∧ w39.cell? ⟨gb237, 1, none⟩ = some (.int .i64 a2_1) ∧ w39.cell? ⟨gb237, 2, none⟩ = some (.int .i64 a2_2) ∧ w39.cell? ⟨gb237, 3, none⟩ = some (.int .i64 a2_3) ∧ w39.cell? ⟨gb237, 4, none⟩ = some (.int .i64 a2_4) ∧ w39.cell? ⟨gb237, 5, none⟩ = some (.int .i64 a2_5) ∧ w39.cell? ⟨gb237, 6, none⟩ = some (.int .i64 a2_6) ∧ w39.cell? ⟨gb237, 7, none⟩ = some (.int .i64 a2_7) ∧ w39.cell? ⟨gb237, 8, none⟩ = some (.int .i64 a2_8) ∧ w39.cell? ⟨gb237, 9, none⟩ = some (.int .i64 a2_9) ∧ w39.cell? ⟨gb237, 10, none⟩ = some (.int .i64 a2_10) ∧ w39.cell? ⟨gb237, 11, none⟩ = some (.bool a2_11) ∧ w39.cell? ⟨gb237, 12, none⟩ = some (.bool a2_12) ∧ w39.cell? ⟨gb237, 13, none⟩ = some (.bool a2_13) ∧ w39.cell? ⟨gb237, 14, none⟩ = some (.slice A2_14 l2_14.length c2_14) ∧ w39.cell? ⟨gb237, 15, none⟩ = some (.string a2_15) := hS_
            refine norm_ (a' := ?_) ?_ ?_
            rotate_left
            · simp only [putAll, Act.put, s_0, s_1, s_2]
              rfl
            refine one_ (i := 24) (N := some 38) (bz 42 924391047167) rfl rfl (one_of HT_.out (by kernel_rfl)) (by decide) (fun K hK => ?_)
            refine Kd.R_lit_step (Kd.int .u8) _ 5 ?hg (N := 38) ?hd (xs := ([(wrap64 ((wrap64 (Int.tdiv (wrap64 (20 + (t238.size : Int))) 4)) * 16)) % 256, (a2_4) % 256] : List Int)) (inner := [.int .u8 ((wrap64 ((wrap64 (Int.tdiv (wrap64 (20 + (t238.size : Int))) 4)) * 16)) % 256), .int .u8 ((a2_4) % 256)]) (ok := fun _ => True) (okp := fun _ => True) ?hr ?hp (fun _ hk => hk) trivial (Below.refl _ _) (Nat.le_refl _) (by simp) ?_; (case hd => rfl); (case hg => rfl); (case hr => go_simp; first | done | (simp only [IntKind.wrap_u8]; done) | rfl); (case hp => exact (Reps.one (show Kd.M (Kd.int .u8) _ _ _ ((wrap64 ((wrap64 (Int.tdiv (wrap64 (20 + (t238.size : Int))) 4)) * 16)) % 256) [.int .u8 ((wrap64 ((wrap64 (Int.tdiv (wrap64 (20 + (t238.size : Int))) 4)) * 16)) % 256)] from rfl) (Reps.one (show Kd.M (Kd.int .u8) _ _ _ ((a2_4) % 256) [.int .u8 ((a2_4) % 256)] from rfl) (Reps.none _ _))))
            intro v244 w40 ho41 hb hg_ hnew_; clear hg_ hnew_
            (first | rw [← Ny243.out] at ho41 | (simp only [Int.reduceToNat] at ho41; rw [← Ny243.out] at ho41))
            have HO245 := Aside0.mk (Kd.R_lower ho41 (below_size (be1_ HB GE237))); replace BK237 := kb_ BK237 hb; replace HB := bs1_ HB GE237 hb
            clear hb ho41
            refine hK.out _ _ ⟨bc BK237 0, bc BK237 1, bc BK237 2, bc BK237 3, bc BK237 4, bc BK237 5, bc BK237 6, bc BK237 7, bc BK237 8, bc BK237 9, bc BK237 10, bc BK237 11, bc BK237 12, bc BK237 13, bc BK237 14, bc BK237 15⟩ (fun hHeld => ?_)
            clear hK K
            refine norm_ (a' := ?_) ?_ ?_
            rotate_left
            · show Act.put _ (some 38) _ = _; simp only [Act.put, s_0, s_1, s_2, i64_w, i32_w]; rfl
            exact norm_ nm_ (hJ2_5_9_13_24_29_34 (v244) _ ⟨hHeld, (by (with_reducible repeat (first | apply Kd.R_alloc | apply Kd.R_drewN | apply Kd.R_drew)); exact HO245.out), (bk_ BK237), (be1_ HB GE237)⟩)
          skip
          rintro v244 w40 ⟨hS_, h0_, h1_, h2_⟩
          have n0_ : Aside0 (Kd.R (Kd.int .u8) 5 w40 w.heap.size (fun _ => True) v244 y243) := ⟨h0_⟩
          have n1_ : Aside0 (w40.heap[gb237]? = some (.cells #[.int .i64 a2_0, .int .i64 a2_1, .int .i64 a2_2, .int .i64 a2_3, .int .i64 a2_4, .int .i64 a2_5, .int .i64 a2_6, .int .i64 a2_7, .int .i64 a2_8, .int .i64 a2_9, .int .i64 a2_10, .bool a2_11, .bool a2_12, .bool a2_13, .slice A2_14 l2_14.length c2_14, .string a2_15] 28 (0, 0))) := ⟨h1_⟩
          have n2_ : Aside0 (Below w.heap.size w w40) := ⟨h2_⟩
          clear BK237; clear HB; clear h0_ h1_ h2_; have HO245 := n0_; have BK237 := n1_; have HB := n2_; clear n0_ n1_ n2_
          have hHeld : w40.cell? ⟨gb237, 0, none⟩ = some (.int .i64 a2_0) ∧ w40.cell? ⟨gb237, 1, none⟩ = some (.int .i64 a2_1) ∧ w40.cell? ⟨gb237, 2, none⟩ = some (.int .i64 a2_2) ∧ w40.cell? ⟨gb237, 3, none⟩ = some (.int .i64 a2_3) ∧ w40.cell? ⟨gb237, 4, none⟩ = some (.int .i64 a2_4) ∧ w40.cell? ⟨gb237, 5, none⟩ = some (.int .i64 a2_5) ∧ w40.cell? ⟨gb237, 6, none⟩ = some (.int .i64 a2_6) ∧ w40.cell? ⟨gb237, 7, none⟩ = some (.int .i64 a2_7) ∧ w40.cell? ⟨gb237, 8, none⟩ = some (.int .i64 a2_8) ∧ w40.cell? ⟨gb237, 9, none⟩ = some (.int .i64 a2_9) ∧ w40.cell? ⟨gb237, 10, none⟩ = some (.int .i64 a2_10) ∧ w40.cell? ⟨gb237, 11, none⟩ = some (.bool a2_11) ∧ w40.cell? ⟨gb237, 12, none⟩ = some (.bool a2_12) ∧ w40.cell? ⟨gb237, 13, none⟩ = some (.bool a2_13) ∧ w40.cell? ⟨gb237, 14, none⟩ = some (.slice A2_14 l2_14.length c2_14) ∧ w40.cell? ⟨gb237, 15, none⟩ = some (.string a2_15) := hS_
          refine norm_ (a' := ?_) ?_ ?_
          rotate_left
          · simp only [putAll, Act.put, s_0, s_1, s_2]
            rfl
          refine two_ (i := 25) (j := 34) (Ni := some 39) (Nj := some 48) (bz 42 907244732415) (bz 42 924391047167) rfl rfl rfl rfl (two_of HT_.out (by kernel_rfl)) (by decide) (by decide) (fun K hK => ?_) (fun K hK => ?_)
          · skip
            have hcv41 := own_string (P := Try.prog) Try.underlying42 Try.underlying5 Try.underlying9 (Kd.own_of_R HO245.out)
            refine value_ (w1 := ?_) (v := ?_) (by rfl) rfl ?_ ?_
            rotate_left 2
            · go_simp
              constructor
              · rfl
              rfl
            clear hcv41
            refine hK.out _ _ ⟨bc BK237 0, bc BK237 1, bc BK237 2, bc BK237 3, bc BK237 4, bc BK237 5, bc BK237 6, bc BK237 7, bc BK237 8, bc BK237 9, bc BK237 10, bc BK237 11, bc BK237 12, bc BK237 13, bc BK237 14, bc BK237 15⟩ (fun hHeld => ?_)
            clear hK K
            refine norm_ (a' := ?_) ?_ ?_
            rotate_left
            · show Act.put _ (some 39) _ = _; simp only [Act.put, s_0, s_1, s_2, i64_w, i32_w]; rfl
            refine pure_ (i := 26) (N := some 40) (v := ?_) (a' := ?_) (bz 42 907311841279) rfl rfl (any_of HT_.out (by kernel_rfl)) (fun _ _ _ h => h) (Or.inl ⟨by rfl, ?_⟩) ?_ ?_
            rotate_left
            · intro w'; go_simp; (with_reducible rfl)
            rotate_left
            · simp only [Act.put, s_0, s_1, s_2, i64_w, i32_w]; rfl
            refine pure_ (i := 30) (N := some 44) (v := ?_) (a' := ?_) (bz 42 908385583103) rfl rfl (any_of HT_.out (by kernel_rfl)) (fun _ _ _ h => h) (Or.inl ⟨by rfl, ?_⟩) ?_ ?_
            rotate_left
            · intro w'; go_simp; (with_reducible rfl)
            rotate_left
            · simp only [Act.put, s_0, s_1, s_2, i64_w, i32_w]; rfl
            refine pure_ (i := 31) (N := some 45) (v := ?_) (a' := ?_) (bz 42 910533066751) rfl rfl (any_of HT_.out (by kernel_rfl)) (fun _ _ _ h => h) (Or.inl ⟨by rfl, ?_⟩) ?_ ?_
            rotate_left
            · intro w'; go_simp; (with_reducible rfl)
            rotate_left
            · simp only [Act.put, s_0, s_1, s_2, i64_w, i32_w]; rfl
            exact norm_ nm_ (hJ2_5_9_13_24_25_29 (v244) _ ⟨hHeld, (by (with_reducible repeat (first | apply Kd.R_alloc | apply Kd.R_drewN | apply Kd.R_drew)); exact HO245.out), (bk_ BK237), (be1_ HB GE237)⟩)
          skip
          refine goes_ Try.func45 (by kernel_rfl) rfl #[.int .i64 a2_6, .int .i64 2] (by rfl) rfl rfl ga_ ?_
          with_reducible refine (sternpostref02_Text.calls k a2_6 2 t247 _ A16.out).mono ?_
          rintro e w41 ⟨rfl, hb⟩; refine ⟨_, rfl, ?_⟩
          replace HO245 := Aside0.mk (Kd.R_below (by (with_reducible repeat (first | apply Kd.R_alloc | apply Kd.R_drewN | apply Kd.R_drew)); exact HO245.out) hb); replace BK237 := kb_ BK237 hb; replace HB := bs1_ HB GE237 hb
          (try clear hb)
          refine hK.out _ _ ⟨bc BK237 0, bc BK237 1, bc BK237 2, bc BK237 3, bc BK237 4, bc BK237 5, bc BK237 6, bc BK237 7, bc BK237 8, bc BK237 9, bc BK237 10, bc BK237 11, bc BK237 12, bc BK237 13, bc BK237 14, bc BK237 15⟩ (fun hHeld => ?_)
          clear hK K
          refine norm_ (a' := ?_) ?_ ?_
          rotate_left
          · show Act.put _ (some 48) _ = _; simp only [Act.put, s_0, s_1, s_2, i64_w, i32_w]; rfl
          exact norm_ nm_ (hJ2_5_9_13_24_29_34 (v244) _ ⟨hHeld, (by (with_reducible repeat (first | apply Kd.R_alloc | apply Kd.R_drewN | apply Kd.R_drew)); exact HO245.out), (bk_ BK237), (be1_ HB GE237)⟩)
        skip
        rintro v244 w40 ⟨hS_, h0_, h1_, h2_⟩
        have n0_ : Aside0 (Kd.R (Kd.int .u8) 5 w40 w.heap.size (fun _ => True) v244 y243) := ⟨h0_⟩
        have n1_ : Aside0 (w40.heap[gb237]? = some (.cells #[.int .i64 a2_0, .int .i64 a2_1, .int .i64 a2_2, .int .i64 a2_3, .int .i64 a2_4, .int .i64 a2_5, .int .i64 a2_6, .int .i64 a2_7, .int .i64 a2_8, .int .i64 a2_9, .int .i64 a2_10, .bool a2_11, .bool a2_12, .bool a2_13, .slice A2_14 l2_14.length c2_14, .string a2_15] 28 (0, 0))) := ⟨h1_⟩
        have n2_ : Aside0 (Below w.heap.size w w40) := ⟨h2_⟩
        clear BK237; clear HB; clear h0_ h1_ h2_; have HO245 := n0_; have BK237 := n1_; have HB := n2_; clear n0_ n1_ n2_
        have hHeld : w40.cell? ⟨gb237, 0, none⟩ = some (.int .i64 a2_0) ∧ w40.cell? ⟨gb237, 1, none⟩ = some (.int .i64 a2_1) ∧ w40.cell? ⟨gb237, 2, none⟩ = some (.int .i64 a2_2) ∧ w40.cell? ⟨gb237, 3, none⟩ = some (.int .i64 a2_3) ∧ w40.cell? ⟨gb237, 4, none⟩ = some (.int .i64 a2_4) ∧ w40.cell? ⟨gb237, 5, none⟩ = some (.int .i64 a2_5) ∧ w40.cell? ⟨gb237, 6, none⟩ = some (.int .i64 a2_6) ∧ w40.cell? ⟨gb237, 7, none⟩ = some (.int .i64 a2_7) ∧ w40.cell? ⟨gb237, 8, none⟩ = some (.int .i64 a2_8) ∧ w40.cell? ⟨gb237, 9, none⟩ = some (.int .i64 a2_9) ∧ w40.cell? ⟨gb237, 10, none⟩ = some (.int .i64 a2_10) ∧ w40.cell? ⟨gb237, 11, none⟩ = some (.bool a2_11) ∧ w40.cell? ⟨gb237, 12, none⟩ = some (.bool a2_12) ∧ w40.cell? ⟨gb237, 13, none⟩ = some (.bool a2_13) ∧ w40.cell? ⟨gb237, 14, none⟩ = some (.slice A2_14 l2_14.length c2_14) ∧ w40.cell? ⟨gb237, 15, none⟩ = some (.string a2_15) := hS_
        refine norm_ (a' := ?_) ?_ ?_
        rotate_left
        · simp only [putAll, Act.put, s_0, s_1, s_2]
          rfl
        refine one_ (i := 29) (N := some 43) (bz 42 907311841279) rfl rfl (one_of HT_.out (by kernel_rfl)) (by decide) (fun K hK => ?_)
        refine goes_ Try.func45 (by kernel_rfl) rfl #[.int .i64 a2_5, .int .i64 2] (by rfl) rfl rfl ga_ ?_
        with_reducible refine (sternpostref02_Text.calls k a2_5 2 t246 _ A13.out).mono ?_
        rintro e w41 ⟨rfl, hb⟩; refine ⟨_, rfl, ?_⟩
        replace HO245 := Aside0.mk (Kd.R_below (by (with_reducible repeat (first | apply Kd.R_alloc | apply Kd.R_drewN | apply Kd.R_drew)); exact HO245.out) hb); replace BK237 := kb_ BK237 hb; replace HB := bs1_ HB GE237 hb
        (try clear hb)
        refine hK.out _ _ ⟨bc BK237 0, bc BK237 1, bc BK237 2, bc BK237 3, bc BK237 4, bc BK237 5, bc BK237 6, bc BK237 7, bc BK237 8, bc BK237 9, bc BK237 10, bc BK237 11, bc BK237 12, bc BK237 13, bc BK237 14, bc BK237 15⟩ (fun hHeld => ?_)
        clear hK K
        refine norm_ (a' := ?_) ?_ ?_
        rotate_left
        · show Act.put _ (some 43) _ = _; simp only [Act.put, s_0, s_1, s_2, i64_w, i32_w]; rfl
        refine pure_ (i := 30) (N := some 44) (v := ?_) (a' := ?_) (bz 42 908385583103) rfl rfl (any_of HT_.out (by kernel_rfl)) (fun _ _ _ h => h) (Or.inl ⟨by rfl, ?_⟩) ?_ ?_
        rotate_left
        · intro w'; go_simp; (with_reducible rfl)
        rotate_left
        · simp only [Act.put, s_0, s_1, s_2, i64_w, i32_w]; rfl
        refine pure_ (i := 31) (N := some 45) (v := ?_) (a' := ?_) (bz 42 910533066751) rfl rfl (any_of HT_.out (by kernel_rfl)) (fun _ _ _ h => h) (Or.inl ⟨by rfl, ?_⟩) ?_ ?_
        rotate_left
        · intro w'; go_simp; (with_reducible rfl)
        rotate_left
        · simp only [Act.put, s_0, s_1, s_2, i64_w, i32_w]; rfl
        exact norm_ nm_ (hJ2_5_9_13_24_25_29 (v244) _ ⟨hHeld, (by (with_reducible repeat (first | apply Kd.R_alloc | apply Kd.R_drewN | apply Kd.R_drew)); exact HO245.out), (bk_ BK237), (be1_ HB GE237)⟩)
      skip
      rintro v244 w41 ⟨hS_, h0_, h1_, h2_⟩
      have n0_ : Aside0 (Kd.R (Kd.int .u8) 5 w41 w.heap.size (fun _ => True) v244 y243) := ⟨h0_⟩
      have n1_ : Aside0 (w41.heap[gb237]? = some (.cells #[.int .i64 a2_0, .int .i64 a2_1, .int .i64 a2_2, .int .i64 a2_3, .int .i64 a2_4, .int .i64 a2_5, .int .i64 a2_6, .int .i64 a2_7, .int .i64 a2_8, .int .i64 a2_9, .int .i64 a2_10, .bool a2_11, .bool a2_12, .bool a2_13, .slice A2_14 l2_14.length c2_14, .string a2_15] 28 (0, 0))) := ⟨h1_⟩
      have n2_ : Aside0 (Below w.heap.size w w41) := ⟨h2_⟩
      clear BK237; clear HB; clear h0_ h1_ h2_; have HO245 := n0_; have BK237 := n1_; have HB := n2_; clear n0_ n1_ n2_
      have hHeld : w41.cell? ⟨gb237, 0, none⟩ = some (.int .i64 a2_0) ∧ w41.cell? ⟨gb237, 1, none⟩ = some (.int .i64 a2_1) ∧ w41.cell? ⟨gb237, 2, none⟩ = some (.int .i64 a2_2) ∧ w41.cell? ⟨gb237, 3, none⟩ = some (.int .i64 a2_3) ∧ w41.cell? ⟨gb237, 4, none⟩ = some (.int .i64 a2_4) ∧ w41.cell? ⟨gb237, 5, none⟩ = some (.int .i64 a2_5) ∧ w41.cell? ⟨gb237, 6, none⟩ = some (.int .i64 a2_6) ∧ w41.cell? ⟨gb237, 7, none⟩ = some (.int .i64 a2_7) ∧ w41.cell? ⟨gb237, 8, none⟩ = some (.int .i64 a2_8) ∧ w41.cell? ⟨gb237, 9, none⟩ = some (.int .i64 a2_9) ∧ w41.cell? ⟨gb237, 10, none⟩ = some (.int .i64 a2_10) ∧ w41.cell? ⟨gb237, 11, none⟩ = some (.bool a2_11) ∧ w41.cell? ⟨gb237, 12, none⟩ = some (.bool a2_12) ∧ w41.cell? ⟨gb237, 13, none⟩ = some (.bool a2_13) ∧ w41.cell? ⟨gb237, 14, none⟩ = some (.slice A2_14 l2_14.length c2_14) ∧ w41.cell? ⟨gb237, 15, none⟩ = some (.string a2_15) := hS_
      refine norm_ (a' := ?_) ?_ ?_
      rotate_left
      · simp only [putAll, Act.put, s_0, s_1, s_2]
        rfl
      refine one_ (i := 25) (N := some 39) (bz 42 924424601599) rfl rfl (one_of HT_.out (by kernel_rfl)) (by decide) (fun K hK => ?_)
      have hcv42 := own_string (P := Try.prog) Try.underlying42 Try.underlying5 Try.underlying9 (Kd.own_of_R HO245.out)
      refine value_ (w1 := ?_) (v := ?_) (by rfl) rfl ?_ ?_
      rotate_left 2
      · go_simp
        constructor
        · rfl
        rfl
      clear hcv42
      refine hK.out _ _ ⟨bc BK237 0, bc BK237 1, bc BK237 2, bc BK237 3, bc BK237 4, bc BK237 5, bc BK237 6, bc BK237 7, bc BK237 8, bc BK237 9, bc BK237 10, bc BK237 11, bc BK237 12, bc BK237 13, bc BK237 14, bc BK237 15⟩ (fun hHeld => ?_)
      clear hK K
      refine norm_ (a' := ?_) ?_ ?_
      rotate_left
      · show Act.put _ (some 39) _ = _; simp only [Act.put, s_0, s_1, s_2, i64_w, i32_w]; rfl
      refine pure_ (i := 26) (N := some 40) (v := ?_) (a' := ?_) (bz 42 924491710463) rfl rfl (any_of HT_.out (by kernel_rfl)) (fun _ _ _ h => h) (Or.inl ⟨by rfl, ?_⟩) ?_ ?_
      rotate_left
      · intro w'; go_simp; (with_reducible rfl)
      rotate_left
      · simp only [Act.put, s_0, s_1, s_2, i64_w, i32_w]; rfl
      refine pure_ (i := 30) (N := some 44) (v := ?_) (a' := ?_) (bz 42 925565452287) rfl rfl (any_of HT_.out (by kernel_rfl)) (fun _ _ _ h => h) (Or.inl ⟨by rfl, ?_⟩) ?_ ?_
      rotate_left
      · intro w'; go_simp; (with_reducible rfl)
      rotate_left
      · simp only [Act.put, s_0, s_1, s_2, i64_w, i32_w]; rfl
      refine pure_ (i := 31) (N := some 45) (v := ?_) (a' := ?_) (bz 42 927712935935) rfl rfl (any_of HT_.out (by kernel_rfl)) (fun _ _ _ h => h) (Or.inl ⟨by rfl, ?_⟩) ?_ ?_
      rotate_left
      · intro w'; go_simp; (with_reducible rfl)
      rotate_left
      · simp only [Act.put, s_0, s_1, s_2, i64_w, i32_w]; rfl
      exact norm_ nm_ (hJ2_5_9_13_24_25_29_34 (v244) _ ⟨hHeld, (by (with_reducible repeat (first | apply Kd.R_alloc | apply Kd.R_drewN | apply Kd.R_drew)); exact HO245.out), (bk_ BK237), (be1_ HB GE237)⟩)
    skip
    rintro v244 w41 ⟨hS_, h0_, h1_, h2_⟩
    have n0_ : Aside0 (Kd.R (Kd.int .u8) 5 w41 w.heap.size (fun _ => True) v244 y243) := ⟨h0_⟩
    have n1_ : Aside0 (w41.heap[gb237]? = some (.cells #[.int .i64 a2_0, .int .i64 a2_1, .int .i64 a2_2, .int .i64 a2_3, .int .i64 a2_4, .int .i64 a2_5, .int .i64 a2_6, .int .i64 a2_7, .int .i64 a2_8, .int .i64 a2_9, .int .i64 a2_10, .bool a2_11, .bool a2_12, .bool a2_13, .slice A2_14 l2_14.length c2_14, .string a2_15] 28 (0, 0))) := ⟨h1_⟩
    have n2_ : Aside0 (Below w.heap.size w w41) := ⟨h2_⟩
    clear BK237; clear HB; clear h0_ h1_ h2_; have HO245 := n0_; have BK237 := n1_; have HB := n2_; clear n0_ n1_ n2_
    have hHeld : w41.cell? ⟨gb237, 0, none⟩ = some (.int .i64 a2_0) ∧ w41.cell? ⟨gb237, 1, none⟩ = some (.int .i64 a2_1) ∧ w41.cell? ⟨gb237, 2, none⟩ = some (.int .i64 a2_2) ∧ w41.cell? ⟨gb237, 3, none⟩ = some (.int .i64 a2_3) ∧ w41.cell? ⟨gb237, 4, none⟩ = some (.int .i64 a2_4) ∧ w41.cell? ⟨gb237, 5, none⟩ = some (.int .i64 a2_5) ∧ w41.cell? ⟨gb237, 6, none⟩ = some (.int .i64 a2_6) ∧ w41.cell? ⟨gb237, 7, none⟩ = some (.int .i64 a2_7) ∧ w41.cell? ⟨gb237, 8, none⟩ = some (.int .i64 a2_8) ∧ w41.cell? ⟨gb237, 9, none⟩ = some (.int .i64 a2_9) ∧ w41.cell? ⟨gb237, 10, none⟩ = some (.int .i64 a2_10) ∧ w41.cell? ⟨gb237, 11, none⟩ = some (.bool a2_11) ∧ w41.cell? ⟨gb237, 12, none⟩ = some (.bool a2_12) ∧ w41.cell? ⟨gb237, 13, none⟩ = some (.bool a2_13) ∧ w41.cell? ⟨gb237, 14, none⟩ = some (.slice A2_14 l2_14.length c2_14) ∧ w41.cell? ⟨gb237, 15, none⟩ = some (.string a2_15) := hS_
    refine norm_ (a' := ?_) ?_ ?_
    rotate_left
    · simp only [putAll, Act.put, s_0, s_1, s_2]
      rfl
    refine one_ (i := 34) (N := some 48) (bz 42 927712935935) rfl rfl (one_of HT_.out (by kernel_rfl)) (by decide) (fun K hK => ?_)
    refine goes_ Try.func45 (by kernel_rfl) rfl #[.int .i64 a2_6, .int .i64 2] (by rfl) rfl rfl ga_ ?_
    with_reducible refine (sternpostref02_Text.calls k a2_6 2 t247 _ A16.out).mono ?_
    rintro e w42 ⟨rfl, hb⟩; refine ⟨_, rfl, ?_⟩
    replace HO245 := Aside0.mk (Kd.R_below (by (with_reducible repeat (first | apply Kd.R_alloc | apply Kd.R_drewN | apply Kd.R_drew)); exact HO245.out) hb); replace BK237 := kb_ BK237 hb; replace HB := bs1_ HB GE237 hb
    (try clear hb)
    refine hK.out _ _ ⟨bc BK237 0, bc BK237 1, bc BK237 2, bc BK237 3, bc BK237 4, bc BK237 5, bc BK237 6, bc BK237 7, bc BK237 8, bc BK237 9, bc BK237 10, bc BK237 11, bc BK237 12, bc BK237 13, bc BK237 14, bc BK237 15⟩ (fun hHeld => ?_)
    clear hK K
    refine norm_ (a' := ?_) ?_ ?_
    rotate_left
    · show Act.put _ (some 48) _ = _; simp only [Act.put, s_0, s_1, s_2, i64_w, i32_w]; rfl
    exact norm_ nm_ (hJ2_5_9_13_24_25_29_34 (v244) _ ⟨hHeld, (by (with_reducible repeat (first | apply Kd.R_alloc | apply Kd.R_drewN | apply Kd.R_drew)); exact HO245.out), (bk_ BK237), (be1_ HB GE237)⟩)
  rintro v244 w42 ⟨hS_, h0_, h1_, h2_⟩
  have n0_ : Aside0 (Kd.R (Kd.int .u8) 5 w42 w.heap.size (fun _ => True) v244 y243) := ⟨h0_⟩
  have n1_ : Aside0 (w42.heap[gb237]? = some (.cells #[.int .i64 a2_0, .int .i64 a2_1, .int .i64 a2_2, .int .i64 a2_3, .int .i64 a2_4, .int .i64 a2_5, .int .i64 a2_6, .int .i64 a2_7, .int .i64 a2_8, .int .i64 a2_9, .int .i64 a2_10, .bool a2_11, .bool a2_12, .bool a2_13, .slice A2_14 l2_14.length c2_14, .string a2_15] 28 (0, 0))) := ⟨h1_⟩
  have n2_ : Aside0 (Below w.heap.size w w42) := ⟨h2_⟩
  clear BK237; clear HB; clear h0_ h1_ h2_; have HO245 := n0_; have BK237 := n1_; have HB := n2_; clear n0_ n1_ n2_
  have hHeld : w42.cell? ⟨gb237, 0, none⟩ = some (.int .i64 a2_0) ∧ w42.cell? ⟨gb237, 1, none⟩ = some (.int .i64 a2_1) ∧ w42.cell? ⟨gb237, 2, none⟩ = some (.int .i64 a2_2) ∧ w42.cell? ⟨gb237, 3, none⟩ = some (.int .i64 a2_3) ∧ w42.cell? ⟨gb237, 4, none⟩ = some (.int .i64 a2_4) ∧ w42.cell? ⟨gb237, 5, none⟩ = some (.int .i64 a2_5) ∧ w42.cell? ⟨gb237, 6, none⟩ = some (.int .i64 a2_6) ∧ w42.cell? ⟨gb237, 7, none⟩ = some (.int .i64 a2_7) ∧ w42.cell? ⟨gb237, 8, none⟩ = some (.int .i64 a2_8) ∧ w42.cell? ⟨gb237, 9, none⟩ = some (.int .i64 a2_9) ∧ w42.cell? ⟨gb237, 10, none⟩ = some (.int .i64 a2_10) ∧ w42.cell? ⟨gb237, 11, none⟩ = some (.bool a2_11) ∧ w42.cell? ⟨gb237, 12, none⟩ = some (.bool a2_12) ∧ w42.cell? ⟨gb237, 13, none⟩ = some (.bool a2_13) ∧ w42.cell? ⟨gb237, 14, none⟩ = some (.slice A2_14 l2_14.length c2_14) ∧ w42.cell? ⟨gb237, 15, none⟩ = some (.string a2_15) := hS_
  refine norm_ (a' := ?_) ?_ ?_
  rotate_left
  · simp only [putAll, Act.put, s_0, s_1, s_2]
    rfl
  refine pure_ (i := 35) (N := some 49) (v := ?_) (a' := ?_) (bz 42 962072674303) rfl rfl (any_of HT_.out (by kernel_rfl)) (fun _ _ _ h => h) (Or.inl ⟨by rfl, ?_⟩) ?_ ?_
  rotate_left
  · intro w'; go_simp; (with_reducible rfl)
  rotate_left
  · simp only [Act.put, s_0, s_1, s_2, i64_w, i32_w]; rfl
  refine pure_ (i := 37) (N := some 51) (v := ?_) (a' := ?_) (bz 42 1099511627775) rfl rfl (any_of HT_.out (by kernel_rfl)) (fun _ _ _ h => h) (Or.inl ⟨by rfl, ?_⟩) ?_ ?_
  rotate_left
  · intro w'; go_simp; (with_reducible rfl)
  rotate_left
  · simp only [Act.put, s_0, s_1, s_2, i64_w, i32_w]; rfl
  refine pure_ (i := 40) (N := some 54) (v := ?_) (a' := ?_) (bz 42 2199023255551) rfl rfl (any_of HT_.out (by kernel_rfl)) (fun _ _ _ h => h) (Or.inl ⟨by rfl, ?_⟩) ?_ ?_
  rotate_left
  · intro w'; go_simp; (with_reducible rfl)
  rotate_left
  · simp only [Act.put, s_0, s_1, s_2, i64_w, i32_w]; rfl
  refine pure_ (i := 41) (N := some 8) (v := ?_) (a' := ?_) (bz 42 4398046511103) rfl rfl (any_of HT_.out (by kernel_rfl)) (fun _ _ _ h => h) (Or.inl ⟨by rfl, ?_⟩) ?_ ?_
  rotate_left
  · intro w'; go_simp; (with_reducible rfl)
  rotate_left
  · simp only [Act.put, s_0, s_1, s_2, i64_w, i32_w]; rfl
  refine done_ (done_of HT_.out (by kernel_rfl)) ?_
  try go_wp2_with (first | ((with_reducible refine gate_callee (f := 35) rfl ?_); refine goesL_ (some 60) rfl rfl Try.func35 (by kernel_rfl) rfl #[.int .i64 a0, .int .i64 a1, .int .i64 6, .int .i64 ((((((((((t239 ++ t240) ++ t241) ++ t242) ++ (strOfNums y243)) ++ t246) ++ (⟨#[0, 0]⟩ : ByteArray)) ++ t247) ++ t238) ++ a2_15).size : Int)] rfl ga_ ?_; (with_reducible refine (sternpostref02_Pseudo.calls k a0 a1 6 ((((((((((t239 ++ t240) ++ t241) ++ t242) ++ (strOfNums y243)) ++ t246) ++ (⟨#[0, 0]⟩ : ByteArray)) ++ t247) ++ t238) ++ a2_15).size : Int) t248 t249 _ A20.out).mono ?_); rintro e w43 ⟨rfl, hb⟩; refine ⟨_, rfl, ?_⟩; replace HO245 := Aside0.mk (Kd.R_below (by (with_reducible repeat (first | apply Kd.R_alloc | apply Kd.R_drewN | apply Kd.R_drew)); exact HO245.out) hb); replace BK237 := kb_ BK237 hb; replace HB := bs1_ HB GE237 hb; (try clear hb)))
  replace HO245 := Aside0.mk (Kd.R_drew HO245.out); replace BK237 := Aside0.mk (blk_drew BK237.out); replace HB := Aside0.mk (below_drew1 HB.out)
  refine start_ (n := 12) (S := fun w' => True) (ds := []) (bz 12 0) (by kernel_rfl) rfl rfl trivial (fun hHeld => ?_); refine with_tabW sternpostref08_Bytes.tab4 sternpostref08_Bytes.bits4 (fun HT_ HW_ => ?_)
  generalize w43.drew = w44 at HO245 BK237 HB hHeld ⊢
  refine pure_ (i := 0) (N := some 63) (v := ?_) (a' := ?_) (bz 12 1) rfl rfl (any_of HT_.out (by kernel_rfl)) (fun _ _ _ h => h) (Or.inl ⟨by rfl, ?_⟩) ?_ ?_
  rotate_left
  · intro w'; go_simp; (with_reducible rfl)
  rotate_left
  · simp only [Act.put, s_0, s_1, s_2, i64_w, i32_w]; rfl
  refine pure_ (i := 1) (N := some 64) (v := ?_) (a' := ?_) (bz 12 3) rfl rfl (any_of HT_.out (by kernel_rfl)) (fun _ _ _ h => h) (Or.inl ⟨by rfl, ?_⟩) ?_ ?_
  rotate_left
  · intro w'; go_simp; (with_reducible rfl)
  rotate_left
  · simp only [Act.put, s_0, s_1, s_2, i64_w, i32_w]; rfl
  refine pure_ (i := 2) (N := some 65) (v := ?_) (a' := ?_) (bz 12 7) rfl rfl (any_of HT_.out (by kernel_rfl)) (fun _ _ _ h => h) (Or.inl ⟨by rfl, ?_⟩) ?_ ?_
  rotate_left
  · intro w'; go_simp; (with_reducible rfl)
  rotate_left
  · simp only [Act.put, s_0, s_1, s_2, i64_w, i32_w]; rfl
  refine pure_ (i := 3) (N := some 66) (v := ?_) (a' := ?_) (bz 12 15) rfl rfl (any_of HT_.out (by kernel_rfl)) (fun _ _ _ h => h) (Or.inl ⟨by rfl, ?_⟩) ?_ ?_
  rotate_left
  · intro w'; go_simp; (with_reducible rfl)
  rotate_left
  · simp only [Act.put, s_0, s_1, s_2, i64_w, i32_w]; rfl
  refine pure_ (i := 4) (N := some 67) (v := ?_) (a' := ?_) (bz 12 31) rfl rfl (any_of HT_.out (by kernel_rfl)) (fun _ _ _ h => h) (Or.inl ⟨by rfl, ?_⟩) ?_ ?_
  rotate_left
  · intro w'; go_simp; (with_reducible rfl)
  rotate_left
  · simp only [Act.put, s_0, s_1, s_2, i64_w, i32_w]; rfl
  refine pure_ (i := 8) (N := some 71) (v := ?_) (a' := ?_) (bz 12 287) rfl rfl (any_of HT_.out (by kernel_rfl)) (fun _ _ _ h => h) (Or.inl ⟨by rfl, ?_⟩) ?_ ?_
  rotate_left
  · intro w'; go_simp; (with_reducible rfl)
  rotate_left
  · simp only [Act.put, s_0, s_1, s_2, i64_w, i32_w]; rfl
  refine pure_ (i := 9) (N := some 72) (v := ?_) (a' := ?_) (bz 12 799) rfl rfl (any_of HT_.out (by kernel_rfl)) (fun _ _ _ h => h) (Or.inl ⟨by rfl, ?_⟩) ?_ ?_
  rotate_left
  · intro w'; go_simp; (with_reducible rfl)
  rotate_left
  · simp only [Act.put, s_0, s_1, s_2, i64_w, i32_w]; rfl
  refine one_ (i := 5) (N := some 68) (bz 12 831) rfl rfl (one_of HT_.out (by kernel_rfl)) (by decide) (fun K hK => ?_)
  refine goes_ Try.func46 (by kernel_rfl) rfl #[.string (t248 ++ (((((((((t239 ++ t240) ++ t241) ++ t242) ++ (strOfNums y243)) ++ t246) ++ (⟨#[0, 0]⟩ : ByteArray)) ++ t247) ++ t238) ++ a2_15))] (by rfl) rfl rfl ga_ ?_
  with_reducible refine (sternpostref02_Sum.calls k (t248 ++ (((((((((t239 ++ t240) ++ t241) ++ t242) ++ (strOfNums y243)) ++ t246) ++ (⟨#[0, 0]⟩ : ByteArray)) ++ t247) ++ t238) ++ a2_15)) t250 _ A24.out).mono ?_
  rintro e w' ⟨rfl, ⟨nd, rfl⟩⟩
  refine ⟨_, rfl, ?_⟩
  refine hK.out _ _ trivial (fun hHeld => ?_)
  clear hK K
  refine norm_ (a' := ?_) ?_ ?_
  rotate_left
  · show Act.put _ (some 68) _ = _; simp only [Act.put, s_0, s_1, s_2, i64_w, i32_w]; rfl
  refine one_ (i := 6) (N := some 69) (bz 12 895) rfl rfl (one_of HT_.out (by kernel_rfl)) (by decide) (fun K hK => ?_)
  refine goes_ Try.func45 (by kernel_rfl) rfl #[.int .i64 t250, .int .i64 2] (by rfl) rfl rfl ga_ ?_
  with_reducible refine (sternpostref02_Text.calls k t250 2 t251 _ A25.out).mono ?_
  rintro e w45 ⟨rfl, hb⟩; refine ⟨_, rfl, ?_⟩
  replace HO245 := Aside0.mk (Kd.R_below (by (with_reducible repeat (first | apply Kd.R_alloc | apply Kd.R_drewN | apply Kd.R_drew)); exact HO245.out) hb); replace BK237 := kb_ BK237 hb; replace HB := bs1_ HB GE237 hb
  (try clear hb)
  refine hK.out _ _ trivial (fun hHeld => ?_)
  clear hK K
  refine norm_ (a' := ?_) ?_ ?_
  rotate_left
  · show Act.put _ (some 69) _ = _; simp only [Act.put, s_0, s_1, s_2, i64_w, i32_w]; rfl
  refine pure_ (i := 7) (N := some 70) (v := ?_) (a' := ?_) (bz 12 1023) rfl rfl (any_of HT_.out (by kernel_rfl)) (fun _ _ _ h => h) (Or.inl ⟨by rfl, ?_⟩) ?_ ?_
  rotate_left
  · intro w'; go_simp; (with_reducible rfl)
  rotate_left
  · simp only [Act.put, s_0, s_1, s_2, i64_w, i32_w]; rfl
  refine pure_ (i := 10) (N := some 73) (v := ?_) (a' := ?_) (bz 12 2047) rfl rfl (any_of HT_.out (by kernel_rfl)) (fun _ _ _ h => h) (Or.inl ⟨by rfl, ?_⟩) ?_ ?_
  rotate_left
  · intro w'; go_simp; (with_reducible rfl)
  rotate_left
  · simp only [Act.put, s_0, s_1, s_2, i64_w, i32_w]; rfl
  refine pure_ (i := 11) (N := some 6) (v := ?_) (a' := ?_) (bz 12 4095) rfl rfl (any_of HT_.out (by kernel_rfl)) (fun _ _ _ h => h) (Or.inl ⟨by rfl, ?_⟩) ?_ ?_
  rotate_left
  · intro w'; go_simp; (with_reducible rfl)
  rotate_left
  · simp only [Act.put, s_0, s_1, s_2, i64_w, i32_w]; rfl
  refine done_ (done_of HT_.out (by kernel_rfl)) ?_
  try go_wp2
  go_ret
  exact ⟨by first | (simp only [ByteArray.size_append, show ((⟨#[0, 0]⟩ : ByteArray)).size = 2 from rfl]; rfl) | rfl | (simp [errW_none, errW_some] <;> rfl) | (simp [*, errW_none, errW_some] <;> rfl), (be1_ HB GE237)⟩

end Go.Proofs.Ytnhoadmgoaenpaa.PSegWrites
