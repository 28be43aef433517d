-- Laid by a program of this session (the print, changed: wip/pp.py). Not trusted: Lean checks it.
import Derived.Test.YtnhoadmgoaenpaaPSegWritesx0
import Derived.Test.YtnhoadmgoaenpaaPSegWritesx1
import Derived.Test.YtnhoadmgoaenpaaPSegWritesx5
import Derived.Test.YtnhoadmgoaenpaaPSegWritesx7
import Derived.Test.YtnhoadmgoaenpaaPSegWritesx12
import Derived.Test.YtnhoadmgoaenpaaPSegWritesx15
import Derived.Test.YtnhoadmgoaenpaaPSegWritesx16
namespace Go.Proofs.Ytnhoadmgoaenpaa.PSegWrites
open Go.RowKit Go.Proofs.YtnhoadmgoaenpaaW.PrintWords Go.Proofs.YtnhoadmgoaenpaaW.PrintLast Go.Proofs.YtnhoadmgoaenpaaW.PrintMore
attribute [local go_sem] max2_int min2_int max_two min_two max_three min_three max_four min_four max_five min_five max_six min_six max_seven min_seven   -- for this text's walks alone
set_option linter.unusedVariables false
set_option linter.unusedSimpArgs false
theorem ld_run {P : Program} {o : Oper} {a : Act} {ty : TypeId} {x : Operand} {g : Nat} {t : TypeId} {cs : Array Value} {d : TypeDesc} {w : World} (hg : w.heap[g]? = some (.cells cs t (0, 0))) (ho : o.op = .load ty x) (hx : a.eval x = .pointer (some ⟨g, 0, none⟩)) (hu : P.underlying ty = some d) (hd : (match d with | .struct _ | .array _ _ => true | _ => false) = true) (hi : (P.info? ty).map (·.size) = some cs.size) :
    (execOp a.eval o).run P w = .ok (.value (.agg cs)) w := by
  unfold execOp
  simp only [ho, hx, Instr.loadAt, Instr.sureAddr, Sem.run_bind, Sem.run_pure, Result.andThen_ok, run_loadVar_row w g t ty cs (0, 0) d hg hu hd hi]

/-! ### sternpostlaw08_SegWrites: function 3 -/
def sternpostlaw08_SegWrites.f (k : Nat) (a0_0 : Int) (a0_1 : Int) (a1_0 : Int) (a1_1 : Int) (a1_2 : Int) (a1_3 : Int) (a1_4 : Int) (a1_5 : Int) (a1_6 : Int) (a1_7 : Int) (a1_8 : Int) (a1_9 : Int) (a1_10 : Int) (a1_11 : Bool) (a1_12 : Bool) (a1_13 : Bool) (l1_14 : List (S68)) (a1_15 : ByteArray) (a2 : Int) : Option (Bool) := (seg_Encode.f k a0_0 a0_1 a1_0 a1_1 a1_2 a1_3 a1_4 a1_5 a1_6 a1_7 a1_8 a1_9 a1_10 a1_11 a1_12 a1_13 l1_14 a1_15).bind fun bt295 => ((sternpostref08_Encode.f k a0_0 a0_1 a1_0 a1_1 a1_2 a1_3 a1_4 a1_5 a1_6 a1_7 a1_8 a1_9 a1_10 a1_11 a1_12 a1_13 l1_14 a1_15).bind fun bt297 => (if bt295.1.toList = bt297.1.toList then (if bt295.2 = bt297.2 then ((seg_Check.f k a1_0 a1_1 a1_2 a1_3 a1_4 a1_5 a1_6 a1_7 a1_8 a1_9 a1_10 a1_11 a1_12 a1_13 l1_14 a1_15).bind fun t299 => ((sternpostref08_Check.f k a1_0 a1_1 a1_2 a1_3 a1_4 a1_5 a1_6 a1_7 a1_8 a1_9 a1_10 a1_11 a1_12 a1_13 l1_14 a1_15).bind fun t300 => (if t299 = t300 then ((seg_Length.f a1_0 a1_1 a1_2 a1_3 a1_4 a1_5 a1_6 a1_7 a1_8 a1_9 a1_10 a1_11 a1_12 a1_13 l1_14 a1_15).bind fun t301 => ((sternpostref08_Length.f a1_0 a1_1 a1_2 a1_3 a1_4 a1_5 a1_6 a1_7 a1_8 a1_9 a1_10 a1_11 a1_12 a1_13 l1_14 a1_15).bind fun t302 => (if t301 = t302 then ((seg_Has.f a1_0 a1_1 a1_2 a1_3 a1_4 a1_5 a1_6 a1_7 a1_8 a1_9 a1_10 a1_11 a1_12 a1_13 l1_14 a1_15 a2).bind fun t303 => ((sternpostref08_Has.f a1_0 a1_1 a1_2 a1_3 a1_4 a1_5 a1_6 a1_7 a1_8 a1_9 a1_10 a1_11 a1_12 a1_13 l1_14 a1_15 a2).bind fun t304 => (if (t303 == t304) = true then ((sternpostlaw08_works.f k).bind fun t305 => (some t305)) else (some false)))) else (some false)))) else (some false)))) else (some false)) else (some false)))
theorem sternpostlaw08_SegWrites.mono : ∀ a0 a1 a2 a3 a4 a5 a6 a7 a8 a9 a10 a11 a12 a13 a14 a15 a16 a17 a18 k, LeO (sternpostlaw08_SegWrites.f k a0 a1 a2 a3 a4 a5 a6 a7 a8 a9 a10 a11 a12 a13 a14 a15 a16 a17 a18) (sternpostlaw08_SegWrites.f (k + 1) a0 a1 a2 a3 a4 a5 a6 a7 a8 a9 a10 a11 a12 a13 a14 a15 a16 a17 a18) := by
 intro a0 a1 a2 a3 a4 a5 a6 a7 a8 a9 a10 a11 a12 a13 a14 a15 a16 a17 a18 k
 unfold sternpostlaw08_SegWrites.f
 repeat' first
  | (with_reducible exact seg_Check.mono _ _ _ _ _ _ _ _ _ _ _ _ _ _ _ _ _)
  | (with_reducible exact seg_Encode.mono _ _ _ _ _ _ _ _ _ _ _ _ _ _ _ _ _ _ _)
  | (with_reducible exact sternpostlaw08_works.mono _)
  | (with_reducible exact sternpostref08_Check.mono _ _ _ _ _ _ _ _ _ _ _ _ _ _ _ _ _)
  | (with_reducible exact sternpostref08_Encode.mono _ _ _ _ _ _ _ _ _ _ _ _ _ _ _ _ _ _ _)
  | (with_reducible exact LeO.refl _)
  | (with_reducible exact LeO.none _)
  | (with_reducible refine LeO.ite ?_ ?_)
  | (with_reducible refine LeO.bind ?_ (fun _ => ?_))
  | exact seg_Check.mono _ _ _ _ _ _ _ _ _ _ _ _ _ _ _ _ _
  | exact seg_Encode.mono _ _ _ _ _ _ _ _ _ _ _ _ _ _ _ _ _ _ _
  | exact sternpostlaw08_works.mono _
  | exact sternpostref08_Check.mono _ _ _ _ _ _ _ _ _ _ _ _ _ _ _ _ _
  | exact sternpostref08_Encode.mono _ _ _ _ _ _ _ _ _ _ _ _ _ _ _ _ _ _ _
  | exact LeO.none _
  | refine LeO.ite ?_ ?_
  | refine LeO.bind ?_ (fun _ => ?_)
def sternpostlaw08_SegWrites.T4 : Bool × List (List Nat × List Nat) := (true, [([], []), ([0], [0]), ([1], [1]), ([1], [1]), ([2, 3, 1], [1, 2, 3]), ([1, 4], [1, 4]), ([5, 1], [5]), ([6], [6]), ([6], [6]), ([7, 8, 6], [6, 7, 8]), ([6, 9], [6, 9]), ([10, 6], [10]), ([11], [11]), ([12, 11, 11], [11, 12]), ([11], [11]), ([14, 13, 11], [11, 14]), ([13, 15, 11], [11, 13, 15]), ([11, 16], [11, 16]), ([17, 15], [17]), ([18], [18]), ([19, 18, 18], [18, 19]), ([18], [18]), ([21, 20, 18], [18, 21]), ([20, 22, 18], [18, 20, 22]), ([18, 23], [18, 23]), ([24, 22], [24]), ([25], [25]), ([25], [25]), ([26, 27, 25, 25], [25, 26, 27]), ([25], [25]), ([25], [25]), ([29, 30, 28, 25], [25, 29, 30]), ([28, 31, 25], [25, 28, 31]), ([25, 32], [25, 32]), ([33, 31], [33]), ([34, 34], [34]), ([34, 35], [34, 35]), ([36, 35, 0, 1, 2, 3, 4, 5, 6, 7, 8, 9, 10, 11, 12, 13, 14, 15, 16, 17, 18, 19, 20, 21, 22, 23, 24, 25, 26, 27, 28, 29, 30, 31, 32, 33, 34, 35, 36], [36])])
def sternpostlaw08_SegWrites.B4 : List Nat := [0, 1, 3, 3, 15, 31, 63, 127, 127, 511, 1023, 2047, 4095, 8191, 4095, 32767, 65535, 131071, 262143, 524287, 1048575, 524287, 4194303, 8388607, 16777215, 33554431, 67108863, 67108863, 268435455, 67108863, 67108863, 2147483647, 4294967295, 8589934591, 17179869183, 34359738367, 68719476735, 137438953471]
theorem sternpostlaw08_SegWrites.tab4 : rtab .any (opsOf Try.f3 4) = sternpostlaw08_SegWrites.T4 := by kernel_rfl
theorem sternpostlaw08_SegWrites.bits4 : waitsOk sternpostlaw08_SegWrites.T4.2 sternpostlaw08_SegWrites.B4 = true := by kernel_rfl
set_option maxHeartbeats 8000000 in
set_option maxRecDepth 100000 in
theorem sternpostlaw08_SegWrites.calls (k : Nat) (a0_0 : Int) (a0_1 : Int) (a1_0 : Int) (a1_1 : Int) (a1_2 : Int) (a1_3 : Int) (a1_4 : Int) (a1_5 : Int) (a1_6 : Int) (a1_7 : Int) (a1_8 : Int) (a1_9 : Int) (a1_10 : Int) (a1_11 : Bool) (a1_12 : Bool) (a1_13 : Bool) (A1_14 : Option Addr) (c1_14 : Nat) (l1_14 : List (S68)) (a1_15 : ByteArray) (a2 : Int) (r : Bool) (w : World) (hr1_14 : Kd.C k68 w A1_14 l1_14.length l1_14) (hc1_14 : l1_14.length ≤ c1_14) (h : sternpostlaw08_SegWrites.f k a0_0 a0_1 a1_0 a1_1 a1_2 a1_3 a1_4 a1_5 a1_6 a1_7 a1_8 a1_9 a1_10 a1_11 a1_12 a1_13 l1_14 a1_15 a2 = some r) (hr_ : r = true) :
 Calls Try.prog 3 #[.agg #[.int .i64 a0_0, .int .i64 a0_1], .agg #[.int .i64 a1_0, .int .i64 a1_1, .int .i64 a1_2, .int .i64 a1_3, .int .i64 a1_4, .int .i64 a1_5, .int .i64 a1_6, .int .i64 a1_7, .int .i64 a1_8, .int .i64 a1_9, .int .i64 a1_10, .bool a1_11, .bool a1_12, .bool a1_13, .slice A1_14 l1_14.length c1_14, .string a1_15], .int .i64 a2] w fun e w' => e = .returned (.bool r) ∧ Below w.heap.size w w' := by
 replace hr_ := Aside0.mk hr_
 have hu23 := Try.underlying23
 have hu28 := Try.underlying28
 have HR1_14 := Aside0.mk hr1_14; have HC1_14 := Aside0.mk hc1_14; clear hr1_14 hc1_14
 have HB := Aside0.mk (Below.refl w.heap.size w)
 have H : ((seg_Encode.f k a0_0 a0_1 a1_0 a1_1 a1_2 a1_3 a1_4 a1_5 a1_6 a1_7 a1_8 a1_9 a1_10 a1_11 a1_12 a1_13 l1_14 a1_15).bind fun bt295 => ((sternpostref08_Encode.f k a0_0 a0_1 a1_0 a1_1 a1_2 a1_3 a1_4 a1_5 a1_6 a1_7 a1_8 a1_9 a1_10 a1_11 a1_12 a1_13 l1_14 a1_15).bind fun bt297 => (if bt295.1.toList = bt297.1.toList then (if bt295.2 = bt297.2 then ((seg_Check.f k a1_0 a1_1 a1_2 a1_3 a1_4 a1_5 a1_6 a1_7 a1_8 a1_9 a1_10 a1_11 a1_12 a1_13 l1_14 a1_15).bind fun t299 => ((sternpostref08_Check.f k a1_0 a1_1 a1_2 a1_3 a1_4 a1_5 a1_6 a1_7 a1_8 a1_9 a1_10 a1_11 a1_12 a1_13 l1_14 a1_15).bind fun t300 => (if t299 = t300 then ((seg_Length.f a1_0 a1_1 a1_2 a1_3 a1_4 a1_5 a1_6 a1_7 a1_8 a1_9 a1_10 a1_11 a1_12 a1_13 l1_14 a1_15).bind fun t301 => ((sternpostref08_Length.f a1_0 a1_1 a1_2 a1_3 a1_4 a1_5 a1_6 a1_7 a1_8 a1_9 a1_10 a1_11 a1_12 a1_13 l1_14 a1_15).bind fun t302 => (if t301 = t302 then ((seg_Has.f a1_0 a1_1 a1_2 a1_3 a1_4 a1_5 a1_6 a1_7 a1_8 a1_9 a1_10 a1_11 a1_12 a1_13 l1_14 a1_15 a2).bind fun t303 => ((sternpostref08_Has.f a1_0 a1_1 a1_2 a1_3 a1_4 a1_5 a1_6 a1_7 a1_8 a1_9 a1_10 a1_11 a1_12 a1_13 l1_14 a1_15 a2).bind fun t304 => (if (t303 == t304) = true then ((sternpostlaw08_works.f k).bind fun t305 => (some t305)) else (some false)))) else (some false)))) else (some false)))) else (some false)) else (some false)))) = some r := h
 clear h; replace H := Option.bind_eq_some_iff.mp H; obtain ⟨⟨t295, t296⟩, A40, H⟩ := H; (try dsimp only at H); have A4 := Aside0.mk A40; clear A40; replace H := Option.bind_eq_some_iff.mp H; obtain ⟨⟨t297, t298⟩, A50, H⟩ := H; (try dsimp only at H); have A5 := Aside0.mk A50; clear A50
 by_cases c6 : t295.toList = t297.toList
 rotate_left
 · rw [if_neg c6] at H
   have c6b0 : (t295.toList == t297.toList) = false := beq_eq_false_iff_ne.mpr c6
   have c6b1 : (t295.toList != t297.toList) = true := bne_iff_ne.mpr c6
   exact absurd (H.trans (congrArg some hr_.out)) (by simp)
 rw [if_pos c6] at H
 have c6b0 : (t295.toList == t297.toList) = true := beq_iff_eq.mpr c6
 have c6b1 : (t295.toList != t297.toList) = false := bne_eq_false_iff_eq.mpr c6
 clear c6
 by_cases c7 : t296 = t298
 rotate_left
 · rw [if_neg c7] at H
   have c7b0 : (t296 == t298) = false := beq_eq_false_iff_ne.mpr c7
   have c7b1 : (t296 != t298) = true := bne_iff_ne.mpr c7
   exact absurd (H.trans (congrArg some hr_.out)) (by simp)
 rw [if_pos c7] at H
 have c7b0 : (t296 == t298) = true := beq_iff_eq.mpr c7
 have c7b1 : (t296 != t298) = false := bne_eq_false_iff_eq.mpr c7
 clear c7; replace H := Option.bind_eq_some_iff.mp H; obtain ⟨t299, A80, H⟩ := H; (try dsimp only at H); have A8 := Aside0.mk A80; clear A80; replace H := Option.bind_eq_some_iff.mp H; obtain ⟨t300, A90, H⟩ := H; (try dsimp only at H); have A9 := Aside0.mk A90; clear A90
 by_cases c10 : t299 = t300
 rotate_left
 · rw [if_neg c10] at H
   have c10b0 : (t299 == t300) = false := beq_eq_false_iff_ne.mpr c10
   have c10b1 : (t299 != t300) = true := bne_iff_ne.mpr c10
   exact absurd (H.trans (congrArg some hr_.out)) (by simp)
 rw [if_pos c10] at H
 have c10b0 : (t299 == t300) = true := beq_iff_eq.mpr c10
 have c10b1 : (t299 != t300) = false := bne_eq_false_iff_eq.mpr c10
 clear c10; replace H := Option.bind_eq_some_iff.mp H; obtain ⟨t301, A110, H⟩ := H; (try dsimp only at H); have A11 := Aside0.mk A110; clear A110; replace H := Option.bind_eq_some_iff.mp H; obtain ⟨t302, A120, H⟩ := H; (try dsimp only at H); have A12 := Aside0.mk A120; clear A120
 by_cases c13 : t301 = t302
 rotate_left
 · rw [if_neg c13] at H
   have c13b0 : (t301 == t302) = false := beq_eq_false_iff_ne.mpr c13
   have c13b1 : (t301 != t302) = true := bne_iff_ne.mpr c13
   exact absurd (H.trans (congrArg some hr_.out)) (by simp)
 rw [if_pos c13] at H
 have c13b0 : (t301 == t302) = true := beq_iff_eq.mpr c13
 have c13b1 : (t301 != t302) = false := bne_eq_false_iff_eq.mpr c13
 clear c13; replace H := Option.bind_eq_some_iff.mp H; obtain ⟨t303, A140, H⟩ := H; (try dsimp only at H); have A14 := Aside0.mk A140; clear A140; replace H := Option.bind_eq_some_iff.mp H; obtain ⟨t304, A150, H⟩ := H; (try dsimp only at H); have A15 := Aside0.mk A150; clear A150
 by_cases c16 : (t303 == t304) = true
 rotate_left
 · rw [if_neg c16] at H
   have c16b0 : (t303 == t304) = false := by simpa using c16
   (try (have c16b1 : decide (t303 = t304) = false := by simpa using c16))
   (try (have c16b2 : (t303 == t304) = false := by simpa using c16))
   (try (have c16b3 : ¬ (t303 = t304) := by simpa using c16))
   clear c16
   exact absurd (H.trans (congrArg some hr_.out)) (by simp)
 rw [if_pos c16] at H
 have c16b0 : (t303 == t304) = true := c16
 (try (have c16b1 : decide (t303 = t304) = true := by simpa using c16))
 (try (have c16b2 : (t303 == t304) = true := by simpa using c16))
 clear c16; replace H := Option.bind_eq_some_iff.mp H; obtain ⟨t305, A170, H⟩ := H; (try dsimp only at H); have A17 := Aside0.mk A170; clear A170
 as_aux_lemma =>
  obtain rfl := Option.some.inj H
  go_enter Try.func3, Try.ntmps3
  try go_wp2_with (first | ((with_reducible refine gate_dst (N := 3) rfl ?_); refine box_event ?hg (N := 3) ?hd (cs := #[.int .i64 a0_0, .int .i64 a0_1]) (t := 23) ?hr ?_; (case hd => rfl); (case hg => rfl); (case hr => go_simp; first | done | (simp only [IntKind.wrap_u8]; done) | rfl); intro gb293 hg w18 hbox hb; have BK293 := Aside0.mk (hbox); have GW293 := gz_ (be0_ HB) hg; have GE293 := gz_ (be0_ HB) hg; replace HB := bs0_ HB hb; clear hb hbox hg) | ((with_reducible refine gate_dst (N := 4) rfl ?_); refine box_event ?hg (N := 4) ?hd (cs := #[.int .i64 a1_0, .int .i64 a1_1, .int .i64 a1_2, .int .i64 a1_3, .int .i64 a1_4, .int .i64 a1_5, .int .i64 a1_6, .int .i64 a1_7, .int .i64 a1_8, .int .i64 a1_9, .int .i64 a1_10, .bool a1_11, .bool a1_12, .bool a1_13, .slice A1_14 l1_14.length c1_14, .string a1_15]) (t := 28) ?hr ?_; (case hd => rfl); (case hg => rfl); (case hr => go_simp; first | done | (simp only [IntKind.wrap_u8]; done) | rfl); intro gb294 hg w19 hbox hb; have BK294 := Aside0.mk (hbox); have GW294 := gz_ (be1_ HB GE293) hg; have GE294 := gz_ (be1_ HB GE293) hg; replace HB := bs1_ HB GE293 hb; have NB293_294 := nl_ (bk_ BK293) hg; have NB294_293 := ng_ (bk_ BK293) hg; replace BK293 := kb_ BK293 hb; clear hb hbox hg; have hnb20 := NB293_294.out; have hnc20 := NB294_293.out; have hcz21 := cf2 BK293) | ((with_reducible refine gate_dst (N := 17) rfl ?_); refine wpList_load_row rfl 28 (.tmp 4) rfl gb294 rfl 28 #[.int .i64 a1_0, .int .i64 a1_1, .int .i64 a1_2, .int .i64 a1_3, .int .i64 a1_4, .int .i64 a1_5, .int .i64 a1_6, .int .i64 a1_7, .int .i64 a1_8, .int .i64 a1_9, .int .i64 a1_10, .bool a1_11, .bool a1_12, .bool a1_13, .slice A1_14 l1_14.length c1_14, .string a1_15] (0, 0) _ BK294.out Try.underlying28 rfl (by kernel_rfl) ?_) | ((with_reducible refine gate_dst (N := 26) rfl ?_); refine wpList_load_row rfl 28 (.tmp 4) rfl gb294 rfl 28 #[.int .i64 a1_0, .int .i64 a1_1, .int .i64 a1_2, .int .i64 a1_3, .int .i64 a1_4, .int .i64 a1_5, .int .i64 a1_6, .int .i64 a1_7, .int .i64 a1_8, .int .i64 a1_9, .int .i64 a1_10, .bool a1_11, .bool a1_12, .bool a1_13, .slice A1_14 l1_14.length c1_14, .string a1_15] (0, 0) _ BK294.out Try.underlying28 rfl (by kernel_rfl) ?_) | ((with_reducible refine gate_callee (f := 6) rfl ?_); refine goesL_ (some 18) rfl rfl Try.func6 (by kernel_rfl) rfl #[.int .i64 a0_0, .int .i64 a0_1, .agg #[.int .i64 a1_0, .int .i64 a1_1, .int .i64 a1_2, .int .i64 a1_3, .int .i64 a1_4, .int .i64 a1_5, .int .i64 a1_6, .int .i64 a1_7, .int .i64 a1_8, .int .i64 a1_9, .int .i64 a1_10, .bool a1_11, .bool a1_12, .bool a1_13, .slice A1_14 l1_14.length c1_14, .string a1_15]] rfl ga_ ?_; (with_reducible refine (seg_Encode.calls k a0_0 a0_1 a1_0 a1_1 a1_2 a1_3 a1_4 a1_5 a1_6 a1_7 a1_8 a1_9 a1_10 a1_11 a1_12 a1_13 _ _ l1_14 a1_15 t295 t296 _ ?side1 ?side2 A4.out).mono ?_); (case side1 => exact cb_ HR1_14 HB); (case side2 => exact HC1_14.out); rintro e w23 ⟨rfl, hb⟩; refine ⟨_, rfl, ?_⟩; replace BK293 := kb_ BK293 hb; replace BK294 := kb_ BK294 hb; replace HB := Aside0.mk (below_step (be2_ HB GE293 GE294) hb); (try clear hb); have hcz24 := cf2 BK293) | ((with_reducible refine gate_callee (f := 7) rfl ?_); refine goesL_ (some 27) rfl rfl Try.func7 (by kernel_rfl) rfl #[.int .i64 a0_0, .int .i64 a0_1, .agg #[.int .i64 a1_0, .int .i64 a1_1, .int .i64 a1_2, .int .i64 a1_3, .int .i64 a1_4, .int .i64 a1_5, .int .i64 a1_6, .int .i64 a1_7, .int .i64 a1_8, .int .i64 a1_9, .int .i64 a1_10, .bool a1_11, .bool a1_12, .bool a1_13, .slice A1_14 l1_14.length c1_14, .string a1_15]] rfl ga_ ?_; (with_reducible refine (sternpostref08_Encode.calls k a0_0 a0_1 a1_0 a1_1 a1_2 a1_3 a1_4 a1_5 a1_6 a1_7 a1_8 a1_9 a1_10 a1_11 a1_12 a1_13 _ _ l1_14 a1_15 t297 t298 _ ?side1 ?side2 A5.out).mono ?_); (case side1 => exact cb_ HR1_14 HB); (case side2 => exact HC1_14.out); rintro e w26 ⟨rfl, hb⟩; refine ⟨_, rfl, ?_⟩; replace BK293 := kb_ BK293 hb; replace BK294 := kb_ BK294 hb; replace HB := Aside0.mk (below_step (be2_ HB GE293 GE294) hb); (try clear hb)))
  replace BK293 := Aside0.mk (blk_drew BK293.out); replace BK294 := Aside0.mk (blk_drew BK294.out); replace HB := Aside0.mk (below_drew1 HB.out)
  refine start_ (n := 38) (S := fun w' => w'.heap[gb294]? = some (.cells #[.int .i64 a1_0, .int .i64 a1_1, .int .i64 a1_2, .int .i64 a1_3, .int .i64 a1_4, .int .i64 a1_5, .int .i64 a1_6, .int .i64 a1_7, .int .i64 a1_8, .int .i64 a1_9, .int .i64 a1_10, .bool a1_11, .bool a1_12, .bool a1_13, .slice A1_14 l1_14.length c1_14, .string a1_15] 28 (0, 0))) (ds := []) (bz 38 0) (by kernel_rfl) rfl rfl BK294.out (fun hHeld => ?_); refine with_tabW sternpostlaw08_SegWrites.tab4 sternpostlaw08_SegWrites.bits4 (fun HT_ HW_ => ?_)
  generalize w26.drew = w27 at BK293 BK294 HB hHeld ⊢
  refine pure_ (i := 0) (N := some 30) (v := ?_) (a' := ?_) (bz 38 1) rfl rfl (any_of HT_.out (by kernel_rfl)) (fun _ _ _ h => h) (Or.inl ⟨by rfl, ?_⟩) ?_ ?_
  rotate_left
  · intro w'; go_simp; (with_reducible rfl)
  rotate_left
  · simp only [Act.put, s_0, s_1, s_2, i64_w, i32_w]; rfl
  refine pure_ (i := 1) (N := some 31) (v := ?_) (a' := ?_) (bz 38 3) rfl rfl (any_of HT_.out (by kernel_rfl)) (fun _ _ _ h => h) (Or.inl ⟨by rfl, ?_⟩) ?_ ?_
  rotate_left
  · intro w'; go_simp; (with_reducible rfl)
  rotate_left
  · simp only [Act.put, s_0, s_1, s_2, i64_w, i32_w]; rfl
  refine pure_ (i := 2) (N := some 32) (v := ?_) (a' := ?_) (bz 38 7) rfl rfl (any_of HT_.out (by kernel_rfl)) (fun _ _ _ h => h) (Or.inl ⟨by rfl, ?_⟩) ?_ ?_
  rotate_left
  · intro w'; go_simp; (with_reducible rfl)
  rotate_left
  · simp only [Act.put, s_0, s_1, s_2, i64_w, i32_w]; rfl
  refine pure_ (i := 3) (N := some 33) (v := ?_) (a' := ?_) (bz 38 15) rfl rfl (any_of HT_.out (by kernel_rfl)) (fun _ _ _ h => h) (Or.inl ⟨by rfl, ?_⟩) ?_ ?_
  rotate_left
  · intro w'; go_simp; (with_reducible rfl)
  rotate_left
  · simp only [Act.put, s_0, s_1, s_2, i64_w, i32_w]; rfl
  refine pure_ (i := 4) (N := some 34) (v := ?_) (a' := ?_) (bz 38 31) rfl rfl (any_of HT_.out (by kernel_rfl)) (fun _ _ _ h => h) (Or.inl ⟨by rfl, ?_⟩) ?_ ?_
  rotate_left
  · intro w'; go_simp; (with_reducible rfl)
  rotate_left
  · simp only [Act.put, s_0, s_1, s_2, i64_w, i32_w]; rfl
  refine pure_ (i := 5) (N := some 35) (v := ?_) (a' := ?_) (bz 38 63) rfl rfl (any_of HT_.out (by kernel_rfl)) (fun _ _ _ h => h) (Or.inl ⟨by rfl, ?_⟩) ?_ ?_
  rotate_left
  · intro w'; go_simp; (with_reducible rfl)
  rotate_left
  · simp only [Act.put, s_0, s_1, s_2, i64_w, i32_w]; rfl
  refine pure_ (i := 6) (N := some 36) (v := ?_) (a' := ?_) (bz 38 127) rfl rfl (any_of HT_.out (by kernel_rfl)) (fun _ _ _ h => h) (Or.inl ⟨by rfl, ?_⟩) ?_ ?_
  rotate_left
  · intro w'; go_simp; (with_reducible rfl)
  rotate_left
  · simp only [Act.put, s_0, s_1, s_2, i64_w, i32_w]; rfl
  refine pure_ (i := 7) (N := some 37) (v := ?_) (a' := ?_) (bz 38 255) rfl rfl (any_of HT_.out (by kernel_rfl)) (fun _ _ _ h => h) (Or.inl ⟨by rfl, ?_⟩) ?_ ?_
  rotate_left
  · intro w'; go_simp; (with_reducible rfl)
  rotate_left
  · simp only [Act.put, s_0, s_1, s_2, i64_w, i32_w]; rfl
  refine pure_ (i := 8) (N := some 38) (v := ?_) (a' := ?_) (bz 38 511) rfl rfl (any_of HT_.out (by kernel_rfl)) (fun _ _ _ h => h) (Or.inl ⟨by rfl, ?_⟩) ?_ ?_
  rotate_left
  · intro w'; go_simp; (with_reducible rfl)
  rotate_left
  · simp only [Act.put, s_0, s_1, s_2, i64_w, i32_w]; rfl
  refine pure_ (i := 9) (N := some 39) (v := ?_) (a' := ?_) (bz 38 1023) rfl rfl (any_of HT_.out (by kernel_rfl)) (fun _ _ _ h => h) (Or.inl ⟨by rfl, ?_⟩) ?_ ?_
  rotate_left
  · intro w'; go_simp; (with_reducible rfl)
  rotate_left
  · simp only [Act.put, s_0, s_1, s_2, i64_w, i32_w]; rfl
  refine pure_ (i := 10) (N := some 40) (v := ?_) (a' := ?_) (bz 38 2047) rfl rfl (any_of HT_.out (by kernel_rfl)) (fun _ _ _ h => h) (Or.inl ⟨by rfl, ?_⟩) ?_ ?_
  rotate_left
  · intro w'; go_simp; (with_reducible rfl)
  rotate_left
  · simp only [Act.put, s_0, s_1, s_2, i64_w, i32_w]; rfl
  refine pure_ (i := 11) (N := some 41) (v := ?_) (a' := ?_) (bz 38 4095) rfl rfl (any_of HT_.out (by kernel_rfl)) (fun _ _ _ h => h) (Or.inl ⟨by rfl, ?_⟩) ?_ ?_
  rotate_left
  · intro w'; go_simp; (with_reducible rfl)
  rotate_left
  · simp only [Act.put, s_0, s_1, s_2, i64_w, i32_w]; rfl
  refine take_ (i := 12) (N := some 42) (v := ?_) (a' := ?_) (bz 38 8191) rfl rfl (take_ofW HT_.out HW_.out (by kernel_rfl)) (fun _ _ _ h => h) (Or.inl ⟨by rfl, ?_⟩) hHeld ?_ ?_
  rotate_left
  · intro w' s_; refine ld_run (x := .tmp 4) s_ ?_ ?_ Try.underlying28 rfl (by kernel_rfl) <;> rfl
  rotate_left
  · simp only [Act.put, s_0, s_1, s_2, i64_w, i32_w]; rfl
  refine take_ (i := 14) (N := some 44) (v := ?_) (a' := ?_) (bz 38 24575) rfl rfl (take_ofW HT_.out HW_.out (by kernel_rfl)) (fun _ _ _ h => h) (Or.inl ⟨by rfl, ?_⟩) hHeld ?_ ?_
  rotate_left
  · intro w' s_; refine ld_run (x := .tmp 4) s_ ?_ ?_ Try.underlying28 rfl (by kernel_rfl) <;> rfl
  rotate_left
  · simp only [Act.put, s_0, s_1, s_2, i64_w, i32_w]; rfl
  refine one_ (i := 13) (N := some 43) (bz 38 32767) rfl rfl (one_of HT_.out (by kernel_rfl)) (by decide) (fun K hK => ?_)
  refine goes_ Try.func8 (by kernel_rfl) rfl #[.agg #[.int .i64 a1_0, .int .i64 a1_1, .int .i64 a1_2, .int .i64 a1_3, .int .i64 a1_4, .int .i64 a1_5, .int .i64 a1_6, .int .i64 a1_7, .int .i64 a1_8, .int .i64 a1_9, .int .i64 a1_10, .bool a1_11, .bool a1_12, .bool a1_13, .slice A1_14 l1_14.length c1_14, .string a1_15]] (by rfl) rfl rfl ga_ ?_
  with_reducible refine (seg_Check.calls k a1_0 a1_1 a1_2 a1_3 a1_4 a1_5 a1_6 a1_7 a1_8 a1_9 a1_10 a1_11 a1_12 a1_13 _ _ l1_14 a1_15 t299 _ ?side1 ?side2 A8.out).mono ?_
  (case side1 => exact cb_ HR1_14 HB)
  (case side2 => exact HC1_14.out)
  rintro e w28 ⟨rfl, hb⟩; refine ⟨_, rfl, ?_⟩
  replace BK293 := kb_ BK293 hb; replace BK294 := kb_ BK294 hb; replace HB := Aside0.mk (below_step (be2_ HB GE293 GE294) hb)
  (try clear hb)
  refine hK.out _ _ BK294.out (fun hHeld => ?_)
  clear hK K
  refine norm_ (a' := ?_) ?_ ?_
  rotate_left
  · show Act.put _ (some 43) _ = _; simp only [Act.put, s_0, s_1, s_2, i64_w, i32_w]; rfl
  refine one_ (i := 15) (N := some 45) (bz 38 65535) rfl rfl (one_of HT_.out (by kernel_rfl)) (by decide) (fun K hK => ?_)
  refine goes_ Try.func9 (by kernel_rfl) rfl #[.agg #[.int .i64 a1_0, .int .i64 a1_1, .int .i64 a1_2, .int .i64 a1_3, .int .i64 a1_4, .int .i64 a1_5, .int .i64 a1_6, .int .i64 a1_7, .int .i64 a1_8, .int .i64 a1_9, .int .i64 a1_10, .bool a1_11, .bool a1_12, .bool a1_13, .slice A1_14 l1_14.length c1_14, .string a1_15]] (by rfl) rfl rfl ga_ ?_
  with_reducible refine (sternpostref08_Check.calls k a1_0 a1_1 a1_2 a1_3 a1_4 a1_5 a1_6 a1_7 a1_8 a1_9 a1_10 a1_11 a1_12 a1_13 _ _ l1_14 a1_15 t300 _ ?side1 ?side2 A9.out).mono ?_
  (case side1 => exact cb_ HR1_14 HB)
  (case side2 => exact HC1_14.out)
  rintro e w29 ⟨rfl, hb⟩; refine ⟨_, rfl, ?_⟩
  replace BK293 := kb_ BK293 hb; replace BK294 := kb_ BK294 hb; replace HB := Aside0.mk (below_step (be2_ HB GE293 GE294) hb)
  (try clear hb)
  refine hK.out _ _ BK294.out (fun hHeld => ?_)
  clear hK K
  refine norm_ (a' := ?_) ?_ ?_
  rotate_left
  · show Act.put _ (some 45) _ = _; simp only [Act.put, s_0, s_1, s_2, i64_w, i32_w]; rfl
  refine pure_ (i := 16) (N := some 46) (v := ?_) (a' := ?_) (bz 38 131071) rfl rfl (any_of HT_.out (by kernel_rfl)) (fun _ _ _ h => h) (Or.inl ⟨by rfl, ?_⟩) ?_ ?_
  rotate_left
  · intro w'; go_simp; (with_reducible rfl)
  rotate_left
  · simp only [Act.put, s_0, s_1, s_2, i64_w, i32_w]; rfl
  refine pure_ (i := 17) (N := some 47) (v := ?_) (a' := ?_) (bz 38 262143) rfl rfl (any_of HT_.out (by kernel_rfl)) (fun _ _ _ h => h) (Or.inl ⟨by rfl, ?_⟩) ?_ ?_
  rotate_left
  · intro w'; go_simp; (with_reducible rfl)
  rotate_left
  · simp only [Act.put, s_0, s_1, s_2, i64_w, i32_w]; rfl
  refine pure_ (i := 18) (N := some 48) (v := ?_) (a' := ?_) (bz 38 524287) rfl rfl (any_of HT_.out (by kernel_rfl)) (fun _ _ _ h => h) (Or.inl ⟨by rfl, ?_⟩) ?_ ?_
  rotate_left
  · intro w'; go_simp; (with_reducible rfl)
  rotate_left
  · simp only [Act.put, s_0, s_1, s_2, i64_w, i32_w]; rfl
  refine take_ (i := 19) (N := some 49) (v := ?_) (a' := ?_) (bz 38 1048575) rfl rfl (take_ofW HT_.out HW_.out (by kernel_rfl)) (fun _ _ _ h => h) (Or.inl ⟨by rfl, ?_⟩) hHeld ?_ ?_
  rotate_left
  · intro w' s_; refine ld_run (x := .tmp 4) s_ ?_ ?_ Try.underlying28 rfl (by kernel_rfl) <;> rfl
  rotate_left
  · simp only [Act.put, s_0, s_1, s_2, i64_w, i32_w]; rfl
  refine take_ (i := 21) (N := some 51) (v := ?_) (a' := ?_) (bz 38 3145727) rfl rfl (take_ofW HT_.out HW_.out (by kernel_rfl)) (fun _ _ _ h => h) (Or.inl ⟨by rfl, ?_⟩) hHeld ?_ ?_
  rotate_left
  · intro w' s_; refine ld_run (x := .tmp 4) s_ ?_ ?_ Try.underlying28 rfl (by kernel_rfl) <;> rfl
  rotate_left
  · simp only [Act.put, s_0, s_1, s_2, i64_w, i32_w]; rfl
  refine one_ (i := 20) (N := some 50) (bz 38 4194303) rfl rfl (one_of HT_.out (by kernel_rfl)) (by decide) (fun K hK => ?_)
  refine goes_ Try.func10 (by kernel_rfl) rfl #[.agg #[.int .i64 a1_0, .int .i64 a1_1, .int .i64 a1_2, .int .i64 a1_3, .int .i64 a1_4, .int .i64 a1_5, .int .i64 a1_6, .int .i64 a1_7, .int .i64 a1_8, .int .i64 a1_9, .int .i64 a1_10, .bool a1_11, .bool a1_12, .bool a1_13, .slice A1_14 l1_14.length c1_14, .string a1_15]] (by rfl) rfl rfl ga_ ?_
  with_reducible refine (seg_Length.calls a1_0 a1_1 a1_2 a1_3 a1_4 a1_5 a1_6 a1_7 a1_8 a1_9 a1_10 a1_11 a1_12 a1_13 _ _ l1_14 a1_15 t301 _ ?side1 ?side2 A11.out).mono ?_
  (case side1 => exact cb_ HR1_14 HB)
  (case side2 => exact HC1_14.out)
  rintro e w30 ⟨rfl, hb⟩; refine ⟨_, rfl, ?_⟩
  replace BK293 := kb_ BK293 hb; replace BK294 := kb_ BK294 hb; replace HB := Aside0.mk (below_step (be2_ HB GE293 GE294) hb)
  (try clear hb)
  refine hK.out _ _ BK294.out (fun hHeld => ?_)
  clear hK K
  refine norm_ (a' := ?_) ?_ ?_
  rotate_left
  · show Act.put _ (some 50) _ = _; simp only [Act.put, s_0, s_1, s_2, i64_w, i32_w]; rfl
  refine one_ (i := 22) (N := some 52) (bz 38 8388607) rfl rfl (one_of HT_.out (by kernel_rfl)) (by decide) (fun K hK => ?_)
  refine goes_ Try.func11 (by kernel_rfl) rfl #[.agg #[.int .i64 a1_0, .int .i64 a1_1, .int .i64 a1_2, .int .i64 a1_3, .int .i64 a1_4, .int .i64 a1_5, .int .i64 a1_6, .int .i64 a1_7, .int .i64 a1_8, .int .i64 a1_9, .int .i64 a1_10, .bool a1_11, .bool a1_12, .bool a1_13, .slice A1_14 l1_14.length c1_14, .string a1_15]] (by rfl) rfl rfl ga_ ?_
  with_reducible refine (sternpostref08_Length.calls a1_0 a1_1 a1_2 a1_3 a1_4 a1_5 a1_6 a1_7 a1_8 a1_9 a1_10 a1_11 a1_12 a1_13 _ _ l1_14 a1_15 t302 _ ?side1 ?side2 A12.out).mono ?_
  (case side1 => exact cb_ HR1_14 HB)
  (case side2 => exact HC1_14.out)
  rintro e w31 ⟨rfl, hb⟩; refine ⟨_, rfl, ?_⟩
  replace BK293 := kb_ BK293 hb; replace BK294 := kb_ BK294 hb; replace HB := Aside0.mk (below_step (be2_ HB GE293 GE294) hb)
  (try clear hb)
  refine hK.out _ _ BK294.out (fun hHeld => ?_)
  clear hK K
  refine norm_ (a' := ?_) ?_ ?_
  rotate_left
  · show Act.put _ (some 52) _ = _; simp only [Act.put, s_0, s_1, s_2, i64_w, i32_w]; rfl
  refine pure_ (i := 23) (N := some 53) (v := ?_) (a' := ?_) (bz 38 16777215) rfl rfl (any_of HT_.out (by kernel_rfl)) (fun _ _ _ h => h) (Or.inl ⟨by rfl, ?_⟩) ?_ ?_
  rotate_left
  · intro w'; go_simp; (with_reducible rfl)
  rotate_left
  · simp only [Act.put, s_0, s_1, s_2, i64_w, i32_w]; rfl
  refine pure_ (i := 24) (N := some 54) (v := ?_) (a' := ?_) (bz 38 33554431) rfl rfl (any_of HT_.out (by kernel_rfl)) (fun _ _ _ h => h) (Or.inl ⟨by rfl, ?_⟩) ?_ ?_
  rotate_left
  · intro w'; go_simp; (with_reducible rfl)
  rotate_left
  · simp only [Act.put, s_0, s_1, s_2, i64_w, i32_w]; rfl
  refine pure_ (i := 25) (N := some 55) (v := ?_) (a' := ?_) (bz 38 67108863) rfl rfl (any_of HT_.out (by kernel_rfl)) (fun _ _ _ h => h) (Or.inl ⟨by rfl, ?_⟩) ?_ ?_
  rotate_left
  · intro w'; go_simp; (with_reducible rfl)
  rotate_left
  · simp only [Act.put, s_0, s_1, s_2, i64_w, i32_w]; rfl
  refine pure_ (i := 27) (N := some 57) (v := ?_) (a' := ?_) (bz 38 201326591) rfl rfl (any_of HT_.out (by kernel_rfl)) (fun _ _ _ h => h) (Or.inl ⟨by rfl, ?_⟩) ?_ ?_
  rotate_left
  · intro w'; go_simp; (with_reducible rfl)
  rotate_left
  · simp only [Act.put, s_0, s_1, s_2, i64_w, i32_w]; rfl
  refine pure_ (i := 30) (N := some 60) (v := ?_) (a' := ?_) (bz 38 1275068415) rfl rfl (any_of HT_.out (by kernel_rfl)) (fun _ _ _ h => h) (Or.inl ⟨by rfl, ?_⟩) ?_ ?_
  rotate_left
  · intro w'; go_simp; (with_reducible rfl)
  rotate_left
  · simp only [Act.put, s_0, s_1, s_2, i64_w, i32_w]; rfl
  refine take_ (i := 26) (N := some 56) (v := ?_) (a' := ?_) (bz 38 1342177279) rfl rfl (take_ofW HT_.out HW_.out (by kernel_rfl)) (fun _ _ _ h => h) (Or.inl ⟨by rfl, ?_⟩) hHeld ?_ ?_
  rotate_left
  · intro w' s_; refine ld_run (x := .tmp 4) s_ ?_ ?_ Try.underlying28 rfl (by kernel_rfl) <;> rfl
  rotate_left
  · simp only [Act.put, s_0, s_1, s_2, i64_w, i32_w]; rfl
  refine take_ (i := 29) (N := some 59) (v := ?_) (a' := ?_) (bz 38 1879048191) rfl rfl (take_ofW HT_.out HW_.out (by kernel_rfl)) (fun _ _ _ h => h) (Or.inl ⟨by rfl, ?_⟩) hHeld ?_ ?_
  rotate_left
  · intro w' s_; refine ld_run (x := .tmp 4) s_ ?_ ?_ Try.underlying28 rfl (by kernel_rfl) <;> rfl
  rotate_left
  · simp only [Act.put, s_0, s_1, s_2, i64_w, i32_w]; rfl
  refine one_ (i := 28) (N := some 58) (bz 38 2147483647) rfl rfl (one_of HT_.out (by kernel_rfl)) (by decide) (fun K hK => ?_)
  refine goes_ Try.func12 (by kernel_rfl) rfl #[.agg #[.int .i64 a1_0, .int .i64 a1_1, .int .i64 a1_2, .int .i64 a1_3, .int .i64 a1_4, .int .i64 a1_5, .int .i64 a1_6, .int .i64 a1_7, .int .i64 a1_8, .int .i64 a1_9, .int .i64 a1_10, .bool a1_11, .bool a1_12, .bool a1_13, .slice A1_14 l1_14.length c1_14, .string a1_15], .int .i64 a2] (by rfl) rfl rfl ga_ ?_
  with_reducible refine (seg_Has.calls a1_0 a1_1 a1_2 a1_3 a1_4 a1_5 a1_6 a1_7 a1_8 a1_9 a1_10 a1_11 a1_12 a1_13 _ _ l1_14 a1_15 a2 t303 _ ?side1 ?side2 A14.out).mono ?_
  (case side1 => exact cb_ HR1_14 HB)
  (case side2 => exact HC1_14.out)
  rintro e w32 ⟨rfl, hb⟩; refine ⟨_, rfl, ?_⟩
  replace BK293 := kb_ BK293 hb; replace BK294 := kb_ BK294 hb; replace HB := Aside0.mk (below_step (be2_ HB GE293 GE294) hb)
  (try clear hb)
  refine hK.out _ _ BK294.out (fun hHeld => ?_)
  clear hK K
  refine norm_ (a' := ?_) ?_ ?_
  rotate_left
  · show Act.put _ (some 58) _ = _; simp only [Act.put, s_0, s_1, s_2, i64_w, i32_w]; rfl
  refine one_ (i := 31) (N := some 61) (bz 38 4294967295) rfl rfl (one_of HT_.out (by kernel_rfl)) (by decide) (fun K hK => ?_)
  refine goes_ Try.func13 (by kernel_rfl) rfl #[.agg #[.int .i64 a1_0, .int .i64 a1_1, .int .i64 a1_2, .int .i64 a1_3, .int .i64 a1_4, .int .i64 a1_5, .int .i64 a1_6, .int .i64 a1_7, .int .i64 a1_8, .int .i64 a1_9, .int .i64 a1_10, .bool a1_11, .bool a1_12, .bool a1_13, .slice A1_14 l1_14.length c1_14, .string a1_15], .int .i64 a2] (by rfl) rfl rfl ga_ ?_
  with_reducible refine (sternpostref08_Has.calls a1_0 a1_1 a1_2 a1_3 a1_4 a1_5 a1_6 a1_7 a1_8 a1_9 a1_10 a1_11 a1_12 a1_13 _ _ l1_14 a1_15 a2 t304 _ ?side1 ?side2 A15.out).mono ?_
  (case side1 => exact cb_ HR1_14 HB)
  (case side2 => exact HC1_14.out)
  rintro e w33 ⟨rfl, hb⟩; refine ⟨_, rfl, ?_⟩
  replace BK293 := kb_ BK293 hb; replace BK294 := kb_ BK294 hb; replace HB := Aside0.mk (below_step (be2_ HB GE293 GE294) hb)
  (try clear hb)
  refine hK.out _ _ BK294.out (fun hHeld => ?_)
  clear hK K
  refine norm_ (a' := ?_) ?_ ?_
  rotate_left
  · show Act.put _ (some 61) _ = _; simp only [Act.put, s_0, s_1, s_2, i64_w, i32_w]; rfl
  refine pure_ (i := 32) (N := some 62) (v := ?_) (a' := ?_) (bz 38 8589934591) rfl rfl (any_of HT_.out (by kernel_rfl)) (fun _ _ _ h => h) (Or.inl ⟨by rfl, ?_⟩) ?_ ?_
  rotate_left
  · intro w'; go_simp; (with_reducible rfl)
  rotate_left
  · simp only [Act.put, s_0, s_1, s_2, i64_w, i32_w]; rfl
  refine pure_ (i := 33) (N := some 63) (v := ?_) (a' := ?_) (bz 38 17179869183) rfl rfl (any_of HT_.out (by kernel_rfl)) (fun _ _ _ h => h) (Or.inl ⟨by rfl, ?_⟩) ?_ ?_
  rotate_left
  · intro w'; go_simp; (with_reducible rfl)
  rotate_left
  · simp only [Act.put, s_0, s_1, s_2, i64_w, i32_w]; rfl
  refine pure_ (i := 34) (N := some 64) (v := ?_) (a' := ?_) (bz 38 34359738367) rfl rfl (any_of HT_.out (by kernel_rfl)) (fun _ _ _ h => h) (Or.inl ⟨by rfl, ?_⟩) ?_ ?_
  rotate_left
  · intro w'; go_simp; (with_reducible rfl)
  rotate_left
  · simp only [Act.put, s_0, s_1, s_2, i64_w, i32_w]; rfl
  refine one_ (i := 35) (N := some 65) (bz 38 68719476735) rfl rfl (one_of HT_.out (by kernel_rfl)) (by decide) (fun K hK => ?_)
  refine goes_ Try.func14 (by kernel_rfl) rfl #[] (by rfl) rfl rfl ga_ ?_
  with_reducible refine (sternpostlaw08_works.calls k  t305 _ A17.out).mono ?_
  rintro e w34 ⟨rfl, hb⟩; refine ⟨_, rfl, ?_⟩
  replace BK293 := kb_ BK293 hb; replace BK294 := kb_ BK294 hb; replace HB := Aside0.mk (below_step (be2_ HB GE293 GE294) hb)
  (try clear hb)
  refine hK.out _ _ BK294.out (fun hHeld => ?_)
  clear hK K
  refine norm_ (a' := ?_) ?_ ?_
  rotate_left
  · show Act.put _ (some 65) _ = _; simp only [Act.put, s_0, s_1, s_2, i64_w, i32_w]; rfl
  refine pure_ (i := 36) (N := some 66) (v := ?_) (a' := ?_) (bz 38 137438953471) rfl rfl (any_of HT_.out (by kernel_rfl)) (fun _ _ _ h => h) (Or.inl ⟨by rfl, ?_⟩) ?_ ?_
  rotate_left
  · intro w'; go_simp; (with_reducible rfl)
  rotate_left
  · simp only [Act.put, s_0, s_1, s_2, i64_w, i32_w]; rfl
  refine pure_ (i := 37) (N := some 6) (v := ?_) (a' := ?_) (bz 38 274877906943) rfl rfl (any_of HT_.out (by kernel_rfl)) (fun _ _ _ h => h) (Or.inl ⟨by rfl, ?_⟩) ?_ ?_
  rotate_left
  · intro w'; go_simp; (with_reducible rfl)
  rotate_left
  · simp only [Act.put, s_0, s_1, s_2, i64_w, i32_w]; rfl
  refine done_ (done_of HT_.out (by kernel_rfl)) ?_
  try go_wp2
  go_ret
  exact ⟨ra_, (be2_ HB GE293 GE294)⟩

end Go.Proofs.Ytnhoadmgoaenpaa.PSegWrites
