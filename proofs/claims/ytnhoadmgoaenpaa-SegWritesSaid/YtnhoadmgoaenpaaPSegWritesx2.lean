-- Laid by a program of this session (the print, changed: wip/pp.py). Not trusted: Lean checks it.
import Derived.Test.YtnhoadmgoaenpaaPSegWritesx0
import Derived.Test.YtnhoadmgoaenpaaPSegWritesx1
namespace Go.Proofs.Ytnhoadmgoaenpaa.PSegWrites
open Go.RowKit Go.Proofs.YtnhoadmgoaenpaaW.PrintWords Go.Proofs.YtnhoadmgoaenpaaW.PrintLast Go.Proofs.YtnhoadmgoaenpaaW.PrintMore
attribute [local go_sem] max2_int min2_int max_two min_two max_three min_three max_four min_four max_five min_five max_six min_six max_seven min_seven   -- for this text's walks alone
set_option linter.unusedVariables false
set_option linter.unusedSimpArgs false

/-! ### opts_text: function 41 -/
mutual
def opts_text.j0 : Nat → ByteArray → Int → Int → Int → Int → Bool → Bool → Bool → List (S68) → Option (ByteArray)
 | 0, _, _, _, _, _, _, _, _, _ => none
 | k + 1, x3, x112000, x112001, x112002, x112003, x112004, x112005, x112006, x112007 => if x112004 = true then ((opts_num.f k x112001 1).bind fun t114 => ((opts_option.f 3 t114).bind fun t115 => (if x3.size + t115.size ≤ 9223372036854775807 then (opts_text.j1 k (x3 ++ t115) x112000 x112001 x112002 x112003 x112004 x112005 x112006 x112007) else (none)))) else (opts_text.j1 k x3 x112000 x112001 x112002 x112003 x112004 x112005 x112006 x112007)
def opts_text.j1 : Nat → ByteArray → Int → Int → Int → Int → Bool → Bool → Bool → List (S68) → Option (ByteArray)
 | 0, _, _, _, _, _, _, _, _, _ => none
 | k + 1, x3, x112000, x112001, x112002, x112003, x112004, x112005, x112006, x112007 => if x112005 = true then ((opts_option.f 4 (⟨#[]⟩ : ByteArray)).bind fun t116 => (if x3.size + t116.size ≤ 9223372036854775807 then (opts_text.j2 k (x3 ++ t116) x112000 x112001 x112002 x112003 x112004 x112005 x112006 x112007) else (none))) else (opts_text.j2 k x3 x112000 x112001 x112002 x112003 x112004 x112005 x112006 x112007)
def opts_text.j2 : Nat → ByteArray → Int → Int → Int → Int → Bool → Bool → Bool → List (S68) → Option (ByteArray)
 | 0, _, _, _, _, _, _, _, _, _ => none
 | k + 1, x3, x112000, x112001, x112002, x112003, x112004, x112005, x112006, x112007 => if x112006 = true then ((opts_num.f k x112002 4).bind fun t117 => ((opts_num.f k x112003 4).bind fun t118 => (if t117.size + t118.size ≤ 9223372036854775807 then ((opts_option.f 8 (t117 ++ t118)).bind fun t119 => (if x3.size + t119.size ≤ 9223372036854775807 then (opts_text.j3 k (x3 ++ t119) x112000 x112001 x112002 x112003 x112004 x112005 x112006 x112007) else (none))) else (none)))) else (opts_text.j3 k x3 x112000 x112001 x112002 x112003 x112004 x112005 x112006 x112007)
def opts_text.j3 : Nat → ByteArray → Int → Int → Int → Int → Bool → Bool → Bool → List (S68) → Option (ByteArray)
 | 0, _, _, _, _, _, _, _, _, _ => none
 | k + 1, x3, x112000, x112001, x112002, x112003, x112004, x112005, x112006, x112007 => if (x112007.length : Int) > 0 then (opts_text.l0 k x3 (⟨#[]⟩ : ByteArray) x112007 (x112007.length : Int) 0) else ((strings_Repeat.f (⟨#[0]⟩ : ByteArray) (Go.bits .and .i64 (wrap64 (-(x3.size : Int))) 3)).bind fun t126 => (if x3.size + t126.size ≤ 9223372036854775807 then (some (x3 ++ t126)) else (none)))
def opts_text.l0 : Nat → ByteArray → ByteArray → List (S68) → Int → Int → Option (ByteArray)
 | 0, _, _, _, _, _ => none
 | k + 1, x3, x4, x46, x47, x48 => if x48 < x47 then (if 0 ≤ x48 then (if x48 < (x46.length : Int) then ((opts_num.f k ((rd_T68 x46 x48).f0) 4).bind fun t122 => ((opts_num.f k ((rd_T68 x46 x48).f1) 4).bind fun t123 => (if t122.size + t123.size ≤ 9223372036854775807 then (if x4.size + (t122 ++ t123).size ≤ 9223372036854775807 then (opts_text.l0 k x3 (x4 ++ (t122 ++ t123)) x46 x47 (wrap64 (x48 + 1))) else (none)) else (none)))) else (none)) else (none)) else ((opts_option.f 5 x4).bind fun t124 => (if x3.size + t124.size ≤ 9223372036854775807 then ((strings_Repeat.f (⟨#[0]⟩ : ByteArray) (Go.bits .and .i64 (wrap64 (-((x3 ++ t124).size : Int))) 3)).bind fun t125 => (if (x3 ++ t124).size + t125.size ≤ 9223372036854775807 then (some ((x3 ++ t124) ++ t125)) else (none))) else (none)))
end
def opts_text.f (k : Nat) (a0_0 : Int) (a0_1 : Int) (a0_2 : Int) (a0_3 : Int) (a0_4 : Bool) (a0_5 : Bool) (a0_6 : Bool) (l0_7 : List (S68)) : Option (ByteArray) := if a0_0 > 0 then ((opts_num.f k a0_0 2).bind fun t112 => ((opts_option.f 2 t112).bind fun t113 => (if 0 + t113.size ≤ 9223372036854775807 then (opts_text.j0 k ((⟨#[]⟩ : ByteArray) ++ t113) a0_0 a0_1 a0_2 a0_3 a0_4 a0_5 a0_6 l0_7) else (none)))) else (opts_text.j0 k (⟨#[]⟩ : ByteArray) a0_0 a0_1 a0_2 a0_3 a0_4 a0_5 a0_6 l0_7)
theorem opts_text.mono_l : ∀ k, (∀ y0 y1 y2 y3 y4 y5 y6 y7 y8, LeO (opts_text.j0 k y0 y1 y2 y3 y4 y5 y6 y7 y8) (opts_text.j0 (k + 1) y0 y1 y2 y3 y4 y5 y6 y7 y8)) ∧ (∀ y0 y1 y2 y3 y4 y5 y6 y7 y8, LeO (opts_text.j1 k y0 y1 y2 y3 y4 y5 y6 y7 y8) (opts_text.j1 (k + 1) y0 y1 y2 y3 y4 y5 y6 y7 y8)) ∧ (∀ y0 y1 y2 y3 y4 y5 y6 y7 y8, LeO (opts_text.j2 k y0 y1 y2 y3 y4 y5 y6 y7 y8) (opts_text.j2 (k + 1) y0 y1 y2 y3 y4 y5 y6 y7 y8)) ∧ (∀ y0 y1 y2 y3 y4 y5 y6 y7 y8, LeO (opts_text.j3 k y0 y1 y2 y3 y4 y5 y6 y7 y8) (opts_text.j3 (k + 1) y0 y1 y2 y3 y4 y5 y6 y7 y8)) ∧ (∀ y0 y1 y2 y3 y4, LeO (opts_text.l0 k y0 y1 y2 y3 y4) (opts_text.l0 (k + 1) y0 y1 y2 y3 y4))
 | 0 => ⟨fun _ _ _ _ _ _ _ _ _ r h => by simp [opts_text.j0] at h, fun _ _ _ _ _ _ _ _ _ r h => by simp [opts_text.j1] at h, fun _ _ _ _ _ _ _ _ _ r h => by simp [opts_text.j2] at h, fun _ _ _ _ _ _ _ _ _ r h => by simp [opts_text.j3] at h, fun _ _ _ _ _ r h => by simp [opts_text.l0] at h⟩
 | k + 1 => by
  obtain ⟨ih0, ih1, ih2, ih3, ih4⟩ := opts_text.mono_l k
  refine ⟨?_, ?_, ?_, ?_, ?_⟩
  ·
   intro y0 y1 y2 y3 y4 y5 y6 y7 y8
   unfold opts_text.j0
   repeat' first
   | (with_reducible exact ih0 _ _ _ _ _ _ _ _ _)
   | (with_reducible exact ih1 _ _ _ _ _ _ _ _ _)
   | (with_reducible exact ih2 _ _ _ _ _ _ _ _ _)
   | (with_reducible exact ih3 _ _ _ _ _ _ _ _ _)
   | (with_reducible exact ih4 _ _ _ _ _)
   | (with_reducible exact opts_num.mono _ _ _)
   | (with_reducible exact LeO.refl _)
   | (with_reducible exact LeO.none _)
   | (with_reducible refine LeO.ite ?_ ?_)
   | (with_reducible refine LeO.bind ?_ (fun _ => ?_))
   | exact ih0 _ _ _ _ _ _ _ _ _
   | exact ih1 _ _ _ _ _ _ _ _ _
   | exact ih2 _ _ _ _ _ _ _ _ _
   | exact ih3 _ _ _ _ _ _ _ _ _
   | exact ih4 _ _ _ _ _
   | exact opts_num.mono _ _ _
   | exact LeO.none _
   | refine LeO.ite ?_ ?_
   | refine LeO.bind ?_ (fun _ => ?_)
  ·
   intro y0 y1 y2 y3 y4 y5 y6 y7 y8
   unfold opts_text.j1
   repeat' first
   | (with_reducible exact ih0 _ _ _ _ _ _ _ _ _)
   | (with_reducible exact ih1 _ _ _ _ _ _ _ _ _)
   | (with_reducible exact ih2 _ _ _ _ _ _ _ _ _)
   | (with_reducible exact ih3 _ _ _ _ _ _ _ _ _)
   | (with_reducible exact ih4 _ _ _ _ _)
   | (with_reducible exact opts_num.mono _ _ _)
   | (with_reducible exact LeO.refl _)
   | (with_reducible exact LeO.none _)
   | (with_reducible refine LeO.ite ?_ ?_)
   | (with_reducible refine LeO.bind ?_ (fun _ => ?_))
   | exact ih0 _ _ _ _ _ _ _ _ _
   | exact ih1 _ _ _ _ _ _ _ _ _
   | exact ih2 _ _ _ _ _ _ _ _ _
   | exact ih3 _ _ _ _ _ _ _ _ _
   | exact ih4 _ _ _ _ _
   | exact opts_num.mono _ _ _
   | exact LeO.none _
   | refine LeO.ite ?_ ?_
   | refine LeO.bind ?_ (fun _ => ?_)
  ·
   intro y0 y1 y2 y3 y4 y5 y6 y7 y8
   unfold opts_text.j2
   repeat' first
   | (with_reducible exact ih0 _ _ _ _ _ _ _ _ _)
   | (with_reducible exact ih1 _ _ _ _ _ _ _ _ _)
   | (with_reducible exact ih2 _ _ _ _ _ _ _ _ _)
   | (with_reducible exact ih3 _ _ _ _ _ _ _ _ _)
   | (with_reducible exact ih4 _ _ _ _ _)
   | (with_reducible exact opts_num.mono _ _ _)
   | (with_reducible exact LeO.refl _)
   | (with_reducible exact LeO.none _)
   | (with_reducible refine LeO.ite ?_ ?_)
   | (with_reducible refine LeO.bind ?_ (fun _ => ?_))
   | exact ih0 _ _ _ _ _ _ _ _ _
   | exact ih1 _ _ _ _ _ _ _ _ _
   | exact ih2 _ _ _ _ _ _ _ _ _
   | exact ih3 _ _ _ _ _ _ _ _ _
   | exact ih4 _ _ _ _ _
   | exact opts_num.mono _ _ _
   | exact LeO.none _
   | refine LeO.ite ?_ ?_
   | refine LeO.bind ?_ (fun _ => ?_)
  ·
   intro y0 y1 y2 y3 y4 y5 y6 y7 y8
   unfold opts_text.j3
   repeat' first
   | (with_reducible exact ih0 _ _ _ _ _ _ _ _ _)
   | (with_reducible exact ih1 _ _ _ _ _ _ _ _ _)
   | (with_reducible exact ih2 _ _ _ _ _ _ _ _ _)
   | (with_reducible exact ih3 _ _ _ _ _ _ _ _ _)
   | (with_reducible exact ih4 _ _ _ _ _)
   | (with_reducible exact opts_num.mono _ _ _)
   | (with_reducible exact LeO.refl _)
   | (with_reducible exact LeO.none _)
   | (with_reducible refine LeO.ite ?_ ?_)
   | (with_reducible refine LeO.bind ?_ (fun _ => ?_))
   | exact ih0 _ _ _ _ _ _ _ _ _
   | exact ih1 _ _ _ _ _ _ _ _ _
   | exact ih2 _ _ _ _ _ _ _ _ _
   | exact ih3 _ _ _ _ _ _ _ _ _
   | exact ih4 _ _ _ _ _
   | exact opts_num.mono _ _ _
   | exact LeO.none _
   | refine LeO.ite ?_ ?_
   | refine LeO.bind ?_ (fun _ => ?_)
  ·
   intro y0 y1 y2 y3 y4
   unfold opts_text.l0
   repeat' first
   | (with_reducible exact ih0 _ _ _ _ _ _ _ _ _)
   | (with_reducible exact ih1 _ _ _ _ _ _ _ _ _)
   | (with_reducible exact ih2 _ _ _ _ _ _ _ _ _)
   | (with_reducible exact ih3 _ _ _ _ _ _ _ _ _)
   | (with_reducible exact ih4 _ _ _ _ _)
   | (with_reducible exact opts_num.mono _ _ _)
   | (with_reducible exact LeO.refl _)
   | (with_reducible exact LeO.none _)
   | (with_reducible refine LeO.ite ?_ ?_)
   | (with_reducible refine LeO.bind ?_ (fun _ => ?_))
   | exact ih0 _ _ _ _ _ _ _ _ _
   | exact ih1 _ _ _ _ _ _ _ _ _
   | exact ih2 _ _ _ _ _ _ _ _ _
   | exact ih3 _ _ _ _ _ _ _ _ _
   | exact ih4 _ _ _ _ _
   | exact opts_num.mono _ _ _
   | exact LeO.none _
   | refine LeO.ite ?_ ?_
   | refine LeO.bind ?_ (fun _ => ?_)
theorem opts_text.mono : ∀ a0 a1 a2 a3 a4 a5 a6 a7 k, LeO (opts_text.f k a0 a1 a2 a3 a4 a5 a6 a7) (opts_text.f (k + 1) a0 a1 a2 a3 a4 a5 a6 a7) := by
 intro a0 a1 a2 a3 a4 a5 a6 a7 k
 obtain ⟨ih0, ih1, ih2, ih3, ih4⟩ := opts_text.mono_l k
 unfold opts_text.f
 repeat' first
  | (with_reducible exact ih0 _ _ _ _ _ _ _ _ _)
  | (with_reducible exact ih1 _ _ _ _ _ _ _ _ _)
  | (with_reducible exact ih2 _ _ _ _ _ _ _ _ _)
  | (with_reducible exact ih3 _ _ _ _ _ _ _ _ _)
  | (with_reducible exact ih4 _ _ _ _ _)
  | (with_reducible exact opts_num.mono _ _ _)
  | (with_reducible exact LeO.refl _)
  | (with_reducible exact LeO.none _)
  | (with_reducible refine LeO.ite ?_ ?_)
  | (with_reducible refine LeO.bind ?_ (fun _ => ?_))
  | exact ih0 _ _ _ _ _ _ _ _ _
  | exact ih1 _ _ _ _ _ _ _ _ _
  | exact ih2 _ _ _ _ _ _ _ _ _
  | exact ih3 _ _ _ _ _ _ _ _ _
  | exact ih4 _ _ _ _ _
  | exact opts_num.mono _ _ _
  | exact LeO.none _
  | refine LeO.ite ?_ ?_
  | refine LeO.bind ?_ (fun _ => ?_)
def opts_text.T9 : Bool × List (List Nat × List Nat) := (true, [([], []), ([], []), ([1], [1]), ([2], [2]), ([], []), ([4], [4]), ([5, 3], [5]), ([3, 6], [3, 6]), ([7, 6], [7]), ([0, 8], [0, 8]), ([9, 8, 0, 1, 2, 3, 4, 5, 6, 7, 8, 9], [0, 9])])
def opts_text.B9 : List Nat := [0, 0, 2, 6, 0, 16, 62, 126, 254, 511, 1023]
theorem opts_text.tab9 : rtab .any (opsOf Try.f41 9) = opts_text.T9 := by kernel_rfl
theorem opts_text.bits9 : waitsOk opts_text.T9.2 opts_text.B9 = true := by kernel_rfl
def opts_text.T15 : Bool × List (List Nat × List Nat) := (true, [([], []), ([], []), ([1], [1]), ([2], [2]), ([], []), ([4], [4]), ([5, 3], [5]), ([3, 6], [3, 6]), ([0, 7], [0, 7]), ([8, 6, 0, 1, 2, 3, 4, 5, 6, 7, 8], [0, 8])])
def opts_text.B15 : List Nat := [0, 0, 2, 6, 0, 16, 62, 126, 255, 511]
theorem opts_text.tab15 : rtab .any (opsOf Try.f41 15) = opts_text.T15 := by kernel_rfl
theorem opts_text.bits15 : waitsOk opts_text.T15.2 opts_text.B15 = true := by kernel_rfl
set_option maxHeartbeats 8000000 in
set_option maxRecDepth 100000 in
theorem opts_text.calls (k : Nat) (a0_0 : Int) (a0_1 : Int) (a0_2 : Int) (a0_3 : Int) (a0_4 : Bool) (a0_5 : Bool) (a0_6 : Bool) (A0_7 : Option Addr) (c0_7 : Nat) (l0_7 : List (S68)) (r : ByteArray) (w : World) (hr0_7 : Kd.C k68 w A0_7 l0_7.length l0_7) (hc0_7 : l0_7.length ≤ c0_7) (h : opts_text.f k a0_0 a0_1 a0_2 a0_3 a0_4 a0_5 a0_6 l0_7 = some r) :
 Calls Try.prog 41 #[.agg #[.int .i64 a0_0, .int .i64 a0_1, .int .i64 a0_2, .int .i64 a0_3, .bool a0_4, .bool a0_5, .bool a0_6, .slice A0_7 l0_7.length c0_7]] w fun e w' => e = .returned (.string r) ∧ Below w.heap.size w w' := by
 have hu26 := Try.underlying26
 have hu68 := Try.underlying68
 have HR0_7 := Aside0.mk hr0_7; have HC0_7 := Aside0.mk hc0_7; clear hr0_7 hc0_7
 have HB := Aside0.mk (Below.refl w.heap.size w)
 have H : (if a0_0 > 0 then ((opts_num.f k a0_0 2).bind fun t112 => ((opts_option.f 2 t112).bind fun t113 => (if 0 + t113.size ≤ 9223372036854775807 then (opts_text.j0 k ((⟨#[]⟩ : ByteArray) ++ t113) a0_0 a0_1 a0_2 a0_3 a0_4 a0_5 a0_6 l0_7) else (none)))) else (opts_text.j0 k (⟨#[]⟩ : ByteArray) a0_0 a0_1 a0_2 a0_3 a0_4 a0_5 a0_6 l0_7)) = some r := h
 clear h; have HC2 := Aside0.mk H; clear H
 go_enter Try.func41, Try.ntmps41
 go_upto_if 9 with (first | ((with_reducible refine gate_dst (N := 1) rfl ?_); refine box_event ?hg (N := 1) ?hd (cs := #[.int .i64 a0_0, .int .i64 a0_1, .int .i64 a0_2, .int .i64 a0_3, .bool a0_4, .bool a0_5, .bool a0_6, .slice A0_7 l0_7.length c0_7]) (t := 26) ?hr ?_; (case hd => rfl); (case hg => rfl); (case hr => go_simp; first | done | (simp only [IntKind.wrap_u8]; done) | rfl); intro gb111 hg w3 hbox hb; have BK111 := Aside0.mk (hbox); have GW111 := gz_ (be0_ HB) hg; have GE111 := gz_ (be0_ HB) hg; replace HB := bs0_ HB hb; clear hb hbox hg; have hcz4 := cf8 BK111))
 (try simp only [Act.put, s_0, s_1, s_2])
 go_cut [3] (fun v3 wc => ∃ (kq : Nat) (x3_1 : ByteArray), v3 = .string x3_1 ∧ Aside0 (opts_text.j0 kq x3_1 a0_0 a0_1 a0_2 a0_3 a0_4 a0_5 a0_6 l0_7 = some r) ∧ Aside0 (kq ≤ k) ∧ Aside0 (wc.heap[gb111]? = some (.cells #[.int .i64 a0_0, .int .i64 a0_1, .int .i64 a0_2, .int .i64 a0_3, .bool a0_4, .bool a0_5, .bool a0_6, (.slice A0_7 l0_7.length c0_7)] 26 (0, 0))) ∧ Aside0 (Below w.heap.size w wc))
 case first =>
  have H := HC2.out
  clear HC2
  by_cases c5 : a0_0 > 0
  rotate_left
  · rw [if_neg c5] at H
    have c5b0 : decide (0 < a0_0) = false := decide_eq_false c5
    clear c5
    (first | rw [c5b0] | rw [c5b1] | (simp only [i64_w, i32_w]; rw [c5b0]) | skip)
    as_aux_lemma =>
     have H' := Aside0.mk H; clear H
     go_wp2
     go_meet
     case rel => exact ⟨_, ((⟨#[]⟩ : ByteArray)), (by first | rfl | (simp; done) | (simp [*]; done)), H', ⟨by first | omega | exact Nat.le_refl _⟩, ⟨by (with_reducible repeat (first | refine blk_drewN ?_ _ | refine blk_drew ?_ | refine blk_alloc ?_ _)); exact BK111.out⟩, ⟨by repeat (first | (with_reducible first | exact HB.out | apply below_alloc | apply pw_below_drewN | apply below_drew1 | refine below_set ?_ GE111.out) | exact HB.out)⟩⟩
  rw [if_pos c5] at H
  have c5b0 : decide (0 < a0_0) = true := decide_eq_true c5
  clear c5
  (first | rw [c5b0] | rw [c5b1] | (simp only [i64_w, i32_w]; rw [c5b0]) | skip)
  replace H := Option.bind_eq_some_iff.mp H; obtain ⟨t112, A60, H⟩ := H; (try dsimp only at H); have A6 := Aside0.mk A60; clear A60; replace H := Option.bind_eq_some_iff.mp H; obtain ⟨t113, A70, H⟩ := H; (try dsimp only at H); have A7 := Aside0.mk A70; clear A70
  by_cases c8 : 0 + t113.size ≤ 9223372036854775807
  rotate_left
  · rw [if_neg c8] at H
    exact absurd H (by simp)
  rw [if_pos c8] at H; have c8b0 := eq_true c8
  have c8b1 : decide (0 + t113.size ≤ 9223372036854775807) = true := decide_eq_true c8
  try have c8b2 : (9223372036854775807 < 0 + t113.size) = False := eq_false (Nat.not_lt.2 c8)
  as_aux_lemma =>
   have H' := Aside0.mk H; clear H; have hcz9 := cf8 BK111
   go_wp2_with (first | ((with_reducible refine gate_callee (f := 55) rfl ?_); refine goesL_ (some 13) rfl rfl Try.func55 (by kernel_rfl) rfl #[.int .i64 a0_0, .int .i64 2] rfl ga_ ?_; (with_reducible refine (opts_num.calls k a0_0 2 t112 _ A6.out).mono ?_); rintro e w10 ⟨rfl, hb⟩; refine ⟨_, rfl, ?_⟩; replace BK111 := kb_ BK111 hb; replace HB := bs1_ HB GE111 hb; (try clear hb)) | ((with_reducible refine gate_callee (f := 54) rfl ?_); refine goesL_ (some 14) rfl rfl Try.func54 (by kernel_rfl) rfl #[.int .i64 2, .string t112] rfl ga_ ?_; (with_reducible refine (opts_option.calls 2 t112 t113 _ A7.out).mono ?_); rintro e w11 ⟨rfl, hb⟩; refine ⟨_, rfl, ?_⟩; replace BK111 := kb_ BK111 hb; replace HB := bs1_ HB GE111 hb; (try clear hb)))
   go_meet
   case rel => exact ⟨_, ((⟨#[]⟩ : ByteArray) ++ t113), (by first | rfl | (simp; done) | (simp [*]; done)), H', ⟨by first | omega | exact Nat.le_refl _⟩, ⟨by (with_reducible repeat (first | refine blk_drewN ?_ _ | refine blk_drew ?_ | refine blk_alloc ?_ _)); exact BK111.out⟩, ⟨by repeat (first | (with_reducible first | exact HB.out | apply below_alloc | apply pw_below_drewN | apply below_drew1 | refine below_set ?_ GE111.out) | exact HB.out)⟩⟩
 case rest =>
  clear HC2; (try clear p2); (try clear c4); (try clear c5); (try clear c5b0); (try clear c5b1); (try clear p6); (try clear c8); (try clear c8b0); (try clear c8b1); (try clear c8b2); (try clear hcz4_0); (try clear hcz4_1); (try clear hcz4_2); (try clear hcz4_3); (try clear hcz4_4); (try clear hcz4_5); (try clear hcz4_6); (try clear hcz4_7); (try clear hcz9_0); (try clear hcz9_1); (try clear hcz9_2); (try clear hcz9_3); (try clear hcz9_4); (try clear hcz9_5); (try clear hcz9_6); (try clear hcz9_7); (try clear hfz4_0); (try clear hfz4_1); (try clear hfz4_2); (try clear hfz4_3); (try clear hfz4_4); (try clear hfz4_5)
  (try clear hfz4_6); (try clear hfz4_7); (try clear hfz9_0); (try clear hfz9_1); (try clear hfz9_2); (try clear hfz9_3); (try clear hfz9_4); (try clear hfz9_5); (try clear hfz9_6); (try clear hfz9_7)
  obtain ⟨kq, x3_1, rfl, HA, HJ1, BK111, HB⟩ := hcut
  cases kq with
  | zero => exact absurd HA.out (by simp [opts_text.j0])
  | succ kj1 =>
   have H := HA.out
   clear HA
   simp only [opts_text.j0] at H
   have HC12 := Aside0.mk H; clear H; have hcz13 := cf8 BK111
   go_upto_if 17 with (fail)
   go_cut [3] (fun v3 wc => ∃ (kq : Nat) (x3_11 : ByteArray), v3 = .string x3_11 ∧ Aside0 (opts_text.j1 kq x3_11 a0_0 a0_1 a0_2 a0_3 a0_4 a0_5 a0_6 l0_7 = some r) ∧ Aside0 (kq ≤ kj1) ∧ Aside0 (wc.heap[gb111]? = some (.cells #[.int .i64 a0_0, .int .i64 a0_1, .int .i64 a0_2, .int .i64 a0_3, .bool a0_4, .bool a0_5, .bool a0_6, (.slice A0_7 l0_7.length c0_7)] 26 (0, 0))) ∧ Aside0 (Below w.heap.size w wc))
   case first =>
    have H := HC12.out
    clear HC12
    by_cases c14 : a0_4 = true
    rotate_left
    · replace c14 := Bool.eq_false_iff.mpr c14; subst c14
      have H1 : (opts_text.j1 kj1 x3_1 a0_0 a0_1 a0_2 a0_3 false a0_5 a0_6 l0_7) = some r := by rw [if_neg (show ¬ (false = true) by decide)] at H; exact H
      clear H; have H := H1; clear H1
      as_aux_lemma =>
       have H' := Aside0.mk H; clear H
       go_wp2
       go_meet
       case rel => exact ⟨_, (x3_1), (by first | rfl | (simp; done) | (simp [*]; done)), H', ⟨by have := HJ1.out; first | omega | exact Nat.le_refl _⟩, ⟨by (with_reducible repeat (first | refine blk_drewN ?_ _ | refine blk_drew ?_ | refine blk_alloc ?_ _)); exact BK111.out⟩, ⟨by repeat (first | (with_reducible first | exact HB.out | apply below_alloc | apply pw_below_drewN | apply below_drew1 | refine below_set ?_ GE111.out) | exact HB.out)⟩⟩
    subst c14
    have H1 : ((opts_num.f kj1 a0_1 1).bind fun t114 => ((opts_option.f 3 t114).bind fun t115 => (if x3_1.size + t115.size ≤ 9223372036854775807 then (opts_text.j1 kj1 (x3_1 ++ t115) a0_0 a0_1 a0_2 a0_3 true a0_5 a0_6 l0_7) else (none)))) = some r := by rw [if_pos rfl] at H; exact H
    clear H; have H := H1; clear H1; replace H := Option.bind_eq_some_iff.mp H; obtain ⟨t114, A150, H⟩ := H; (try dsimp only at H); have A15 := Aside0.mk A150; clear A150; replace H := Option.bind_eq_some_iff.mp H; obtain ⟨t115, A160, H⟩ := H; (try dsimp only at H); have A16 := Aside0.mk A160; clear A160
    by_cases c17 : x3_1.size + t115.size ≤ 9223372036854775807
    rotate_left
    · rw [if_neg c17] at H
      exact absurd H (by simp)
    rw [if_pos c17] at H; have c17b0 := eq_true c17
    have c17b1 : decide (x3_1.size + t115.size ≤ 9223372036854775807) = true := decide_eq_true c17
    try have c17b2 : (9223372036854775807 < x3_1.size + t115.size) = False := eq_false (Nat.not_lt.2 c17)
    as_aux_lemma =>
     have H' := Aside0.mk H; clear H; have hcz18 := cf8 BK111
     go_wp2_with (first | ((with_reducible refine gate_callee (f := 55) rfl ?_); refine goesL_ (some 21) rfl rfl Try.func55 (by kernel_rfl) rfl #[.int .i64 a0_1, .int .i64 1] rfl ga_ ?_; (with_reducible refine (opts_num.calls kj1 a0_1 1 t114 _ A15.out).mono ?_); rintro e w19 ⟨rfl, hb⟩; refine ⟨_, rfl, ?_⟩; replace BK111 := kb_ BK111 hb; replace HB := bs1_ HB GE111 hb; (try clear hb)) | ((with_reducible refine gate_callee (f := 54) rfl ?_); refine goesL_ (some 22) rfl rfl Try.func54 (by kernel_rfl) rfl #[.int .i64 3, .string t114] rfl ga_ ?_; (with_reducible refine (opts_option.calls 3 t114 t115 _ A16.out).mono ?_); rintro e w20 ⟨rfl, hb⟩; refine ⟨_, rfl, ?_⟩; replace BK111 := kb_ BK111 hb; replace HB := bs1_ HB GE111 hb; (try clear hb)))
     go_meet
     case rel => exact ⟨_, (x3_1 ++ t115), (by first | rfl | (simp; done) | (simp [*]; done)), H', ⟨by have := HJ1.out; first | omega | exact Nat.le_refl _⟩, ⟨by (with_reducible repeat (first | refine blk_drewN ?_ _ | refine blk_drew ?_ | refine blk_alloc ?_ _)); exact BK111.out⟩, ⟨by repeat (first | (with_reducible first | exact HB.out | apply below_alloc | apply pw_below_drewN | apply below_drew1 | refine below_set ?_ GE111.out) | exact HB.out)⟩⟩
   case rest =>
    clear HC12; (try clear c1); (try clear p2); (try clear c4); (try clear c5); (try clear c5b0); (try clear c5b1); (try clear p6); (try clear c8); (try clear c8b0); (try clear c8b1); (try clear c8b2); (try clear c14); (try clear c17); (try clear c17b0); (try clear c17b1); (try clear c17b2); (try clear hcz13_0); (try clear hcz13_1); (try clear hcz13_2); (try clear hcz13_3); (try clear hcz13_4); (try clear hcz13_5); (try clear hcz13_6); (try clear hcz13_7); (try clear hcz18_0); (try clear hcz18_1); (try clear hcz18_2); (try clear hcz18_3); (try clear hcz18_4); (try clear hcz18_5); (try clear hcz18_6)
    (try clear hcz18_7); (try clear hcz4_0); (try clear hcz4_1); (try clear hcz4_2); (try clear hcz4_3); (try clear hcz4_4); (try clear hcz4_5); (try clear hcz4_6); (try clear hcz4_7); (try clear hcz9_0); (try clear hcz9_1); (try clear hcz9_2); (try clear hcz9_3); (try clear hcz9_4); (try clear hcz9_5); (try clear hcz9_6); (try clear hcz9_7); (try clear hfz13_0); (try clear hfz13_1); (try clear hfz13_2); (try clear hfz13_3); (try clear hfz13_4); (try clear hfz13_5); (try clear hfz13_6); (try clear hfz13_7); (try clear hfz18_0); (try clear hfz18_1); (try clear hfz18_2); (try clear hfz18_3); (try clear hfz18_4)
    (try clear hfz18_5); (try clear hfz18_6); (try clear hfz18_7); (try clear hfz4_0); (try clear hfz4_1); (try clear hfz4_2); (try clear hfz4_3); (try clear hfz4_4); (try clear hfz4_5); (try clear hfz4_6); (try clear hfz4_7); (try clear hfz9_0); (try clear hfz9_1); (try clear hfz9_2); (try clear hfz9_3); (try clear hfz9_4); (try clear hfz9_5); (try clear hfz9_6); (try clear hfz9_7); (try clear p2); (try clear p6)
    obtain ⟨kq, x3_11, rfl, HA, HJ11, BK111, HB⟩ := hcut
    cases kq with
    | zero => exact absurd HA.out (by simp [opts_text.j1])
    | succ kj11 =>
     have H := HA.out
     clear HA
     simp only [opts_text.j1] at H
     have HC21 := Aside0.mk H; clear H; have hcz22 := cf8 BK111
     go_upto_if 25 with (fail)
     go_cut [3] (fun v3 wc => ∃ (kq : Nat) (x3_20 : ByteArray), v3 = .string x3_20 ∧ Aside0 (opts_text.j2 kq x3_20 a0_0 a0_1 a0_2 a0_3 a0_4 a0_5 a0_6 l0_7 = some r) ∧ Aside0 (kq ≤ kj11) ∧ Aside0 (wc.heap[gb111]? = some (.cells #[.int .i64 a0_0, .int .i64 a0_1, .int .i64 a0_2, .int .i64 a0_3, .bool a0_4, .bool a0_5, .bool a0_6, (.slice A0_7 l0_7.length c0_7)] 26 (0, 0))) ∧ Aside0 (Below w.heap.size w wc))
     case first =>
      have H := HC21.out
      clear HC21
      by_cases c23 : a0_5 = true
      rotate_left
      · replace c23 := Bool.eq_false_iff.mpr c23; subst c23
        have H1 : (opts_text.j2 kj11 x3_11 a0_0 a0_1 a0_2 a0_3 a0_4 false a0_6 l0_7) = some r := by rw [if_neg (show ¬ (false = true) by decide)] at H; exact H
        clear H; have H := H1; clear H1
        as_aux_lemma =>
         have H' := Aside0.mk H; clear H
         go_wp2
         go_meet
         case rel => exact ⟨_, (x3_11), (by first | rfl | (simp; done) | (simp [*]; done)), H', ⟨by have := HJ1.out; have := HJ11.out; first | omega | exact Nat.le_refl _⟩, ⟨by (with_reducible repeat (first | refine blk_drewN ?_ _ | refine blk_drew ?_ | refine blk_alloc ?_ _)); exact BK111.out⟩, ⟨by repeat (first | (with_reducible first | exact HB.out | apply below_alloc | apply pw_below_drewN | apply below_drew1 | refine below_set ?_ GE111.out) | exact HB.out)⟩⟩
      subst c23
      have H1 : ((opts_option.f 4 (⟨#[]⟩ : ByteArray)).bind fun t116 => (if x3_11.size + t116.size ≤ 9223372036854775807 then (opts_text.j2 kj11 (x3_11 ++ t116) a0_0 a0_1 a0_2 a0_3 a0_4 true a0_6 l0_7) else (none))) = some r := by rw [if_pos rfl] at H; exact H
      clear H; have H := H1; clear H1; replace H := Option.bind_eq_some_iff.mp H; obtain ⟨t116, A240, H⟩ := H; (try dsimp only at H); have A24 := Aside0.mk A240; clear A240
      by_cases c25 : x3_11.size + t116.size ≤ 9223372036854775807
      rotate_left
      · rw [if_neg c25] at H
        exact absurd H (by simp)
      rw [if_pos c25] at H; have c25b0 := eq_true c25
      have c25b1 : decide (x3_11.size + t116.size ≤ 9223372036854775807) = true := decide_eq_true c25
      try have c25b2 : (9223372036854775807 < x3_11.size + t116.size) = False := eq_false (Nat.not_lt.2 c25)
      as_aux_lemma =>
       have H' := Aside0.mk H; clear H
       go_wp2_with (first | ((with_reducible refine gate_callee (f := 54) rfl ?_); refine goesL_ (some 27) rfl rfl Try.func54 (by kernel_rfl) rfl #[.int .i64 4, .string (⟨#[]⟩ : ByteArray)] rfl ga_ ?_; (with_reducible refine (opts_option.calls 4 (⟨#[]⟩ : ByteArray) t116 _ A24.out).mono ?_); rintro e w26 ⟨rfl, hb⟩; refine ⟨_, rfl, ?_⟩; replace BK111 := kb_ BK111 hb; replace HB := bs1_ HB GE111 hb; (try clear hb)))
       go_meet
       case rel => exact ⟨_, (x3_11 ++ t116), (by first | rfl | (simp; done) | (simp [*]; done)), H', ⟨by have := HJ1.out; have := HJ11.out; first | omega | exact Nat.le_refl _⟩, ⟨by (with_reducible repeat (first | refine blk_drewN ?_ _ | refine blk_drew ?_ | refine blk_alloc ?_ _)); exact BK111.out⟩, ⟨by repeat (first | (with_reducible first | exact HB.out | apply below_alloc | apply pw_below_drewN | apply below_drew1 | refine below_set ?_ GE111.out) | exact HB.out)⟩⟩
     case rest =>
      clear HC21; (try clear c1); (try clear c2); (try clear p2); (try clear c4); (try clear c5); (try clear c5b0); (try clear c5b1); (try clear p6); (try clear c8); (try clear c8b0); (try clear c8b1); (try clear c8b2); (try clear c14); (try clear c17); (try clear c17b0); (try clear c17b1); (try clear c17b2); (try clear c23); (try clear c25); (try clear c25b0); (try clear c25b1); (try clear c25b2); (try clear hcz13_0); (try clear hcz13_1); (try clear hcz13_2); (try clear hcz13_3); (try clear hcz13_4); (try clear hcz13_5); (try clear hcz13_6); (try clear hcz13_7); (try clear hcz18_0); (try clear hcz18_1)
      (try clear hcz18_2); (try clear hcz18_3); (try clear hcz18_4); (try clear hcz18_5); (try clear hcz18_6); (try clear hcz18_7); (try clear hcz22_0); (try clear hcz22_1); (try clear hcz22_2); (try clear hcz22_3); (try clear hcz22_4); (try clear hcz22_5); (try clear hcz22_6); (try clear hcz22_7); (try clear hcz4_0); (try clear hcz4_1); (try clear hcz4_2); (try clear hcz4_3); (try clear hcz4_4); (try clear hcz4_5); (try clear hcz4_6); (try clear hcz4_7); (try clear hcz9_0); (try clear hcz9_1); (try clear hcz9_2); (try clear hcz9_3); (try clear hcz9_4); (try clear hcz9_5); (try clear hcz9_6); (try clear hcz9_7)
      (try clear hfz13_0); (try clear hfz13_1); (try clear hfz13_2); (try clear hfz13_3); (try clear hfz13_4); (try clear hfz13_5); (try clear hfz13_6); (try clear hfz13_7); (try clear hfz18_0); (try clear hfz18_1); (try clear hfz18_2); (try clear hfz18_3); (try clear hfz18_4); (try clear hfz18_5); (try clear hfz18_6); (try clear hfz18_7); (try clear hfz22_0); (try clear hfz22_1); (try clear hfz22_2); (try clear hfz22_3); (try clear hfz22_4); (try clear hfz22_5); (try clear hfz22_6); (try clear hfz22_7); (try clear hfz4_0); (try clear hfz4_1); (try clear hfz4_2); (try clear hfz4_3); (try clear hfz4_4)
      (try clear hfz4_5); (try clear hfz4_6); (try clear hfz4_7); (try clear hfz9_0); (try clear hfz9_1); (try clear hfz9_2); (try clear hfz9_3); (try clear hfz9_4); (try clear hfz9_5); (try clear hfz9_6); (try clear hfz9_7); (try clear p2); (try clear p6)
      obtain ⟨kq, x3_20, rfl, HA, HJ20, BK111, HB⟩ := hcut
      cases kq with
      | zero => exact absurd HA.out (by simp [opts_text.j2])
      | succ kj20 =>
       have H := HA.out
       clear HA
       simp only [opts_text.j2] at H
       have HC27 := Aside0.mk H; clear H; have hcz28 := cf8 BK111
       go_upto_if 30 with (fail)
       go_cut [3] (fun v3 wc => ∃ (kq : Nat) (x3_26 : ByteArray), v3 = .string x3_26 ∧ Aside0 (opts_text.j3 kq x3_26 a0_0 a0_1 a0_2 a0_3 a0_4 a0_5 a0_6 l0_7 = some r) ∧ Aside0 (kq ≤ kj20) ∧ Aside0 (wc.heap[gb111]? = some (.cells #[.int .i64 a0_0, .int .i64 a0_1, .int .i64 a0_2, .int .i64 a0_3, .bool a0_4, .bool a0_5, .bool a0_6, (.slice A0_7 l0_7.length c0_7)] 26 (0, 0))) ∧ Aside0 (Below w.heap.size w wc))
       case first =>
        have H := HC27.out
        clear HC27
        by_cases c29 : a0_6 = true
        rotate_left
        · replace c29 := Bool.eq_false_iff.mpr c29; subst c29
          have H1 : (opts_text.j3 kj20 x3_20 a0_0 a0_1 a0_2 a0_3 a0_4 a0_5 false l0_7) = some r := by rw [if_neg (show ¬ (false = true) by decide)] at H; exact H
          clear H; have H := H1; clear H1
          as_aux_lemma =>
           have H' := Aside0.mk H; clear H
           go_wp2
           go_meet
           case rel => exact ⟨_, (x3_20), (by first | rfl | (simp; done) | (simp [*]; done)), H', ⟨by have := HJ1.out; have := HJ11.out; have := HJ20.out; first | omega | exact Nat.le_refl _⟩, ⟨by (with_reducible repeat (first | refine blk_drewN ?_ _ | refine blk_drew ?_ | refine blk_alloc ?_ _)); exact BK111.out⟩, ⟨by repeat (first | (with_reducible first | exact HB.out | apply below_alloc | apply pw_below_drewN | apply below_drew1 | refine below_set ?_ GE111.out) | exact HB.out)⟩⟩
        subst c29
        have H1 : ((opts_num.f kj20 a0_2 4).bind fun t117 => ((opts_num.f kj20 a0_3 4).bind fun t118 => (if t117.size + t118.size ≤ 9223372036854775807 then ((opts_option.f 8 (t117 ++ t118)).bind fun t119 => (if x3_20.size + t119.size ≤ 9223372036854775807 then (opts_text.j3 kj20 (x3_20 ++ t119) a0_0 a0_1 a0_2 a0_3 a0_4 a0_5 true l0_7) else (none))) else (none)))) = some r := by rw [if_pos rfl] at H; exact H
        clear H; have H := H1; clear H1; replace H := Option.bind_eq_some_iff.mp H; obtain ⟨t117, A300, H⟩ := H; (try dsimp only at H); have A30 := Aside0.mk A300; clear A300; replace H := Option.bind_eq_some_iff.mp H; obtain ⟨t118, A310, H⟩ := H; (try dsimp only at H); have A31 := Aside0.mk A310; clear A310
        by_cases c32 : t117.size + t118.size ≤ 9223372036854775807
        rotate_left
        · rw [if_neg c32] at H
          exact absurd H (by simp)
        rw [if_pos c32] at H; have c32b0 := eq_true c32
        have c32b1 : decide (t117.size + t118.size ≤ 9223372036854775807) = true := decide_eq_true c32
        try have c32b2 : (9223372036854775807 < t117.size + t118.size) = False := eq_false (Nat.not_lt.2 c32)
        replace H := Option.bind_eq_some_iff.mp H; obtain ⟨t119, A330, H⟩ := H; (try dsimp only at H); have A33 := Aside0.mk A330; clear A330
        by_cases c34 : x3_20.size + t119.size ≤ 9223372036854775807
        rotate_left
        · rw [if_neg c34] at H
          exact absurd H (by simp)
        rw [if_pos c34] at H; have c34b0 := eq_true c34
        have c34b1 : decide (x3_20.size + t119.size ≤ 9223372036854775807) = true := decide_eq_true c34
        try have c34b2 : (9223372036854775807 < x3_20.size + t119.size) = False := eq_false (Nat.not_lt.2 c34)
        as_aux_lemma =>
         have H' := Aside0.mk H; clear H
         try go_wp2
         replace BK111 := Aside0.mk (blk_drew BK111.out); replace HB := Aside0.mk (below_drew1 HB.out)
         refine start_ (n := 11) (S := fun w' => w'.cell? ⟨gb111, 0, none⟩ = some (.int .i64 a0_0) ∧ w'.cell? ⟨gb111, 1, none⟩ = some (.int .i64 a0_1) ∧ w'.cell? ⟨gb111, 2, none⟩ = some (.int .i64 a0_2) ∧ w'.cell? ⟨gb111, 3, none⟩ = some (.int .i64 a0_3) ∧ w'.cell? ⟨gb111, 4, none⟩ = some (.bool a0_4) ∧ w'.cell? ⟨gb111, 5, none⟩ = some (.bool a0_5) ∧ w'.cell? ⟨gb111, 6, none⟩ = some (.bool true) ∧ w'.cell? ⟨gb111, 7, none⟩ = some (.slice A0_7 l0_7.length c0_7)) (ds := []) (bz 11 0) (by kernel_rfl) rfl rfl ⟨bc BK111 0, bc BK111 1, bc BK111 2, bc BK111 3, bc BK111 4, bc BK111 5, bc BK111 6, bc BK111 7⟩ (fun hHeld => ?_); refine with_tabW opts_text.tab9 opts_text.bits9 (fun HT_ HW_ => ?_)
         generalize wc.drew = w35 at BK111 HB hHeld ⊢
         refine pure_ (i := 0) (N := some 31) (v := ?_) (a' := ?_) (bz 11 1) rfl rfl (any_of HT_.out (by kernel_rfl)) (fun _ _ _ h => h) (Or.inl ⟨by rfl, ?_⟩) ?_ ?_
         rotate_left
         · intro w'; go_simp; (with_reducible rfl)
         rotate_left
         · simp only [Act.put, s_0, s_1, s_2, i64_w, i32_w]; rfl
         refine pure_ (i := 1) (N := some 32) (v := ?_) (a' := ?_) (bz 11 3) rfl rfl (any_of HT_.out (by kernel_rfl)) (fun _ _ _ h => h) (Or.inl ⟨by rfl, ?_⟩) ?_ ?_
         rotate_left
         · intro w'; go_simp; (with_reducible rfl)
         rotate_left
         · simp only [Act.put, s_0, s_1, s_2, i64_w, i32_w]; rfl
         refine pure_ (i := 4) (N := some 35) (v := ?_) (a' := ?_) (bz 11 19) rfl rfl (any_of HT_.out (by kernel_rfl)) (fun _ _ _ h => h) (Or.inl ⟨by rfl, ?_⟩) ?_ ?_
         rotate_left
         · intro w'; go_simp; (with_reducible rfl)
         rotate_left
         · simp only [Act.put, s_0, s_1, s_2, i64_w, i32_w]; rfl
         refine take_ (i := 2) (N := some 33) (v := ?_) (a' := ?_) (bz 11 23) rfl rfl (take_ofW HT_.out HW_.out (by kernel_rfl)) (fun _ _ _ h => h) (Or.inl ⟨by rfl, ?_⟩) hHeld ?_ ?_
         rotate_left
         · rintro w' ⟨s0, s1, s2, s3, s4, s5, s6, s7⟩
           go_simp; (with_reducible rfl)
         rotate_left
         · simp only [Act.put, s_0, s_1, s_2, i64_w, i32_w]; rfl
         refine take_ (i := 5) (N := some 36) (v := ?_) (a' := ?_) (bz 11 55) rfl rfl (take_ofW HT_.out HW_.out (by kernel_rfl)) (fun _ _ _ h => h) (Or.inl ⟨by rfl, ?_⟩) hHeld ?_ ?_
         rotate_left
         · rintro w' ⟨s0, s1, s2, s3, s4, s5, s6, s7⟩
           go_simp; (with_reducible rfl)
         rotate_left
         · simp only [Act.put, s_0, s_1, s_2, i64_w, i32_w]; rfl
         refine one_ (i := 3) (N := some 34) (bz 11 63) rfl rfl (one_of HT_.out (by kernel_rfl)) (by decide) (fun K hK => ?_)
         refine goes_ Try.func55 (by kernel_rfl) rfl #[.int .i64 a0_2, .int .i64 4] (by rfl) rfl rfl ga_ ?_
         with_reducible refine (opts_num.calls kj20 a0_2 4 t117 _ A30.out).mono ?_
         rintro e w36 ⟨rfl, hb⟩; refine ⟨_, rfl, ?_⟩; replace BK111 := kb_ BK111 hb; replace HB := bs1_ HB GE111 hb; (try clear hb)
         refine hK.out _ _ ⟨bc BK111 0, bc BK111 1, bc BK111 2, bc BK111 3, bc BK111 4, bc BK111 5, bc BK111 6, bc BK111 7⟩ (fun hHeld => ?_)
         clear hK K
         refine norm_ (a' := ?_) ?_ ?_
         rotate_left
         · show Act.put _ (some 34) _ = _; simp only [Act.put, s_0, s_1, s_2, i64_w, i32_w]; rfl
         refine one_ (i := 6) (N := some 37) (bz 11 127) rfl rfl (one_of HT_.out (by kernel_rfl)) (by decide) (fun K hK => ?_)
         refine goes_ Try.func55 (by kernel_rfl) rfl #[.int .i64 a0_3, .int .i64 4] (by rfl) rfl rfl ga_ ?_
         with_reducible refine (opts_num.calls kj20 a0_3 4 t118 _ A31.out).mono ?_
         rintro e w37 ⟨rfl, hb⟩; refine ⟨_, rfl, ?_⟩; replace BK111 := kb_ BK111 hb; replace HB := bs1_ HB GE111 hb; (try clear hb)
         refine hK.out _ _ ⟨bc BK111 0, bc BK111 1, bc BK111 2, bc BK111 3, bc BK111 4, bc BK111 5, bc BK111 6, bc BK111 7⟩ (fun hHeld => ?_)
         clear hK K
         refine norm_ (a' := ?_) ?_ ?_
         rotate_left
         · show Act.put _ (some 37) _ = _; simp only [Act.put, s_0, s_1, s_2, i64_w, i32_w]; rfl
         refine pure_ (i := 7) (N := some 38) (v := ?_) (a' := ?_) (bz 11 255) rfl rfl (any_of HT_.out (by kernel_rfl)) (fun _ _ _ h => h) (Or.inl ⟨by rfl, ?_⟩) ?_ ?_
         rotate_left
         · intro w'; go_simp; (with_reducible rfl)
         rotate_left
         · simp only [Act.put, s_0, s_1, s_2, i64_w, i32_w]; rfl
         refine one_ (i := 8) (N := some 39) (bz 11 511) rfl rfl (one_of HT_.out (by kernel_rfl)) (by decide) (fun K hK => ?_)
         refine goes_ Try.func54 (by kernel_rfl) rfl #[.int .i64 8, .string (t117 ++ t118)] (by rfl) rfl rfl ga_ ?_
         with_reducible refine (opts_option.calls 8 (t117 ++ t118) t119 _ A33.out).mono ?_
         rintro e w38 ⟨rfl, hb⟩; refine ⟨_, rfl, ?_⟩; replace BK111 := kb_ BK111 hb; replace HB := bs1_ HB GE111 hb; (try clear hb)
         refine hK.out _ _ ⟨bc BK111 0, bc BK111 1, bc BK111 2, bc BK111 3, bc BK111 4, bc BK111 5, bc BK111 6, bc BK111 7⟩ (fun hHeld => ?_)
         clear hK K
         refine norm_ (a' := ?_) ?_ ?_
         rotate_left
         · show Act.put _ (some 39) _ = _; simp only [Act.put, s_0, s_1, s_2, i64_w, i32_w]; rfl
         refine pure_ (i := 9) (N := some 40) (v := ?_) (a' := ?_) (bz 11 1023) rfl rfl (any_of HT_.out (by kernel_rfl)) (fun _ _ _ h => h) (Or.inl ⟨by rfl, ?_⟩) ?_ ?_
         rotate_left
         · intro w'; go_simp; (with_reducible rfl)
         rotate_left
         · simp only [Act.put, s_0, s_1, s_2, i64_w, i32_w]; rfl
         refine pure_ (i := 10) (N := some 3) (v := ?_) (a' := ?_) (bz 11 2047) rfl rfl (any_of HT_.out (by kernel_rfl)) (fun _ _ _ h => h) (Or.inl ⟨by rfl, ?_⟩) ?_ ?_
         rotate_left
         · intro w'; go_simp; (with_reducible rfl)
         rotate_left
         · simp only [Act.put, s_0, s_1, s_2, i64_w, i32_w]; rfl
         refine done_ (done_of HT_.out (by kernel_rfl)) ?_
         try go_wp2
         go_meet
         case rel => exact ⟨_, (x3_20 ++ t119), (by first | rfl | (simp; done) | (simp [*]; done)), H', ⟨by have := HJ1.out; have := HJ11.out; have := HJ20.out; first | omega | exact Nat.le_refl _⟩, ⟨by (with_reducible repeat (first | refine blk_drewN ?_ _ | refine blk_drew ?_ | refine blk_alloc ?_ _)); exact BK111.out⟩, ⟨by repeat (first | (with_reducible first | exact HB.out | apply below_alloc | apply pw_below_drewN | apply below_drew1 | refine below_set ?_ GE111.out) | exact HB.out)⟩⟩
       case rest =>
        clear HC27; (try clear c1); (try clear c2); (try clear p2); (try clear c3); (try clear c4); (try clear c5); (try clear c5b0); (try clear c5b1); (try clear p6); (try clear c8); (try clear c8b0); (try clear c8b1); (try clear c8b2); (try clear c14); (try clear c17); (try clear c17b0); (try clear c17b1); (try clear c17b2); (try clear c23); (try clear c25); (try clear c25b0); (try clear c25b1); (try clear c25b2); (try clear c29); (try clear c32); (try clear c32b0); (try clear c32b1); (try clear c32b2); (try clear c34); (try clear c34b0); (try clear c34b1); (try clear c34b2); (try clear hcz13_0); (try clear hcz13_1)
        (try clear hcz13_2); (try clear hcz13_3); (try clear hcz13_4); (try clear hcz13_5); (try clear hcz13_6); (try clear hcz13_7); (try clear hcz18_0); (try clear hcz18_1); (try clear hcz18_2); (try clear hcz18_3); (try clear hcz18_4); (try clear hcz18_5); (try clear hcz18_6); (try clear hcz18_7); (try clear hcz22_0); (try clear hcz22_1); (try clear hcz22_2); (try clear hcz22_3); (try clear hcz22_4); (try clear hcz22_5); (try clear hcz22_6); (try clear hcz22_7); (try clear hcz28_0); (try clear hcz28_1); (try clear hcz28_2); (try clear hcz28_3); (try clear hcz28_4); (try clear hcz28_5); (try clear hcz28_6)
        (try clear hcz28_7); (try clear hcz4_0); (try clear hcz4_1); (try clear hcz4_2); (try clear hcz4_3); (try clear hcz4_4); (try clear hcz4_5); (try clear hcz4_6); (try clear hcz4_7); (try clear hcz9_0); (try clear hcz9_1); (try clear hcz9_2); (try clear hcz9_3); (try clear hcz9_4); (try clear hcz9_5); (try clear hcz9_6); (try clear hcz9_7); (try clear hfz13_0); (try clear hfz13_1); (try clear hfz13_2); (try clear hfz13_3); (try clear hfz13_4); (try clear hfz13_5); (try clear hfz13_6); (try clear hfz13_7); (try clear hfz18_0); (try clear hfz18_1); (try clear hfz18_2); (try clear hfz18_3); (try clear hfz18_4)
        (try clear hfz18_5); (try clear hfz18_6); (try clear hfz18_7); (try clear hfz22_0); (try clear hfz22_1); (try clear hfz22_2); (try clear hfz22_3); (try clear hfz22_4); (try clear hfz22_5); (try clear hfz22_6); (try clear hfz22_7); (try clear hfz28_0); (try clear hfz28_1); (try clear hfz28_2); (try clear hfz28_3); (try clear hfz28_4); (try clear hfz28_5); (try clear hfz28_6); (try clear hfz28_7); (try clear hfz4_0); (try clear hfz4_1); (try clear hfz4_2); (try clear hfz4_3); (try clear hfz4_4); (try clear hfz4_5); (try clear hfz4_6); (try clear hfz4_7); (try clear hfz9_0); (try clear hfz9_1); (try clear hfz9_2)
        (try clear hfz9_3); (try clear hfz9_4); (try clear hfz9_5); (try clear hfz9_6); (try clear hfz9_7); (try clear p2); (try clear p6)
        obtain ⟨kq, x3_26, rfl, HA, HJ26, BK111, HB⟩ := hcut
        cases kq with
        | zero => exact absurd HA.out (by simp [opts_text.j3])
        | succ kj26 =>
         have H := HA.out
         clear HA
         simp only [opts_text.j3] at H
         by_cases c39 : (l0_7.length : Int) > 0
         rotate_left
         · rw [if_neg c39] at H
           have c39b0 : decide (0 < (l0_7.length : Int)) = false := decide_eq_false c39
           have c39b1 : decide (0 < l0_7.length) = false := decide_eq_false (by omega)
           clear c39; replace H := Option.bind_eq_some_iff.mp H; obtain ⟨t126, A610, H⟩ := H; (try dsimp only at H); have A61 := Aside0.mk A610; clear A610
           by_cases c62 : x3_26.size + t126.size ≤ 9223372036854775807
           rotate_left
           · rw [if_neg c62] at H
             exact absurd H (by simp)
           rw [if_pos c62] at H; have c62b0 := eq_true c62
           have c62b1 : decide (x3_26.size + t126.size ≤ 9223372036854775807) = true := decide_eq_true c62
           try have c62b2 : (9223372036854775807 < x3_26.size + t126.size) = False := eq_false (Nat.not_lt.2 c62)
           as_aux_lemma =>
            obtain rfl := Option.some.inj H; have hcz63 := cf8 BK111
            go_wp2_with (first | ((with_reducible refine gate_callee (f := 56) rfl ?_); refine goesL_ (some 71) rfl rfl Try.func56 (by kernel_rfl) rfl #[.string (⟨#[0]⟩ : ByteArray), .int .i64 (Go.bits .and .i64 (wrap64 (-(x3_26.size : Int))) 3)] rfl ga_ ?_; (with_reducible refine (strings_Repeat.calls (⟨#[0]⟩ : ByteArray) (Go.bits .and .i64 (wrap64 (-(x3_26.size : Int))) 3) t126 _ A61.out).mono ?_); rintro e w64 ⟨rfl, hb⟩; refine ⟨_, rfl, ?_⟩; replace BK111 := kb_ BK111 hb; replace HB := bs1_ HB GE111 hb; (try clear hb)))
            go_ret
            exact ⟨ra_, (be1_ HB GE111)⟩
         rw [if_pos c39] at H
         have c39b0 : decide (0 < (l0_7.length : Int)) = true := decide_eq_true c39
         have c39b1 : decide (0 < l0_7.length) = true := decide_eq_true (by omega)
         clear c39; have H' := Aside0.mk H; clear H; have hcz40 := cf8 BK111
         go_wp2
         go_loopg [4, 48] kj26 (fun kq v4 v48 w' => ∃ (x4_5 : ByteArray) (x48_5 : Int), v4 = .string x4_5 ∧ v48 = .int .i64 x48_5 ∧ Aside0 (opts_text.l0 kq x3_26 x4_5 l0_7 (l0_7.length : Int) x48_5 = some r) ∧ Aside0 (kq ≤ kj26) ∧ Aside0 (w'.heap[gb111]? = some (.cells #[.int .i64 a0_0, .int .i64 a0_1, .int .i64 a0_2, .int .i64 a0_3, .bool a0_4, .bool a0_5, .bool a0_6, (.slice A0_7 l0_7.length c0_7)] 26 (0, 0))) ∧ Aside0 (Below w.heap.size w w'))
         case atStart => exact ⟨((⟨#[]⟩ : ByteArray)), (0), (by first | rfl | (simp; done) | (simp [*]; done)), (by first | rfl | (simp; done) | (simp [*]; done)), H', ⟨Nat.le_refl _⟩, ⟨by (with_reducible repeat (first | refine blk_drewN ?_ _ | refine blk_drew ?_ | refine blk_alloc ?_ _)); exact BK111.out⟩, ⟨by repeat (first | (with_reducible first | exact HB.out | apply below_alloc | apply pw_below_drewN | apply below_drew1 | refine below_set ?_ GE111.out) | exact HB.out)⟩⟩
         case round =>
          clear H'
          (try clear c1); (try clear c2); (try clear p2); (try clear c3); (try clear c4); (try clear c5); (try clear c5b0); (try clear c5b1); (try clear p6); (try clear c8); (try clear c8b0); (try clear c8b1); (try clear c8b2); (try clear c14); (try clear c17); (try clear c17b0); (try clear c17b1); (try clear c17b2); (try clear c23); (try clear c25); (try clear c25b0); (try clear c25b1); (try clear c25b2); (try clear c29); (try clear c32); (try clear c32b0); (try clear c32b1); (try clear c32b2); (try clear c34); (try clear c34b0); (try clear c34b1); (try clear c34b2); (try clear c39); (try clear c39b0); (try clear c39b1)
          (try clear hcz13_0); (try clear hcz13_1); (try clear hcz13_2); (try clear hcz13_3); (try clear hcz13_4); (try clear hcz13_5); (try clear hcz13_6); (try clear hcz13_7); (try clear hcz18_0); (try clear hcz18_1); (try clear hcz18_2); (try clear hcz18_3); (try clear hcz18_4); (try clear hcz18_5); (try clear hcz18_6); (try clear hcz18_7); (try clear hcz22_0); (try clear hcz22_1); (try clear hcz22_2); (try clear hcz22_3); (try clear hcz22_4); (try clear hcz22_5); (try clear hcz22_6); (try clear hcz22_7); (try clear hcz28_0); (try clear hcz28_1); (try clear hcz28_2); (try clear hcz28_3); (try clear hcz28_4)
          (try clear hcz28_5); (try clear hcz28_6); (try clear hcz28_7); (try clear hcz40_0); (try clear hcz40_1); (try clear hcz40_2); (try clear hcz40_3); (try clear hcz40_4); (try clear hcz40_5); (try clear hcz40_6); (try clear hcz40_7); (try clear hcz4_0); (try clear hcz4_1); (try clear hcz4_2); (try clear hcz4_3); (try clear hcz4_4); (try clear hcz4_5); (try clear hcz4_6); (try clear hcz4_7); (try clear hcz9_0); (try clear hcz9_1); (try clear hcz9_2); (try clear hcz9_3); (try clear hcz9_4); (try clear hcz9_5); (try clear hcz9_6); (try clear hcz9_7); (try clear hfz13_0); (try clear hfz13_1); (try clear hfz13_2)
          (try clear hfz13_3); (try clear hfz13_4); (try clear hfz13_5); (try clear hfz13_6); (try clear hfz13_7); (try clear hfz18_0); (try clear hfz18_1); (try clear hfz18_2); (try clear hfz18_3); (try clear hfz18_4); (try clear hfz18_5); (try clear hfz18_6); (try clear hfz18_7); (try clear hfz22_0); (try clear hfz22_1); (try clear hfz22_2); (try clear hfz22_3); (try clear hfz22_4); (try clear hfz22_5); (try clear hfz22_6); (try clear hfz22_7); (try clear hfz28_0); (try clear hfz28_1); (try clear hfz28_2); (try clear hfz28_3); (try clear hfz28_4); (try clear hfz28_5); (try clear hfz28_6); (try clear hfz28_7)
          (try clear hfz40_0); (try clear hfz40_1); (try clear hfz40_2); (try clear hfz40_3); (try clear hfz40_4); (try clear hfz40_5); (try clear hfz40_6); (try clear hfz40_7); (try clear hfz4_0); (try clear hfz4_1); (try clear hfz4_2); (try clear hfz4_3); (try clear hfz4_4); (try clear hfz4_5); (try clear hfz4_6); (try clear hfz4_7); (try clear hfz9_0); (try clear hfz9_1); (try clear hfz9_2); (try clear hfz9_3); (try clear hfz9_4); (try clear hfz9_5); (try clear hfz9_6); (try clear hfz9_7); (try clear p2); (try clear p6)
          obtain ⟨x4_5, x48_5, rfl, rfl, HA, HK5, BK111, HB⟩ := hrel
          cases gk with
          | zero => exact absurd HA.out (by simp [opts_text.l0])
          | succ k5 =>
           have H := HA.out
           clear HA
           simp only [opts_text.l0] at H
           by_cases c41 : x48_5 < (l0_7.length : Int)
           rotate_left
           · rw [if_neg c41] at H
             have c41b0 : decide (x48_5 < (l0_7.length : Int)) = false := decide_eq_false c41
             clear c41; replace H := Option.bind_eq_some_iff.mp H; obtain ⟨t124, A550, H⟩ := H; (try dsimp only at H); have A55 := Aside0.mk A550; clear A550
             by_cases c56 : x3_26.size + t124.size ≤ 9223372036854775807
             rotate_left
             · rw [if_neg c56] at H
               exact absurd H (by simp)
             rw [if_pos c56] at H; have c56b0 := eq_true c56
             have c56b1 : decide (x3_26.size + t124.size ≤ 9223372036854775807) = true := decide_eq_true c56
             try have c56b2 : (9223372036854775807 < x3_26.size + t124.size) = False := eq_false (Nat.not_lt.2 c56)
             replace H := Option.bind_eq_some_iff.mp H; obtain ⟨t125, A570, H⟩ := H; (try dsimp only at H); have A57 := Aside0.mk A570; clear A570
             by_cases c58 : (x3_26 ++ t124).size + t125.size ≤ 9223372036854775807
             rotate_left
             · rw [if_neg c58] at H
               exact absurd H (by simp)
             rw [if_pos c58] at H; have c58b0 := eq_true c58
             have c58b1 : decide ((x3_26 ++ t124).size + t125.size ≤ 9223372036854775807) = true := decide_eq_true c58
             try have c58b2 : (9223372036854775807 < (x3_26 ++ t124).size + t125.size) = False := eq_false (Nat.not_lt.2 c58)
             (try (have c58b3 : (9223372036854775807 < x3_26.size + t124.size + t125.size) = False := by have h_ := c58b2; simp only [ByteArray.size_append, ByteArray.size_extract, Nat.min_self, Nat.sub_zero] at h_; with_reducible exact h_))
             as_aux_lemma =>
              obtain rfl := Option.some.inj H
              go_wp2_with (first | ((with_reducible refine gate_callee (f := 54) rfl ?_); refine goesL_ (some 64) rfl rfl Try.func54 (by kernel_rfl) rfl #[.int .i64 5, .string x4_5] rfl ga_ ?_; (with_reducible refine (opts_option.calls 5 x4_5 t124 _ A55.out).mono ?_); rintro e w59 ⟨rfl, hb⟩; refine ⟨_, rfl, ?_⟩; replace BK111 := kb_ BK111 hb; replace HB := bs1_ HB GE111 hb; (try clear hb)) | ((with_reducible refine gate_callee (f := 56) rfl ?_); refine goesL_ (some 71) rfl rfl Try.func56 (by kernel_rfl) rfl #[.string (⟨#[0]⟩ : ByteArray), .int .i64 (Go.bits .and .i64 (wrap64 (-((x3_26 ++ t124).size : Int))) 3)] rfl ga_ ?_; (with_reducible refine (strings_Repeat.calls (⟨#[0]⟩ : ByteArray) (Go.bits .and .i64 (wrap64 (-((x3_26 ++ t124).size : Int))) 3) t125 _ A57.out).mono ?_); rintro e w60 ⟨rfl, hb⟩; refine ⟨_, rfl, ?_⟩; replace BK111 := kb_ BK111 hb; replace HB := bs1_ HB GE111 hb; (try clear hb)))
              go_ret
              exact ⟨ra_, (be1_ HB GE111)⟩
           rw [if_pos c41] at H
           have c41b0 : decide (x48_5 < (l0_7.length : Int)) = true := decide_eq_true c41
           clear c41
           by_cases c42 : 0 ≤ x48_5
           rotate_left
           · rw [if_neg c42] at H
             exact absurd H (by simp)
           rw [if_pos c42] at H
           have c42b0 : decide (0 ≤ x48_5) = true := decide_eq_true c42
           clear c42
           by_cases c43 : x48_5 < (l0_7.length : Int)
           rotate_left
           · rw [if_neg c43] at H
             exact absurd H (by simp)
           rw [if_pos c43] at H
           have c43b0 : decide (x48_5 < (l0_7.length : Int)) = true := decide_eq_true c43
           clear c43; replace H := Option.bind_eq_some_iff.mp H; obtain ⟨t122, A440, H⟩ := H; (try dsimp only at H); have A44 := Aside0.mk A440; clear A440; replace H := Option.bind_eq_some_iff.mp H; obtain ⟨t123, A450, H⟩ := H; (try dsimp only at H); have A45 := Aside0.mk A450; clear A450
           by_cases c46 : t122.size + t123.size ≤ 9223372036854775807
           rotate_left
           · rw [if_neg c46] at H
             exact absurd H (by simp)
           rw [if_pos c46] at H; have c46b0 := eq_true c46
           have c46b1 : decide (t122.size + t123.size ≤ 9223372036854775807) = true := decide_eq_true c46
           try have c46b2 : (9223372036854775807 < t122.size + t123.size) = False := eq_false (Nat.not_lt.2 c46)
           by_cases c47 : x4_5.size + (t122 ++ t123).size ≤ 9223372036854775807
           rotate_left
           · rw [if_neg c47] at H
             exact absurd H (by simp)
           rw [if_pos c47] at H; have c47b0 := eq_true c47
           have c47b1 : decide (x4_5.size + (t122 ++ t123).size ≤ 9223372036854775807) = true := decide_eq_true c47
           try have c47b2 : (9223372036854775807 < x4_5.size + (t122 ++ t123).size) = False := eq_false (Nat.not_lt.2 c47)
           (try (have c47b3 : (9223372036854775807 < x4_5.size + (t122.size + t123.size)) = False := by have h_ := c47b2; simp only [ByteArray.size_append, ByteArray.size_extract, Nat.min_self, Nat.sub_zero] at h_; with_reducible exact h_))
           as_aux_lemma =>
            have H' := Aside0.mk H; clear H
            have p120 : 0 ≤ (x48_5 : Int) := of_decide_eq_true (by first | (with_reducible assumption) | assumption)
            have q120 : x48_5 < (l0_7.length : Int) := of_decide_eq_true (by first | (with_reducible assumption) | assumption)
            obtain ⟨ad120, e120, hx120_0, hx120_1⟩ := at_T68 HR0_7.out x48_5 p120 q120
            cases e120
            replace hx120_0 := (HB.out.cell (World.block_lt_of_cell? w _ hx120_0)).trans hx120_0
            replace hx120_1 := (HB.out.cell (World.block_lt_of_cell? w _ hx120_1)).trans hx120_1
            replace p120 := eq_true p120; replace q120 := eq_true q120
            try go_wp2_with (first | ((with_reducible refine gate_dst (N := 6) rfl ?_); refine box_event ?hg (N := 6) ?hd (cs := #[.int .i64 0, .int .i64 0]) (t := 68) ?hr ?_; (case hd => rfl); (case hg => rfl); (case hr => go_simp; first | done | (simp only [IntKind.wrap_u8]; done) | rfl); intro gb121 hg w48 hbox hb; have BK121 := Aside0.mk (hbox); have GW121 := gz_ (be1_ HB GE111) hg; have GE121 := gz_ (be1_ HB GE111) hg; replace HB := bs1_ HB GE111 hb; have NB111_121 := nl_ (bk_ BK111) hg; have NB121_111 := ng_ (bk_ BK111) hg; replace BK111 := kb_ BK111 hb; clear hb hbox hg; have hnb49 := NB121_111.out; have hnc49 := NB111_121.out; have hcz50 := cf2 BK121))
            have n0_ : Aside0 (((w48.setCell ⟨gb121, 0, none⟩ (.int .i64 ((rd_T68 l0_7 x48_5).f0))).setCell ⟨gb121, 1, none⟩ (.int .i64 ((rd_T68 l0_7 x48_5).f1))).heap[gb111]? = some (.cells #[.int .i64 a0_0, .int .i64 a0_1, .int .i64 a0_2, .int .i64 a0_3, .bool a0_4, .bool a0_5, .bool a0_6, .slice (some ad120) l0_7.length c0_7] 26 (0, 0))) := ⟨by (with_reducible repeat (first | refine blk_drewN ?_ _ | refine blk_drew ?_ | refine blk_alloc ?_ _)); refine blk_far ?_ NB111_121.out _; (with_reducible repeat (first | refine blk_drewN ?_ _ | refine blk_drew ?_ | refine blk_alloc ?_ _)); refine blk_far ?_ NB111_121.out _; (with_reducible repeat (first | refine blk_drewN ?_ _ | refine blk_drew ?_ | refine blk_alloc ?_ _)); exact BK111.out⟩
            have n1_ : Aside0 (((w48.setCell ⟨gb121, 0, none⟩ (.int .i64 ((rd_T68 l0_7 x48_5).f0))).setCell ⟨gb121, 1, none⟩ (.int .i64 ((rd_T68 l0_7 x48_5).f1))).heap[gb121]? = some (.cells #[.int .i64 ((rd_T68 l0_7 x48_5).f0), .int .i64 ((rd_T68 l0_7 x48_5).f1)] 68 (0, 0))) := ⟨by (with_reducible repeat (first | refine blk_drewN ?_ _ | refine blk_drew ?_ | refine blk_alloc ?_ _)); refine blk_put (cs := #[.int .i64 ((rd_T68 l0_7 x48_5).f0), .int .i64 0]) ?_ 1 _ rfl; (with_reducible repeat (first | refine blk_drewN ?_ _ | refine blk_drew ?_ | refine blk_alloc ?_ _)); refine blk_put (cs := #[.int .i64 0, .int .i64 0]) ?_ 0 _ rfl; (with_reducible repeat (first | refine blk_drewN ?_ _ | refine blk_drew ?_ | refine blk_alloc ?_ _)); exact BK121.out⟩
            have n2_ : Aside0 (Below w.heap.size w ((w48.setCell ⟨gb121, 0, none⟩ (.int .i64 ((rd_T68 l0_7 x48_5).f0))).setCell ⟨gb121, 1, none⟩ (.int .i64 ((rd_T68 l0_7 x48_5).f1)))) := ⟨by repeat (first | (with_reducible first | exact HB.out | apply below_alloc | apply pw_below_drewN | apply below_drew1 | refine below_set ?_ GE111.out | refine below_set ?_ GE121.out) | exact HB.out)⟩
            (try clear BK111); (try clear BK121); (try clear HB)
            generalize ((w48.setCell ⟨gb121, 0, none⟩ (.int .i64 ((rd_T68 l0_7 x48_5).f0))).setCell ⟨gb121, 1, none⟩ (.int .i64 ((rd_T68 l0_7 x48_5).f1))) = w51 at n0_ n1_ n2_ ⊢
            have BK111 := n0_; have BK121 := n1_; have HB := n2_; clear n0_ n1_ n2_
            replace BK111 := Aside0.mk (blk_drew BK111.out); replace BK121 := Aside0.mk (blk_drew BK121.out); replace HB := Aside0.mk (below_drew1 HB.out)
            refine start_ (n := 10) (S := fun w' => w'.cell? ⟨gb121, 0, none⟩ = some (.int .i64 ((rd_T68 l0_7 x48_5).f0)) ∧ w'.cell? ⟨gb121, 1, none⟩ = some (.int .i64 ((rd_T68 l0_7 x48_5).f1))) (ds := []) (bz 10 0) (by kernel_rfl) rfl rfl ⟨bc BK121 0, bc BK121 1⟩ (fun hHeld => ?_); refine with_tabW opts_text.tab15 opts_text.bits15 (fun HT_ HW_ => ?_)
            generalize w51.drew = w52 at BK111 BK121 HB hHeld ⊢
            refine pure_ (i := 0) (N := some 52) (v := ?_) (a' := ?_) (bz 10 1) rfl rfl (any_of HT_.out (by kernel_rfl)) (fun _ _ _ h => h) (Or.inl ⟨by rfl, ?_⟩) ?_ ?_
            rotate_left
            · intro w'; go_simp; (with_reducible rfl)
            rotate_left
            · simp only [Act.put, s_0, s_1, s_2, i64_w, i32_w]; rfl
            refine pure_ (i := 1) (N := some 53) (v := ?_) (a' := ?_) (bz 10 3) rfl rfl (any_of HT_.out (by kernel_rfl)) (fun _ _ _ h => h) (Or.inl ⟨by rfl, ?_⟩) ?_ ?_
            rotate_left
            · intro w'; go_simp; (with_reducible rfl)
            rotate_left
            · simp only [Act.put, s_0, s_1, s_2, i64_w, i32_w]; rfl
            refine pure_ (i := 4) (N := some 56) (v := ?_) (a' := ?_) (bz 10 19) rfl rfl (any_of HT_.out (by kernel_rfl)) (fun _ _ _ h => h) (Or.inl ⟨by rfl, ?_⟩) ?_ ?_
            rotate_left
            · intro w'; go_simp; (with_reducible rfl)
            rotate_left
            · simp only [Act.put, s_0, s_1, s_2, i64_w, i32_w]; rfl
            refine take_ (i := 2) (N := some 54) (v := ?_) (a' := ?_) (bz 10 23) rfl rfl (take_ofW HT_.out HW_.out (by kernel_rfl)) (fun _ _ _ h => h) (Or.inl ⟨by rfl, ?_⟩) hHeld ?_ ?_
            rotate_left
            · rintro w' ⟨s0, s1⟩
              go_simp; (with_reducible rfl)
            rotate_left
            · simp only [Act.put, s_0, s_1, s_2, i64_w, i32_w]; rfl
            refine take_ (i := 5) (N := some 57) (v := ?_) (a' := ?_) (bz 10 55) rfl rfl (take_ofW HT_.out HW_.out (by kernel_rfl)) (fun _ _ _ h => h) (Or.inl ⟨by rfl, ?_⟩) hHeld ?_ ?_
            rotate_left
            · rintro w' ⟨s0, s1⟩
              go_simp; (with_reducible rfl)
            rotate_left
            · simp only [Act.put, s_0, s_1, s_2, i64_w, i32_w]; rfl
            refine one_ (i := 3) (N := some 55) (bz 10 63) rfl rfl (one_of HT_.out (by kernel_rfl)) (by decide) (fun K hK => ?_)
            refine goes_ Try.func55 (by kernel_rfl) rfl #[.int .i64 ((rd_T68 l0_7 x48_5).f0), .int .i64 4] (by rfl) rfl rfl ga_ ?_
            with_reducible refine (opts_num.calls k5 ((rd_T68 l0_7 x48_5).f0) 4 t122 _ A44.out).mono ?_
            rintro e w53 ⟨rfl, hb⟩; refine ⟨_, rfl, ?_⟩
            replace BK111 := kb_ BK111 hb; replace BK121 := kb_ BK121 hb; replace HB := Aside0.mk (below_step (be2_ HB GE111 GE121) hb)
            (try clear hb)
            refine hK.out _ _ ⟨bc BK121 0, bc BK121 1⟩ (fun hHeld => ?_)
            clear hK K
            refine norm_ (a' := ?_) ?_ ?_
            rotate_left
            · show Act.put _ (some 55) _ = _; simp only [Act.put, s_0, s_1, s_2, i64_w, i32_w]; rfl
            refine one_ (i := 6) (N := some 58) (bz 10 127) rfl rfl (one_of HT_.out (by kernel_rfl)) (by decide) (fun K hK => ?_)
            refine goes_ Try.func55 (by kernel_rfl) rfl #[.int .i64 ((rd_T68 l0_7 x48_5).f1), .int .i64 4] (by rfl) rfl rfl ga_ ?_
            with_reducible refine (opts_num.calls k5 ((rd_T68 l0_7 x48_5).f1) 4 t123 _ A45.out).mono ?_
            rintro e w54 ⟨rfl, hb⟩; refine ⟨_, rfl, ?_⟩
            replace BK111 := kb_ BK111 hb; replace BK121 := kb_ BK121 hb; replace HB := Aside0.mk (below_step (be2_ HB GE111 GE121) hb)
            (try clear hb)
            refine hK.out _ _ ⟨bc BK121 0, bc BK121 1⟩ (fun hHeld => ?_)
            clear hK K
            refine norm_ (a' := ?_) ?_ ?_
            rotate_left
            · show Act.put _ (some 58) _ = _; simp only [Act.put, s_0, s_1, s_2, i64_w, i32_w]; rfl
            refine pure_ (i := 7) (N := some 59) (v := ?_) (a' := ?_) (bz 10 255) rfl rfl (any_of HT_.out (by kernel_rfl)) (fun _ _ _ h => h) (Or.inl ⟨by rfl, ?_⟩) ?_ ?_
            rotate_left
            · intro w'; go_simp; (with_reducible rfl)
            rotate_left
            · simp only [Act.put, s_0, s_1, s_2, i64_w, i32_w]; rfl
            refine pure_ (i := 8) (N := some 60) (v := ?_) (a' := ?_) (bz 10 511) rfl rfl (any_of HT_.out (by kernel_rfl)) (fun _ _ _ h => h) (Or.inl ⟨by rfl, ?_⟩) ?_ ?_
            rotate_left
            · intro w'; go_simp; (with_reducible rfl)
            rotate_left
            · simp only [Act.put, s_0, s_1, s_2, i64_w, i32_w]; rfl
            refine pure_ (i := 9) (N := some 4) (v := ?_) (a' := ?_) (bz 10 1023) rfl rfl (any_of HT_.out (by kernel_rfl)) (fun _ _ _ h => h) (Or.inl ⟨by rfl, ?_⟩) ?_ ?_
            rotate_left
            · intro w'; go_simp; (with_reducible rfl)
            rotate_left
            · simp only [Act.put, s_0, s_1, s_2, i64_w, i32_w]; rfl
            refine done_ (done_of HT_.out (by kernel_rfl)) ?_
            try go_wp2
            go_roundg k5
            case measure => have := HJ1.out; have := HJ11.out; have := HJ20.out; have := HJ26.out; have := HK5.out; omega
            case rel => exact ⟨(x4_5 ++ (t122 ++ t123)), (wrap64 (x48_5 + 1)), (by first | rfl | (simp; done) | (simp [*]; done)), (by first | rfl | (simp; done) | (simp [*]; done)), H', ⟨by have := HJ1.out; have := HJ11.out; have := HJ20.out; have := HJ26.out; have := HK5.out; omega⟩, ⟨by (with_reducible repeat (first | refine blk_drewN ?_ _ | refine blk_drew ?_ | refine blk_alloc ?_ _)); exact BK111.out⟩, ⟨by repeat (first | (with_reducible first | exact HB.out | apply below_alloc | apply pw_below_drewN | apply below_drew1 | refine below_set ?_ GE111.out | refine below_set ?_ GE121.out) | exact HB.out)⟩⟩

end Go.Proofs.Ytnhoadmgoaenpaa.PSegWrites
