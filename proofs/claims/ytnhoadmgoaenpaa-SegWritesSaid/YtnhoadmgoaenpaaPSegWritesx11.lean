-- Laid by a program of this session (the print, changed: wip/pp.py). Not trusted: Lean checks it.
import Derived.Test.YtnhoadmgoaenpaaPSegWritesx0
import Derived.Test.YtnhoadmgoaenpaaPSegWritesx7
import Derived.Test.YtnhoadmgoaenpaaPSegWritesx10
namespace Go.Proofs.Ytnhoadmgoaenpaa.PSegWrites
open Go.RowKit Go.Proofs.YtnhoadmgoaenpaaW.PrintWords Go.Proofs.YtnhoadmgoaenpaaW.PrintLast Go.Proofs.YtnhoadmgoaenpaaW.PrintMore
attribute [local go_sem] max2_int min2_int max_two min_two max_three min_three max_four min_four max_five min_five max_six min_six max_seven min_seven   -- for this text's walks alone
set_option linter.unusedVariables false
set_option linter.unusedSimpArgs false

/-! ### sternpostref07_Check: function 29 -/
mutual
def sternpostref07_Check.j0 : Nat → Bool → Int → Int → Int → Int → Bool → Bool → Bool → List (S68) → Option (Int)
 | 0, _, _, _, _, _, _, _, _, _ => none
 | k + 1, x65, x205000, x205001, x205002, x205003, x205004, x205005, x205006, x205007 => if x65 = true then (some 70) else (sternpostref07_Check.l0 k 0 x205000 x205001 x205002 x205003 x205004 x205005 x205006 x205007)
def sternpostref07_Check.l0 : Nat → Int → Int → Int → Int → Int → Bool → Bool → Bool → List (S68) → Option (Int)
 | 0, _, _, _, _, _, _, _, _, _ => none
 | k + 1, x3, x205000, x205001, x205002, x205003, x205004, x205005, x205006, x205007 => if x3 < (x205007.length : Int) then (if 0 ≤ x3 then ((sternpostref01_Check.f ((rd_T68 x205007 x3).f0)).bind fun t212 => (if t212 = 0 then ((sternpostref01_Check.f ((rd_T68 x205007 x3).f1)).bind fun t213 => (if t213 = 0 then (if ((rd_T68 x205007 x3).f0) = ((rd_T68 x205007 x3).f1) then (some 70) else (sternpostref07_Check.l0 k (wrap64 (x3 + 1)) x205000 x205001 x205002 x205003 x205004 x205005 x205006 x205007)) else (some 70))) else (some 70))) else (none)) else ((sternpostref07_Bytes.f k x205000 x205001 x205002 x205003 x205004 x205005 x205006 x205007).bind fun t209 => (if (t209.size : Int) > 40 then (some 70) else (some 0)))
end
def sternpostref07_Check.f (k : Nat) (a0_0 : Int) (a0_1 : Int) (a0_2 : Int) (a0_3 : Int) (a0_4 : Bool) (a0_5 : Bool) (a0_6 : Bool) (l0_7 : List (S68)) : Option (Int) := if a0_0 < 0 then (sternpostref07_Check.j0 k true a0_0 a0_1 a0_2 a0_3 a0_4 a0_5 a0_6 l0_7) else (if a0_0 > 65535 then (sternpostref07_Check.j0 k true a0_0 a0_1 a0_2 a0_3 a0_4 a0_5 a0_6 l0_7) else (if a0_1 < 0 then (sternpostref07_Check.j0 k true a0_0 a0_1 a0_2 a0_3 a0_4 a0_5 a0_6 l0_7) else (if a0_1 > 14 then (sternpostref07_Check.j0 k true a0_0 a0_1 a0_2 a0_3 a0_4 a0_5 a0_6 l0_7) else (if a0_4 = true then ((sternpostref01_Check.f a0_2).bind fun t205 => (if t205 = 0 then ((sternpostref01_Check.f a0_3).bind fun t206 => (if t206 = 0 then (if a0_6 = true then (sternpostref07_Check.j0 k (decide ((l0_7.length : Int) > 4)) a0_0 a0_1 a0_2 a0_3 a0_4 a0_5 a0_6 l0_7) else (if a0_2 = 0 then (if a0_3 = 0 then (sternpostref07_Check.j0 k (decide ((l0_7.length : Int) > 4)) a0_0 a0_1 a0_2 a0_3 a0_4 a0_5 a0_6 l0_7) else (sternpostref07_Check.j0 k true a0_0 a0_1 a0_2 a0_3 a0_4 a0_5 a0_6 l0_7)) else (sternpostref07_Check.j0 k true a0_0 a0_1 a0_2 a0_3 a0_4 a0_5 a0_6 l0_7))) else (sternpostref07_Check.j0 k true a0_0 a0_1 a0_2 a0_3 a0_4 a0_5 a0_6 l0_7))) else (sternpostref07_Check.j0 k true a0_0 a0_1 a0_2 a0_3 a0_4 a0_5 a0_6 l0_7))) else (if a0_1 = 0 then ((sternpostref01_Check.f a0_2).bind fun t207 => (if t207 = 0 then ((sternpostref01_Check.f a0_3).bind fun t208 => (if t208 = 0 then (if a0_6 = true then (sternpostref07_Check.j0 k (decide ((l0_7.length : Int) > 4)) a0_0 a0_1 a0_2 a0_3 a0_4 a0_5 a0_6 l0_7) else (if a0_2 = 0 then (if a0_3 = 0 then (sternpostref07_Check.j0 k (decide ((l0_7.length : Int) > 4)) a0_0 a0_1 a0_2 a0_3 a0_4 a0_5 a0_6 l0_7) else (sternpostref07_Check.j0 k true a0_0 a0_1 a0_2 a0_3 a0_4 a0_5 a0_6 l0_7)) else (sternpostref07_Check.j0 k true a0_0 a0_1 a0_2 a0_3 a0_4 a0_5 a0_6 l0_7))) else (sternpostref07_Check.j0 k true a0_0 a0_1 a0_2 a0_3 a0_4 a0_5 a0_6 l0_7))) else (sternpostref07_Check.j0 k true a0_0 a0_1 a0_2 a0_3 a0_4 a0_5 a0_6 l0_7))) else (sternpostref07_Check.j0 k true a0_0 a0_1 a0_2 a0_3 a0_4 a0_5 a0_6 l0_7))))))
theorem sternpostref07_Check.mono_l : ∀ k, (∀ y0 y1 y2 y3 y4 y5 y6 y7 y8, LeO (sternpostref07_Check.j0 k y0 y1 y2 y3 y4 y5 y6 y7 y8) (sternpostref07_Check.j0 (k + 1) y0 y1 y2 y3 y4 y5 y6 y7 y8)) ∧ (∀ y0 y1 y2 y3 y4 y5 y6 y7 y8, LeO (sternpostref07_Check.l0 k y0 y1 y2 y3 y4 y5 y6 y7 y8) (sternpostref07_Check.l0 (k + 1) y0 y1 y2 y3 y4 y5 y6 y7 y8))
 | 0 => ⟨fun _ _ _ _ _ _ _ _ _ r h => by simp [sternpostref07_Check.j0] at h, fun _ _ _ _ _ _ _ _ _ r h => by simp [sternpostref07_Check.l0] at h⟩
 | k + 1 => by
  obtain ⟨ih0, ih1⟩ := sternpostref07_Check.mono_l k
  refine ⟨?_, ?_⟩
  ·
   intro y0 y1 y2 y3 y4 y5 y6 y7 y8
   unfold sternpostref07_Check.j0
   repeat' first
   | (with_reducible exact ih0 _ _ _ _ _ _ _ _ _)
   | (with_reducible exact ih1 _ _ _ _ _ _ _ _ _)
   | (with_reducible exact sternpostref07_Bytes.mono _ _ _ _ _ _ _ _ _)
   | (with_reducible exact LeO.refl _)
   | (with_reducible exact LeO.none _)
   | (with_reducible refine LeO.ite ?_ ?_)
   | (with_reducible refine LeO.bind ?_ (fun _ => ?_))
   | exact ih0 _ _ _ _ _ _ _ _ _
   | exact ih1 _ _ _ _ _ _ _ _ _
   | exact sternpostref07_Bytes.mono _ _ _ _ _ _ _ _ _
   | exact LeO.none _
   | refine LeO.ite ?_ ?_
   | refine LeO.bind ?_ (fun _ => ?_)
  ·
   intro y0 y1 y2 y3 y4 y5 y6 y7 y8
   unfold sternpostref07_Check.l0
   repeat' first
   | (with_reducible exact ih0 _ _ _ _ _ _ _ _ _)
   | (with_reducible exact ih1 _ _ _ _ _ _ _ _ _)
   | (with_reducible exact sternpostref07_Bytes.mono _ _ _ _ _ _ _ _ _)
   | (with_reducible exact LeO.refl _)
   | (with_reducible exact LeO.none _)
   | (with_reducible refine LeO.ite ?_ ?_)
   | (with_reducible refine LeO.bind ?_ (fun _ => ?_))
   | exact ih0 _ _ _ _ _ _ _ _ _
   | exact ih1 _ _ _ _ _ _ _ _ _
   | exact sternpostref07_Bytes.mono _ _ _ _ _ _ _ _ _
   | exact LeO.none _
   | refine LeO.ite ?_ ?_
   | refine LeO.bind ?_ (fun _ => ?_)
theorem sternpostref07_Check.mono : ∀ a0 a1 a2 a3 a4 a5 a6 a7 k, LeO (sternpostref07_Check.f k a0 a1 a2 a3 a4 a5 a6 a7) (sternpostref07_Check.f (k + 1) a0 a1 a2 a3 a4 a5 a6 a7) := by
 intro a0 a1 a2 a3 a4 a5 a6 a7 k
 obtain ⟨ih0, ih1⟩ := sternpostref07_Check.mono_l k
 unfold sternpostref07_Check.f
 repeat' first
  | (with_reducible exact ih0 _ _ _ _ _ _ _ _ _)
  | (with_reducible exact ih1 _ _ _ _ _ _ _ _ _)
  | (with_reducible exact sternpostref07_Bytes.mono _ _ _ _ _ _ _ _ _)
  | (with_reducible exact LeO.refl _)
  | (with_reducible exact LeO.none _)
  | (with_reducible refine LeO.ite ?_ ?_)
  | (with_reducible refine LeO.bind ?_ (fun _ => ?_))
  | exact ih0 _ _ _ _ _ _ _ _ _
  | exact ih1 _ _ _ _ _ _ _ _ _
  | exact sternpostref07_Bytes.mono _ _ _ _ _ _ _ _ _
  | exact LeO.none _
  | refine LeO.ite ?_ ?_
  | refine LeO.bind ?_ (fun _ => ?_)
set_option maxHeartbeats 8000000 in
set_option maxRecDepth 100000 in
theorem sternpostref07_Check.calls (k : Nat) (a0_0 : Int) (a0_1 : Int) (a0_2 : Int) (a0_3 : Int) (a0_4 : Bool) (a0_5 : Bool) (a0_6 : Bool) (A0_7 : Option Addr) (c0_7 : Nat) (l0_7 : List (S68)) (r : Int) (w : World) (hr0_7 : Kd.C k68 w A0_7 l0_7.length l0_7) (hc0_7 : l0_7.length ≤ c0_7) (h : sternpostref07_Check.f k a0_0 a0_1 a0_2 a0_3 a0_4 a0_5 a0_6 l0_7 = some r) :
 Calls Try.prog 29 #[.agg #[.int .i64 a0_0, .int .i64 a0_1, .int .i64 a0_2, .int .i64 a0_3, .bool a0_4, .bool a0_5, .bool a0_6, .slice A0_7 l0_7.length c0_7]] w fun e w' => e = .returned (.int .i64 r) ∧ Below w.heap.size w w' := by
 have hu26 := Try.underlying26
 have hu68 := Try.underlying68
 have HR0_7 := Aside0.mk hr0_7; have HC0_7 := Aside0.mk hc0_7; clear hr0_7 hc0_7
 have HB := Aside0.mk (Below.refl w.heap.size w)
 have H : (if a0_0 < 0 then (sternpostref07_Check.j0 k true a0_0 a0_1 a0_2 a0_3 a0_4 a0_5 a0_6 l0_7) else (if a0_0 > 65535 then (sternpostref07_Check.j0 k true a0_0 a0_1 a0_2 a0_3 a0_4 a0_5 a0_6 l0_7) else (if a0_1 < 0 then (sternpostref07_Check.j0 k true a0_0 a0_1 a0_2 a0_3 a0_4 a0_5 a0_6 l0_7) else (if a0_1 > 14 then (sternpostref07_Check.j0 k true a0_0 a0_1 a0_2 a0_3 a0_4 a0_5 a0_6 l0_7) else (if a0_4 = true then ((sternpostref01_Check.f a0_2).bind fun t205 => (if t205 = 0 then ((sternpostref01_Check.f a0_3).bind fun t206 => (if t206 = 0 then (if a0_6 = true then (sternpostref07_Check.j0 k (decide ((l0_7.length : Int) > 4)) a0_0 a0_1 a0_2 a0_3 a0_4 a0_5 a0_6 l0_7) else (if a0_2 = 0 then (if a0_3 = 0 then (sternpostref07_Check.j0 k (decide ((l0_7.length : Int) > 4)) a0_0 a0_1 a0_2 a0_3 a0_4 a0_5 a0_6 l0_7) else (sternpostref07_Check.j0 k true a0_0 a0_1 a0_2 a0_3 a0_4 a0_5 a0_6 l0_7)) else (sternpostref07_Check.j0 k true a0_0 a0_1 a0_2 a0_3 a0_4 a0_5 a0_6 l0_7))) else (sternpostref07_Check.j0 k true a0_0 a0_1 a0_2 a0_3 a0_4 a0_5 a0_6 l0_7))) else (sternpostref07_Check.j0 k true a0_0 a0_1 a0_2 a0_3 a0_4 a0_5 a0_6 l0_7))) else (if a0_1 = 0 then ((sternpostref01_Check.f a0_2).bind fun t207 => (if t207 = 0 then ((sternpostref01_Check.f a0_3).bind fun t208 => (if t208 = 0 then (if a0_6 = true then (sternpostref07_Check.j0 k (decide ((l0_7.length : Int) > 4)) a0_0 a0_1 a0_2 a0_3 a0_4 a0_5 a0_6 l0_7) else (if a0_2 = 0 then (if a0_3 = 0 then (sternpostref07_Check.j0 k (decide ((l0_7.length : Int) > 4)) a0_0 a0_1 a0_2 a0_3 a0_4 a0_5 a0_6 l0_7) else (sternpostref07_Check.j0 k true a0_0 a0_1 a0_2 a0_3 a0_4 a0_5 a0_6 l0_7)) else (sternpostref07_Check.j0 k true a0_0 a0_1 a0_2 a0_3 a0_4 a0_5 a0_6 l0_7))) else (sternpostref07_Check.j0 k true a0_0 a0_1 a0_2 a0_3 a0_4 a0_5 a0_6 l0_7))) else (sternpostref07_Check.j0 k true a0_0 a0_1 a0_2 a0_3 a0_4 a0_5 a0_6 l0_7))) else (sternpostref07_Check.j0 k true a0_0 a0_1 a0_2 a0_3 a0_4 a0_5 a0_6 l0_7))))))) = some r := h
 clear h; have HC2 := Aside0.mk H; clear H
 go_enter Try.func29, Try.ntmps29
 go_upto_region 1 with (first | ((with_reducible refine gate_dst (N := 1) rfl ?_); (try (refine gate_guard (by rfl) ?_; dsimp only)); refine box_event ?hg (N := 1) ?hd (cs := #[.int .i64 a0_0, .int .i64 a0_1, .int .i64 a0_2, .int .i64 a0_3, .bool a0_4, .bool a0_5, .bool a0_6, .slice A0_7 l0_7.length c0_7]) (t := 26) ?hr ?_; (case hd => rfl); (case hg => rfl); (case hr => go_simp; first | done | (simp only [IntKind.wrap_u8]; done) | rfl); intro gb204 hg w3 hbox hb; have BK204 := Aside0.mk (hbox); have GW204 := gz_ (be0_ HB) hg; have GE204 := gz_ (be0_ HB) hg; replace HB := bs0_ HB hb; clear hb hbox hg))
 (try simp only [Act.put, s_0, s_1, s_2])
 go_cut [65] (fun v65 wc => ∃ (kq : Nat) (x65_1 : Bool), v65 = .bool x65_1 ∧ Aside0 (sternpostref07_Check.j0 kq x65_1 a0_0 a0_1 a0_2 a0_3 a0_4 a0_5 a0_6 l0_7 = some r) ∧ Aside0 (kq ≤ k) ∧ Aside0 (wc.heap[gb204]? = some (.cells #[.int .i64 a0_0, .int .i64 a0_1, .int .i64 a0_2, .int .i64 a0_3, .bool a0_4, .bool a0_5, .bool a0_6, (.slice A0_7 l0_7.length c0_7)] 26 (0, 0))) ∧ Aside0 (Below w.heap.size w wc))
 case first =>
  have H := HC2.out
  clear HC2
  by_cases c4 : a0_0 < 0
  · rw [if_pos c4] at H
    have c4b0 : decide (a0_0 < 0) = true := decide_eq_true c4
    clear c4
    (first | rw [c4b0] | rw [c4b1] | (simp only [i64_w, i32_w]; rw [c4b0]) | skip)
    as_aux_lemma =>
     have H' := Aside0.mk H; clear H; have hcz5 := cf8 BK204
     go_wp2
     go_meet
     case rel => exact ⟨_, (true), (by first | rfl | (simp; done) | (simp [*]; done)), H', ⟨by first | omega | exact Nat.le_refl _⟩, ⟨by (with_reducible repeat (first | refine blk_drewN ?_ _ | refine blk_drew ?_ | refine blk_alloc ?_ _)); exact BK204.out⟩, ⟨by repeat (first | (with_reducible first | exact HB.out | apply below_alloc | apply pw_below_drewN | apply below_drew1 | refine below_set ?_ GE204.out) | exact HB.out)⟩⟩
  rw [if_neg c4] at H
  have c4b0 : decide (a0_0 < 0) = false := decide_eq_false c4
  clear c4
  (first | rw [c4b0] | rw [c4b1] | (simp only [i64_w, i32_w]; rw [c4b0]) | skip)
  by_cases c6 : a0_0 > 65535
  · rw [if_pos c6] at H
    have c6b0 : decide (65535 < a0_0) = true := decide_eq_true c6
    clear c6
    as_aux_lemma =>
     have H' := Aside0.mk H; clear H; have hcz7 := cf8 BK204
     go_wp2
     go_meet
     case rel => exact ⟨_, (true), (by first | rfl | (simp; done) | (simp [*]; done)), H', ⟨by first | omega | exact Nat.le_refl _⟩, ⟨by (with_reducible repeat (first | refine blk_drewN ?_ _ | refine blk_drew ?_ | refine blk_alloc ?_ _)); exact BK204.out⟩, ⟨by repeat (first | (with_reducible first | exact HB.out | apply below_alloc | apply pw_below_drewN | apply below_drew1 | refine below_set ?_ GE204.out) | exact HB.out)⟩⟩
  rw [if_neg c6] at H
  have c6b0 : decide (65535 < a0_0) = false := decide_eq_false c6
  clear c6
  by_cases c8 : a0_1 < 0
  · rw [if_pos c8] at H
    have c8b0 : decide (a0_1 < 0) = true := decide_eq_true c8
    clear c8
    as_aux_lemma =>
     have H' := Aside0.mk H; clear H; have hcz9 := cf8 BK204
     go_wp2
     go_meet
     case rel => exact ⟨_, (true), (by first | rfl | (simp; done) | (simp [*]; done)), H', ⟨by first | omega | exact Nat.le_refl _⟩, ⟨by (with_reducible repeat (first | refine blk_drewN ?_ _ | refine blk_drew ?_ | refine blk_alloc ?_ _)); exact BK204.out⟩, ⟨by repeat (first | (with_reducible first | exact HB.out | apply below_alloc | apply pw_below_drewN | apply below_drew1 | refine below_set ?_ GE204.out) | exact HB.out)⟩⟩
  rw [if_neg c8] at H
  have c8b0 : decide (a0_1 < 0) = false := decide_eq_false c8
  clear c8
  by_cases c10 : a0_1 > 14
  · rw [if_pos c10] at H
    have c10b0 : decide (14 < a0_1) = true := decide_eq_true c10
    clear c10
    as_aux_lemma =>
     have H' := Aside0.mk H; clear H; have hcz11 := cf8 BK204
     go_wp2
     go_meet
     case rel => exact ⟨_, (true), (by first | rfl | (simp; done) | (simp [*]; done)), H', ⟨by first | omega | exact Nat.le_refl _⟩, ⟨by (with_reducible repeat (first | refine blk_drewN ?_ _ | refine blk_drew ?_ | refine blk_alloc ?_ _)); exact BK204.out⟩, ⟨by repeat (first | (with_reducible first | exact HB.out | apply below_alloc | apply pw_below_drewN | apply below_drew1 | refine below_set ?_ GE204.out) | exact HB.out)⟩⟩
  rw [if_neg c10] at H
  have c10b0 : decide (14 < a0_1) = false := decide_eq_false c10
  clear c10
  by_cases c12 : a0_4 = true
  · subst c12
    have H1 : ((sternpostref01_Check.f a0_2).bind fun t205 => (if t205 = 0 then ((sternpostref01_Check.f a0_3).bind fun t206 => (if t206 = 0 then (if a0_6 = true then (sternpostref07_Check.j0 k (decide ((l0_7.length : Int) > 4)) a0_0 a0_1 a0_2 a0_3 true a0_5 a0_6 l0_7) else (if a0_2 = 0 then (if a0_3 = 0 then (sternpostref07_Check.j0 k (decide ((l0_7.length : Int) > 4)) a0_0 a0_1 a0_2 a0_3 true a0_5 a0_6 l0_7) else (sternpostref07_Check.j0 k true a0_0 a0_1 a0_2 a0_3 true a0_5 a0_6 l0_7)) else (sternpostref07_Check.j0 k true a0_0 a0_1 a0_2 a0_3 true a0_5 a0_6 l0_7))) else (sternpostref07_Check.j0 k true a0_0 a0_1 a0_2 a0_3 true a0_5 a0_6 l0_7))) else (sternpostref07_Check.j0 k true a0_0 a0_1 a0_2 a0_3 true a0_5 a0_6 l0_7))) = some r := by rw [if_pos rfl] at H; exact H
    clear H; have H := H1; clear H1; replace H := Option.bind_eq_some_iff.mp H; obtain ⟨t205, A130, H⟩ := H; (try dsimp only at H); have A13 := Aside0.mk A130; clear A130
    by_cases c14 : t205 = 0
    rotate_left
    · rw [if_neg c14] at H
      have c14b0 : (t205 == 0) = false := beq_eq_false_iff_ne.mpr c14
      have c14b1 : (t205 != 0) = true := bne_iff_ne.mpr c14
      as_aux_lemma =>
       have H' := Aside0.mk H; clear H; have hcz25 := cf8 BK204
       go_wp2_with (first | (go_at_call 25; (with_reducible refine (sternpostref01_Check.calls a0_2 t205 _ A13.out).mono ?_); rintro e w' ⟨rfl, ⟨nd, rfl⟩⟩))
       go_meet
       case rel => exact ⟨_, (true), (by first | rfl | (simp; done) | (simp [*]; done)), H', ⟨by first | omega | exact Nat.le_refl _⟩, ⟨by (with_reducible repeat (first | refine blk_drewN ?_ _ | refine blk_drew ?_ | refine blk_alloc ?_ _)); exact BK204.out⟩, ⟨by repeat (first | (with_reducible first | exact HB.out | apply below_alloc | apply pw_below_drewN | apply below_drew1 | refine below_set ?_ GE204.out) | exact HB.out)⟩⟩
    rw [if_pos c14] at H
    have c14b0 : (t205 == 0) = true := beq_iff_eq.mpr c14
    have c14b1 : (t205 != 0) = false := bne_eq_false_iff_eq.mpr c14
    clear c14; replace H := Option.bind_eq_some_iff.mp H; obtain ⟨t206, A150, H⟩ := H; (try dsimp only at H); have A15 := Aside0.mk A150; clear A150
    by_cases c16 : t206 = 0
    rotate_left
    · rw [if_neg c16] at H
      have c16b0 : (t206 == 0) = false := beq_eq_false_iff_ne.mpr c16
      have c16b1 : (t206 != 0) = true := bne_iff_ne.mpr c16
      as_aux_lemma =>
       have H' := Aside0.mk H; clear H; have hcz24 := cf8 BK204
       go_wp2_with (first | (go_at_call 25; (with_reducible refine (sternpostref01_Check.calls a0_2 t205 _ A13.out).mono ?_); rintro e w' ⟨rfl, ⟨nd, rfl⟩⟩) | (go_at_call 25; (with_reducible refine (sternpostref01_Check.calls a0_3 t206 _ A15.out).mono ?_); rintro e w' ⟨rfl, ⟨nd, rfl⟩⟩))
       go_meet
       case rel => exact ⟨_, (true), (by first | rfl | (simp; done) | (simp [*]; done)), H', ⟨by first | omega | exact Nat.le_refl _⟩, ⟨by (with_reducible repeat (first | refine blk_drewN ?_ _ | refine blk_drew ?_ | refine blk_alloc ?_ _)); exact BK204.out⟩, ⟨by repeat (first | (with_reducible first | exact HB.out | apply below_alloc | apply pw_below_drewN | apply below_drew1 | refine below_set ?_ GE204.out) | exact HB.out)⟩⟩
    rw [if_pos c16] at H
    have c16b0 : (t206 == 0) = true := beq_iff_eq.mpr c16
    have c16b1 : (t206 != 0) = false := bne_eq_false_iff_eq.mpr c16
    clear c16
    by_cases c17 : a0_6 = true
    · subst c17
      have H1 : (sternpostref07_Check.j0 k (decide ((l0_7.length : Int) > 4)) a0_0 a0_1 a0_2 a0_3 true a0_5 true l0_7) = some r := by rw [if_pos rfl] at H; exact H
      clear H; have H := H1; clear H1
      as_aux_lemma =>
       have H' := Aside0.mk H; clear H; have hcz18 := cf8 BK204
       go_wp2_with (first | (go_at_call 25; (with_reducible refine (sternpostref01_Check.calls a0_2 t205 _ A13.out).mono ?_); rintro e w' ⟨rfl, ⟨nd, rfl⟩⟩) | (go_at_call 25; (with_reducible refine (sternpostref01_Check.calls a0_3 t206 _ A15.out).mono ?_); rintro e w' ⟨rfl, ⟨nd, rfl⟩⟩))
       go_meet
       case rel => exact ⟨_, (decide ((l0_7.length : Int) > 4)), (by first | rfl | (simp; done) | (simp [*]; done)), H', ⟨by first | omega | exact Nat.le_refl _⟩, ⟨by (with_reducible repeat (first | refine blk_drewN ?_ _ | refine blk_drew ?_ | refine blk_alloc ?_ _)); exact BK204.out⟩, ⟨by repeat (first | (with_reducible first | exact HB.out | apply below_alloc | apply pw_below_drewN | apply below_drew1 | refine below_set ?_ GE204.out) | exact HB.out)⟩⟩
    replace c17 := Bool.eq_false_iff.mpr c17; subst c17
    have H1 : (if a0_2 = 0 then (if a0_3 = 0 then (sternpostref07_Check.j0 k (decide ((l0_7.length : Int) > 4)) a0_0 a0_1 a0_2 a0_3 true a0_5 false l0_7) else (sternpostref07_Check.j0 k true a0_0 a0_1 a0_2 a0_3 true a0_5 false l0_7)) else (sternpostref07_Check.j0 k true a0_0 a0_1 a0_2 a0_3 true a0_5 false l0_7)) = some r := by rw [if_neg (show ¬ (false = true) by decide)] at H; exact H
    clear H; have H := H1; clear H1
    by_cases c19 : a0_2 = 0
    rotate_left
    · rw [if_neg c19] at H
      have c19b0 : (a0_2 == 0) = false := beq_eq_false_iff_ne.mpr c19
      have c19b1 : (a0_2 != 0) = true := bne_iff_ne.mpr c19
      as_aux_lemma =>
       have H' := Aside0.mk H; clear H; have hcz23 := cf8 BK204
       go_wp2_with (first | (go_at_call 25; (with_reducible refine (sternpostref01_Check.calls a0_2 t205 _ A13.out).mono ?_); rintro e w' ⟨rfl, ⟨nd, rfl⟩⟩) | (go_at_call 25; (with_reducible refine (sternpostref01_Check.calls a0_3 t206 _ A15.out).mono ?_); rintro e w' ⟨rfl, ⟨nd, rfl⟩⟩))
       go_meet
       case rel => exact ⟨_, (true), (by first | rfl | (simp; done) | (simp [*]; done)), H', ⟨by first | omega | exact Nat.le_refl _⟩, ⟨by (with_reducible repeat (first | refine blk_drewN ?_ _ | refine blk_drew ?_ | refine blk_alloc ?_ _)); exact BK204.out⟩, ⟨by repeat (first | (with_reducible first | exact HB.out | apply below_alloc | apply pw_below_drewN | apply below_drew1 | refine below_set ?_ GE204.out) | exact HB.out)⟩⟩
    rw [if_pos c19] at H
    have c19b0 : (a0_2 == 0) = true := beq_iff_eq.mpr c19
    have c19b1 : (a0_2 != 0) = false := bne_eq_false_iff_eq.mpr c19
    clear c19
    by_cases c20 : a0_3 = 0
    rotate_left
    · rw [if_neg c20] at H
      have c20b0 : (a0_3 == 0) = false := beq_eq_false_iff_ne.mpr c20
      have c20b1 : (a0_3 != 0) = true := bne_iff_ne.mpr c20
      as_aux_lemma =>
       have H' := Aside0.mk H; clear H; have hcz22 := cf8 BK204
       go_wp2_with (first | (go_at_call 25; (with_reducible refine (sternpostref01_Check.calls a0_2 t205 _ A13.out).mono ?_); rintro e w' ⟨rfl, ⟨nd, rfl⟩⟩) | (go_at_call 25; (with_reducible refine (sternpostref01_Check.calls a0_3 t206 _ A15.out).mono ?_); rintro e w' ⟨rfl, ⟨nd, rfl⟩⟩))
       go_meet
       case rel => exact ⟨_, (true), (by first | rfl | (simp; done) | (simp [*]; done)), H', ⟨by first | omega | exact Nat.le_refl _⟩, ⟨by (with_reducible repeat (first | refine blk_drewN ?_ _ | refine blk_drew ?_ | refine blk_alloc ?_ _)); exact BK204.out⟩, ⟨by repeat (first | (with_reducible first | exact HB.out | apply below_alloc | apply pw_below_drewN | apply below_drew1 | refine below_set ?_ GE204.out) | exact HB.out)⟩⟩
    rw [if_pos c20] at H
    have c20b0 : (a0_3 == 0) = true := beq_iff_eq.mpr c20
    have c20b1 : (a0_3 != 0) = false := bne_eq_false_iff_eq.mpr c20
    clear c20
    as_aux_lemma =>
     have H' := Aside0.mk H; clear H; have hcz21 := cf8 BK204
     go_wp2_with (first | (go_at_call 25; (with_reducible refine (sternpostref01_Check.calls a0_2 t205 _ A13.out).mono ?_); rintro e w' ⟨rfl, ⟨nd, rfl⟩⟩) | (go_at_call 25; (with_reducible refine (sternpostref01_Check.calls a0_3 t206 _ A15.out).mono ?_); rintro e w' ⟨rfl, ⟨nd, rfl⟩⟩))
     go_meet
     case rel => exact ⟨_, (decide ((l0_7.length : Int) > 4)), (by first | rfl | (simp; done) | (simp [*]; done)), H', ⟨by first | omega | exact Nat.le_refl _⟩, ⟨by (with_reducible repeat (first | refine blk_drewN ?_ _ | refine blk_drew ?_ | refine blk_alloc ?_ _)); exact BK204.out⟩, ⟨by repeat (first | (with_reducible first | exact HB.out | apply below_alloc | apply pw_below_drewN | apply below_drew1 | refine below_set ?_ GE204.out) | exact HB.out)⟩⟩
  replace c12 := Bool.eq_false_iff.mpr c12; subst c12
  have H1 : (if a0_1 = 0 then ((sternpostref01_Check.f a0_2).bind fun t207 => (if t207 = 0 then ((sternpostref01_Check.f a0_3).bind fun t208 => (if t208 = 0 then (if a0_6 = true then (sternpostref07_Check.j0 k (decide ((l0_7.length : Int) > 4)) a0_0 a0_1 a0_2 a0_3 false a0_5 a0_6 l0_7) else (if a0_2 = 0 then (if a0_3 = 0 then (sternpostref07_Check.j0 k (decide ((l0_7.length : Int) > 4)) a0_0 a0_1 a0_2 a0_3 false a0_5 a0_6 l0_7) else (sternpostref07_Check.j0 k true a0_0 a0_1 a0_2 a0_3 false a0_5 a0_6 l0_7)) else (sternpostref07_Check.j0 k true a0_0 a0_1 a0_2 a0_3 false a0_5 a0_6 l0_7))) else (sternpostref07_Check.j0 k true a0_0 a0_1 a0_2 a0_3 false a0_5 a0_6 l0_7))) else (sternpostref07_Check.j0 k true a0_0 a0_1 a0_2 a0_3 false a0_5 a0_6 l0_7))) else (sternpostref07_Check.j0 k true a0_0 a0_1 a0_2 a0_3 false a0_5 a0_6 l0_7)) = some r := by rw [if_neg (show ¬ (false = true) by decide)] at H; exact H
  clear H; have H := H1; clear H1
  by_cases c26 : a0_1 = 0
  rotate_left
  · rw [if_neg c26] at H
    have c26b0 : (a0_1 == 0) = false := beq_eq_false_iff_ne.mpr c26
    have c26b1 : (a0_1 != 0) = true := bne_iff_ne.mpr c26
    as_aux_lemma =>
     have H' := Aside0.mk H; clear H; have hcz40 := cf8 BK204
     go_wp2
     go_meet
     case rel => exact ⟨_, (true), (by first | rfl | (simp; done) | (simp [*]; done)), H', ⟨by first | omega | exact Nat.le_refl _⟩, ⟨by (with_reducible repeat (first | refine blk_drewN ?_ _ | refine blk_drew ?_ | refine blk_alloc ?_ _)); exact BK204.out⟩, ⟨by repeat (first | (with_reducible first | exact HB.out | apply below_alloc | apply pw_below_drewN | apply below_drew1 | refine below_set ?_ GE204.out) | exact HB.out)⟩⟩
  rw [if_pos c26] at H
  have c26b0 : (a0_1 == 0) = true := beq_iff_eq.mpr c26
  have c26b1 : (a0_1 != 0) = false := bne_eq_false_iff_eq.mpr c26
  clear c26; replace H := Option.bind_eq_some_iff.mp H; obtain ⟨t207, A270, H⟩ := H; (try dsimp only at H); have A27 := Aside0.mk A270; clear A270
  by_cases c28 : t207 = 0
  rotate_left
  · rw [if_neg c28] at H
    have c28b0 : (t207 == 0) = false := beq_eq_false_iff_ne.mpr c28
    have c28b1 : (t207 != 0) = true := bne_iff_ne.mpr c28
    as_aux_lemma =>
     have H' := Aside0.mk H; clear H; have hcz39 := cf8 BK204
     go_wp2_with (first | (go_at_call 25; (with_reducible refine (sternpostref01_Check.calls a0_2 t207 _ A27.out).mono ?_); rintro e w' ⟨rfl, ⟨nd, rfl⟩⟩))
     go_meet
     case rel => exact ⟨_, (true), (by first | rfl | (simp; done) | (simp [*]; done)), H', ⟨by first | omega | exact Nat.le_refl _⟩, ⟨by (with_reducible repeat (first | refine blk_drewN ?_ _ | refine blk_drew ?_ | refine blk_alloc ?_ _)); exact BK204.out⟩, ⟨by repeat (first | (with_reducible first | exact HB.out | apply below_alloc | apply pw_below_drewN | apply below_drew1 | refine below_set ?_ GE204.out) | exact HB.out)⟩⟩
  rw [if_pos c28] at H
  have c28b0 : (t207 == 0) = true := beq_iff_eq.mpr c28
  have c28b1 : (t207 != 0) = false := bne_eq_false_iff_eq.mpr c28
  clear c28; replace H := Option.bind_eq_some_iff.mp H; obtain ⟨t208, A290, H⟩ := H; (try dsimp only at H); have A29 := Aside0.mk A290; clear A290
  by_cases c30 : t208 = 0
  rotate_left
  · rw [if_neg c30] at H
    have c30b0 : (t208 == 0) = false := beq_eq_false_iff_ne.mpr c30
    have c30b1 : (t208 != 0) = true := bne_iff_ne.mpr c30
    as_aux_lemma =>
     have H' := Aside0.mk H; clear H; have hcz38 := cf8 BK204
     go_wp2_with (first | (go_at_call 25; (with_reducible refine (sternpostref01_Check.calls a0_2 t207 _ A27.out).mono ?_); rintro e w' ⟨rfl, ⟨nd, rfl⟩⟩) | (go_at_call 25; (with_reducible refine (sternpostref01_Check.calls a0_3 t208 _ A29.out).mono ?_); rintro e w' ⟨rfl, ⟨nd, rfl⟩⟩))
     go_meet
     case rel => exact ⟨_, (true), (by first | rfl | (simp; done) | (simp [*]; done)), H', ⟨by first | omega | exact Nat.le_refl _⟩, ⟨by (with_reducible repeat (first | refine blk_drewN ?_ _ | refine blk_drew ?_ | refine blk_alloc ?_ _)); exact BK204.out⟩, ⟨by repeat (first | (with_reducible first | exact HB.out | apply below_alloc | apply pw_below_drewN | apply below_drew1 | refine below_set ?_ GE204.out) | exact HB.out)⟩⟩
  rw [if_pos c30] at H
  have c30b0 : (t208 == 0) = true := beq_iff_eq.mpr c30
  have c30b1 : (t208 != 0) = false := bne_eq_false_iff_eq.mpr c30
  clear c30
  by_cases c31 : a0_6 = true
  · subst c31
    have H1 : (sternpostref07_Check.j0 k (decide ((l0_7.length : Int) > 4)) a0_0 a0_1 a0_2 a0_3 false a0_5 true l0_7) = some r := by rw [if_pos rfl] at H; exact H
    clear H; have H := H1; clear H1
    as_aux_lemma =>
     have H' := Aside0.mk H; clear H; have hcz32 := cf8 BK204
     go_wp2_with (first | (go_at_call 25; (with_reducible refine (sternpostref01_Check.calls a0_2 t207 _ A27.out).mono ?_); rintro e w' ⟨rfl, ⟨nd, rfl⟩⟩) | (go_at_call 25; (with_reducible refine (sternpostref01_Check.calls a0_3 t208 _ A29.out).mono ?_); rintro e w' ⟨rfl, ⟨nd, rfl⟩⟩))
     go_meet
     case rel => exact ⟨_, (decide ((l0_7.length : Int) > 4)), (by first | rfl | (simp; done) | (simp [*]; done)), H', ⟨by first | omega | exact Nat.le_refl _⟩, ⟨by (with_reducible repeat (first | refine blk_drewN ?_ _ | refine blk_drew ?_ | refine blk_alloc ?_ _)); exact BK204.out⟩, ⟨by repeat (first | (with_reducible first | exact HB.out | apply below_alloc | apply pw_below_drewN | apply below_drew1 | refine below_set ?_ GE204.out) | exact HB.out)⟩⟩
  replace c31 := Bool.eq_false_iff.mpr c31; subst c31
  have H1 : (if a0_2 = 0 then (if a0_3 = 0 then (sternpostref07_Check.j0 k (decide ((l0_7.length : Int) > 4)) a0_0 a0_1 a0_2 a0_3 false a0_5 false l0_7) else (sternpostref07_Check.j0 k true a0_0 a0_1 a0_2 a0_3 false a0_5 false l0_7)) else (sternpostref07_Check.j0 k true a0_0 a0_1 a0_2 a0_3 false a0_5 false l0_7)) = some r := by rw [if_neg (show ¬ (false = true) by decide)] at H; exact H
  clear H; have H := H1; clear H1
  by_cases c33 : a0_2 = 0
  rotate_left
  · rw [if_neg c33] at H
    have c33b0 : (a0_2 == 0) = false := beq_eq_false_iff_ne.mpr c33
    have c33b1 : (a0_2 != 0) = true := bne_iff_ne.mpr c33
    as_aux_lemma =>
     have H' := Aside0.mk H; clear H; have hcz37 := cf8 BK204
     go_wp2_with (first | (go_at_call 25; (with_reducible refine (sternpostref01_Check.calls a0_2 t207 _ A27.out).mono ?_); rintro e w' ⟨rfl, ⟨nd, rfl⟩⟩) | (go_at_call 25; (with_reducible refine (sternpostref01_Check.calls a0_3 t208 _ A29.out).mono ?_); rintro e w' ⟨rfl, ⟨nd, rfl⟩⟩))
     go_meet
     case rel => exact ⟨_, (true), (by first | rfl | (simp; done) | (simp [*]; done)), H', ⟨by first | omega | exact Nat.le_refl _⟩, ⟨by (with_reducible repeat (first | refine blk_drewN ?_ _ | refine blk_drew ?_ | refine blk_alloc ?_ _)); exact BK204.out⟩, ⟨by repeat (first | (with_reducible first | exact HB.out | apply below_alloc | apply pw_below_drewN | apply below_drew1 | refine below_set ?_ GE204.out) | exact HB.out)⟩⟩
  rw [if_pos c33] at H
  have c33b0 : (a0_2 == 0) = true := beq_iff_eq.mpr c33
  have c33b1 : (a0_2 != 0) = false := bne_eq_false_iff_eq.mpr c33
  clear c33
  by_cases c34 : a0_3 = 0
  rotate_left
  · rw [if_neg c34] at H
    have c34b0 : (a0_3 == 0) = false := beq_eq_false_iff_ne.mpr c34
    have c34b1 : (a0_3 != 0) = true := bne_iff_ne.mpr c34
    as_aux_lemma =>
     have H' := Aside0.mk H; clear H; have hcz36 := cf8 BK204
     go_wp2_with (first | (go_at_call 25; (with_reducible refine (sternpostref01_Check.calls a0_2 t207 _ A27.out).mono ?_); rintro e w' ⟨rfl, ⟨nd, rfl⟩⟩) | (go_at_call 25; (with_reducible refine (sternpostref01_Check.calls a0_3 t208 _ A29.out).mono ?_); rintro e w' ⟨rfl, ⟨nd, rfl⟩⟩))
     go_meet
     case rel => exact ⟨_, (true), (by first | rfl | (simp; done) | (simp [*]; done)), H', ⟨by first | omega | exact Nat.le_refl _⟩, ⟨by (with_reducible repeat (first | refine blk_drewN ?_ _ | refine blk_drew ?_ | refine blk_alloc ?_ _)); exact BK204.out⟩, ⟨by repeat (first | (with_reducible first | exact HB.out | apply below_alloc | apply pw_below_drewN | apply below_drew1 | refine below_set ?_ GE204.out) | exact HB.out)⟩⟩
  rw [if_pos c34] at H
  have c34b0 : (a0_3 == 0) = true := beq_iff_eq.mpr c34
  have c34b1 : (a0_3 != 0) = false := bne_eq_false_iff_eq.mpr c34
  clear c34
  as_aux_lemma =>
   have H' := Aside0.mk H; clear H; have hcz35 := cf8 BK204
   go_wp2_with (first | (go_at_call 25; (with_reducible refine (sternpostref01_Check.calls a0_2 t207 _ A27.out).mono ?_); rintro e w' ⟨rfl, ⟨nd, rfl⟩⟩) | (go_at_call 25; (with_reducible refine (sternpostref01_Check.calls a0_3 t208 _ A29.out).mono ?_); rintro e w' ⟨rfl, ⟨nd, rfl⟩⟩))
   go_meet
   case rel => exact ⟨_, (decide ((l0_7.length : Int) > 4)), (by first | rfl | (simp; done) | (simp [*]; done)), H', ⟨by first | omega | exact Nat.le_refl _⟩, ⟨by (with_reducible repeat (first | refine blk_drewN ?_ _ | refine blk_drew ?_ | refine blk_alloc ?_ _)); exact BK204.out⟩, ⟨by repeat (first | (with_reducible first | exact HB.out | apply below_alloc | apply pw_below_drewN | apply below_drew1 | refine below_set ?_ GE204.out) | exact HB.out)⟩⟩
 case rest =>
  clear HC2; (try clear c1); (try clear c2); (try clear p2); (try clear c3); (try clear c4); (try clear c4b0); (try clear c4b1); (try clear c6); (try clear c6b0); (try clear c8); (try clear c8b0); (try clear c10); (try clear c10b0); (try clear c12); (try clear c14); (try clear c14b0); (try clear c14b1); (try clear c16); (try clear c16b0); (try clear c16b1); (try clear c17); (try clear c19); (try clear c19b0); (try clear c19b1); (try clear c20); (try clear c20b0); (try clear c20b1); (try clear c26); (try clear c26b0); (try clear c26b1); (try clear c28); (try clear c28b0); (try clear c28b1); (try clear c29)
  (try clear c30); (try clear c30b0); (try clear c30b1); (try clear c31); (try clear c33); (try clear c33b0); (try clear c33b1); (try clear c34); (try clear c34b0); (try clear c34b1); (try clear hcz11_0); (try clear hcz11_1); (try clear hcz11_2); (try clear hcz11_3); (try clear hcz11_4); (try clear hcz11_5); (try clear hcz11_6); (try clear hcz11_7); (try clear hcz18_0); (try clear hcz18_1); (try clear hcz18_2); (try clear hcz18_3); (try clear hcz18_4); (try clear hcz18_5); (try clear hcz18_6); (try clear hcz18_7); (try clear hcz21_0); (try clear hcz21_1); (try clear hcz21_2); (try clear hcz21_3)
  (try clear hcz21_4); (try clear hcz21_5); (try clear hcz21_6); (try clear hcz21_7); (try clear hcz22_0); (try clear hcz22_1); (try clear hcz22_2); (try clear hcz22_3); (try clear hcz22_4); (try clear hcz22_5); (try clear hcz22_6); (try clear hcz22_7); (try clear hcz23_0); (try clear hcz23_1); (try clear hcz23_2); (try clear hcz23_3); (try clear hcz23_4); (try clear hcz23_5); (try clear hcz23_6); (try clear hcz23_7); (try clear hcz24_0); (try clear hcz24_1); (try clear hcz24_2); (try clear hcz24_3); (try clear hcz24_4); (try clear hcz24_5); (try clear hcz24_6); (try clear hcz24_7); (try clear hcz25_0)
  (try clear hcz25_1); (try clear hcz25_2); (try clear hcz25_3); (try clear hcz25_4); (try clear hcz25_5); (try clear hcz25_6); (try clear hcz25_7); (try clear hcz32_0); (try clear hcz32_1); (try clear hcz32_2); (try clear hcz32_3); (try clear hcz32_4); (try clear hcz32_5); (try clear hcz32_6); (try clear hcz32_7); (try clear hcz35_0); (try clear hcz35_1); (try clear hcz35_2); (try clear hcz35_3); (try clear hcz35_4); (try clear hcz35_5); (try clear hcz35_6); (try clear hcz35_7); (try clear hcz36_0); (try clear hcz36_1); (try clear hcz36_2); (try clear hcz36_3); (try clear hcz36_4); (try clear hcz36_5)
  (try clear hcz36_6); (try clear hcz36_7); (try clear hcz37_0); (try clear hcz37_1); (try clear hcz37_2); (try clear hcz37_3); (try clear hcz37_4); (try clear hcz37_5); (try clear hcz37_6); (try clear hcz37_7); (try clear hcz38_0); (try clear hcz38_1); (try clear hcz38_2); (try clear hcz38_3); (try clear hcz38_4); (try clear hcz38_5); (try clear hcz38_6); (try clear hcz38_7); (try clear hcz39_0); (try clear hcz39_1); (try clear hcz39_2); (try clear hcz39_3); (try clear hcz39_4); (try clear hcz39_5); (try clear hcz39_6); (try clear hcz39_7); (try clear hcz40_0); (try clear hcz40_1); (try clear hcz40_2)
  (try clear hcz40_3); (try clear hcz40_4); (try clear hcz40_5); (try clear hcz40_6); (try clear hcz40_7); (try clear hcz5_0); (try clear hcz5_1); (try clear hcz5_2); (try clear hcz5_3); (try clear hcz5_4); (try clear hcz5_5); (try clear hcz5_6); (try clear hcz5_7); (try clear hcz7_0); (try clear hcz7_1); (try clear hcz7_2); (try clear hcz7_3); (try clear hcz7_4); (try clear hcz7_5); (try clear hcz7_6); (try clear hcz7_7); (try clear hcz9_0); (try clear hcz9_1); (try clear hcz9_2); (try clear hcz9_3); (try clear hcz9_4); (try clear hcz9_5); (try clear hcz9_6); (try clear hcz9_7); (try clear hfz11_0)
  (try clear hfz11_1); (try clear hfz11_2); (try clear hfz11_3); (try clear hfz11_4); (try clear hfz11_5); (try clear hfz11_6); (try clear hfz11_7); (try clear hfz18_0); (try clear hfz18_1); (try clear hfz18_2); (try clear hfz18_3); (try clear hfz18_4); (try clear hfz18_5); (try clear hfz18_6); (try clear hfz18_7); (try clear hfz21_0); (try clear hfz21_1); (try clear hfz21_2); (try clear hfz21_3); (try clear hfz21_4); (try clear hfz21_5); (try clear hfz21_6); (try clear hfz21_7); (try clear hfz22_0); (try clear hfz22_1); (try clear hfz22_2); (try clear hfz22_3); (try clear hfz22_4); (try clear hfz22_5)
  (try clear hfz22_6); (try clear hfz22_7); (try clear hfz23_0); (try clear hfz23_1); (try clear hfz23_2); (try clear hfz23_3); (try clear hfz23_4); (try clear hfz23_5); (try clear hfz23_6); (try clear hfz23_7); (try clear hfz24_0); (try clear hfz24_1); (try clear hfz24_2); (try clear hfz24_3); (try clear hfz24_4); (try clear hfz24_5); (try clear hfz24_6); (try clear hfz24_7); (try clear hfz25_0); (try clear hfz25_1); (try clear hfz25_2); (try clear hfz25_3); (try clear hfz25_4); (try clear hfz25_5); (try clear hfz25_6); (try clear hfz25_7); (try clear hfz32_0); (try clear hfz32_1); (try clear hfz32_2)
  (try clear hfz32_3); (try clear hfz32_4); (try clear hfz32_5); (try clear hfz32_6); (try clear hfz32_7); (try clear hfz35_0); (try clear hfz35_1); (try clear hfz35_2); (try clear hfz35_3); (try clear hfz35_4); (try clear hfz35_5); (try clear hfz35_6); (try clear hfz35_7); (try clear hfz36_0); (try clear hfz36_1); (try clear hfz36_2); (try clear hfz36_3); (try clear hfz36_4); (try clear hfz36_5); (try clear hfz36_6); (try clear hfz36_7); (try clear hfz37_0); (try clear hfz37_1); (try clear hfz37_2); (try clear hfz37_3); (try clear hfz37_4); (try clear hfz37_5); (try clear hfz37_6); (try clear hfz37_7)
  (try clear hfz38_0); (try clear hfz38_1); (try clear hfz38_2); (try clear hfz38_3); (try clear hfz38_4); (try clear hfz38_5); (try clear hfz38_6); (try clear hfz38_7); (try clear hfz39_0); (try clear hfz39_1); (try clear hfz39_2); (try clear hfz39_3); (try clear hfz39_4); (try clear hfz39_5); (try clear hfz39_6); (try clear hfz39_7); (try clear hfz40_0); (try clear hfz40_1); (try clear hfz40_2); (try clear hfz40_3); (try clear hfz40_4); (try clear hfz40_5); (try clear hfz40_6); (try clear hfz40_7); (try clear hfz5_0); (try clear hfz5_1); (try clear hfz5_2); (try clear hfz5_3); (try clear hfz5_4)
  (try clear hfz5_5); (try clear hfz5_6); (try clear hfz5_7); (try clear hfz7_0); (try clear hfz7_1); (try clear hfz7_2); (try clear hfz7_3); (try clear hfz7_4); (try clear hfz7_5); (try clear hfz7_6); (try clear hfz7_7); (try clear hfz9_0); (try clear hfz9_1); (try clear hfz9_2); (try clear hfz9_3); (try clear hfz9_4); (try clear hfz9_5); (try clear hfz9_6); (try clear hfz9_7)
  obtain ⟨kq, x65_1, rfl, HA, HJ1, BK204, HB⟩ := hcut
  cases kq with
  | zero => exact absurd HA.out (by simp [sternpostref07_Check.j0])
  | succ kj1 =>
   have H := HA.out
   clear HA
   simp only [sternpostref07_Check.j0] at H
   by_cases c41 : x65_1 = true
   · subst c41
     have H1 : (some 70) = some r := by rw [if_pos rfl] at H; exact H
     clear H; have H := H1; clear H1
     as_aux_lemma =>
      obtain rfl := Option.some.inj H
      go_wp2
      go_ret
      exact ⟨ra_, (be1_ HB GE204)⟩
   replace c41 := Bool.eq_false_iff.mpr c41; subst c41
   have H1 : (sternpostref07_Check.l0 kj1 0 a0_0 a0_1 a0_2 a0_3 a0_4 a0_5 a0_6 l0_7) = some r := by rw [if_neg (show ¬ (false = true) by decide)] at H; exact H
   clear H; have H := H1; clear H1; have H' := Aside0.mk H; clear H
   go_wp2
   go_loopg [3] kj1 (fun kq v3 w' => ∃ (x3_2 : Int), v3 = .int .i64 x3_2 ∧ Aside0 (sternpostref07_Check.l0 kq x3_2 a0_0 a0_1 a0_2 a0_3 a0_4 a0_5 a0_6 l0_7 = some r) ∧ Aside0 (kq ≤ kj1) ∧ Aside0 (w'.heap[gb204]? = some (.cells #[.int .i64 a0_0, .int .i64 a0_1, .int .i64 a0_2, .int .i64 a0_3, .bool a0_4, .bool a0_5, .bool a0_6, (.slice A0_7 l0_7.length c0_7)] 26 (0, 0))) ∧ Aside0 (Below w.heap.size w w'))
   case atStart => exact ⟨(0), (by first | rfl | (simp; done) | (simp [*]; done)), H', ⟨Nat.le_refl _⟩, ⟨by (with_reducible repeat (first | refine blk_drewN ?_ _ | refine blk_drew ?_ | refine blk_alloc ?_ _)); exact BK204.out⟩, ⟨by repeat (first | (with_reducible first | exact HB.out | apply below_alloc | apply pw_below_drewN | apply below_drew1 | refine below_set ?_ GE204.out) | exact HB.out)⟩⟩
   case round =>
    clear H'
    (try clear c1); (try clear c2); (try clear p2); (try clear c3); (try clear c4); (try clear c4b0); (try clear c4b1); (try clear c6); (try clear c6b0); (try clear c8); (try clear c8b0); (try clear c10); (try clear c10b0); (try clear c12); (try clear c14); (try clear c14b0); (try clear c14b1); (try clear c16); (try clear c16b0); (try clear c16b1); (try clear c17); (try clear c19); (try clear c19b0); (try clear c19b1); (try clear c20); (try clear c20b0); (try clear c20b1); (try clear c26); (try clear c26b0); (try clear c26b1); (try clear c28); (try clear c28b0); (try clear c28b1); (try clear c29); (try clear c30)
    (try clear c30b0); (try clear c30b1); (try clear c31); (try clear c33); (try clear c33b0); (try clear c33b1); (try clear c34); (try clear c34b0); (try clear c34b1); (try clear c41); (try clear hcz11_0); (try clear hcz11_1); (try clear hcz11_2); (try clear hcz11_3); (try clear hcz11_4); (try clear hcz11_5); (try clear hcz11_6); (try clear hcz11_7); (try clear hcz18_0); (try clear hcz18_1); (try clear hcz18_2); (try clear hcz18_3); (try clear hcz18_4); (try clear hcz18_5); (try clear hcz18_6); (try clear hcz18_7); (try clear hcz21_0); (try clear hcz21_1); (try clear hcz21_2); (try clear hcz21_3)
    (try clear hcz21_4); (try clear hcz21_5); (try clear hcz21_6); (try clear hcz21_7); (try clear hcz22_0); (try clear hcz22_1); (try clear hcz22_2); (try clear hcz22_3); (try clear hcz22_4); (try clear hcz22_5); (try clear hcz22_6); (try clear hcz22_7); (try clear hcz23_0); (try clear hcz23_1); (try clear hcz23_2); (try clear hcz23_3); (try clear hcz23_4); (try clear hcz23_5); (try clear hcz23_6); (try clear hcz23_7); (try clear hcz24_0); (try clear hcz24_1); (try clear hcz24_2); (try clear hcz24_3); (try clear hcz24_4); (try clear hcz24_5); (try clear hcz24_6); (try clear hcz24_7); (try clear hcz25_0)
    (try clear hcz25_1); (try clear hcz25_2); (try clear hcz25_3); (try clear hcz25_4); (try clear hcz25_5); (try clear hcz25_6); (try clear hcz25_7); (try clear hcz32_0); (try clear hcz32_1); (try clear hcz32_2); (try clear hcz32_3); (try clear hcz32_4); (try clear hcz32_5); (try clear hcz32_6); (try clear hcz32_7); (try clear hcz35_0); (try clear hcz35_1); (try clear hcz35_2); (try clear hcz35_3); (try clear hcz35_4); (try clear hcz35_5); (try clear hcz35_6); (try clear hcz35_7); (try clear hcz36_0); (try clear hcz36_1); (try clear hcz36_2); (try clear hcz36_3); (try clear hcz36_4); (try clear hcz36_5)
    (try clear hcz36_6); (try clear hcz36_7); (try clear hcz37_0); (try clear hcz37_1); (try clear hcz37_2); (try clear hcz37_3); (try clear hcz37_4); (try clear hcz37_5); (try clear hcz37_6); (try clear hcz37_7); (try clear hcz38_0); (try clear hcz38_1); (try clear hcz38_2); (try clear hcz38_3); (try clear hcz38_4); (try clear hcz38_5); (try clear hcz38_6); (try clear hcz38_7); (try clear hcz39_0); (try clear hcz39_1); (try clear hcz39_2); (try clear hcz39_3); (try clear hcz39_4); (try clear hcz39_5); (try clear hcz39_6); (try clear hcz39_7); (try clear hcz40_0); (try clear hcz40_1); (try clear hcz40_2)
    (try clear hcz40_3); (try clear hcz40_4); (try clear hcz40_5); (try clear hcz40_6); (try clear hcz40_7); (try clear hcz5_0); (try clear hcz5_1); (try clear hcz5_2); (try clear hcz5_3); (try clear hcz5_4); (try clear hcz5_5); (try clear hcz5_6); (try clear hcz5_7); (try clear hcz7_0); (try clear hcz7_1); (try clear hcz7_2); (try clear hcz7_3); (try clear hcz7_4); (try clear hcz7_5); (try clear hcz7_6); (try clear hcz7_7); (try clear hcz9_0); (try clear hcz9_1); (try clear hcz9_2); (try clear hcz9_3); (try clear hcz9_4); (try clear hcz9_5); (try clear hcz9_6); (try clear hcz9_7); (try clear hfz11_0)
    (try clear hfz11_1); (try clear hfz11_2); (try clear hfz11_3); (try clear hfz11_4); (try clear hfz11_5); (try clear hfz11_6); (try clear hfz11_7); (try clear hfz18_0); (try clear hfz18_1); (try clear hfz18_2); (try clear hfz18_3); (try clear hfz18_4); (try clear hfz18_5); (try clear hfz18_6); (try clear hfz18_7); (try clear hfz21_0); (try clear hfz21_1); (try clear hfz21_2); (try clear hfz21_3); (try clear hfz21_4); (try clear hfz21_5); (try clear hfz21_6); (try clear hfz21_7); (try clear hfz22_0); (try clear hfz22_1); (try clear hfz22_2); (try clear hfz22_3); (try clear hfz22_4); (try clear hfz22_5)
    (try clear hfz22_6); (try clear hfz22_7); (try clear hfz23_0); (try clear hfz23_1); (try clear hfz23_2); (try clear hfz23_3); (try clear hfz23_4); (try clear hfz23_5); (try clear hfz23_6); (try clear hfz23_7); (try clear hfz24_0); (try clear hfz24_1); (try clear hfz24_2); (try clear hfz24_3); (try clear hfz24_4); (try clear hfz24_5); (try clear hfz24_6); (try clear hfz24_7); (try clear hfz25_0); (try clear hfz25_1); (try clear hfz25_2); (try clear hfz25_3); (try clear hfz25_4); (try clear hfz25_5); (try clear hfz25_6); (try clear hfz25_7); (try clear hfz32_0); (try clear hfz32_1); (try clear hfz32_2)
    (try clear hfz32_3); (try clear hfz32_4); (try clear hfz32_5); (try clear hfz32_6); (try clear hfz32_7); (try clear hfz35_0); (try clear hfz35_1); (try clear hfz35_2); (try clear hfz35_3); (try clear hfz35_4); (try clear hfz35_5); (try clear hfz35_6); (try clear hfz35_7); (try clear hfz36_0); (try clear hfz36_1); (try clear hfz36_2); (try clear hfz36_3); (try clear hfz36_4); (try clear hfz36_5); (try clear hfz36_6); (try clear hfz36_7); (try clear hfz37_0); (try clear hfz37_1); (try clear hfz37_2); (try clear hfz37_3); (try clear hfz37_4); (try clear hfz37_5); (try clear hfz37_6); (try clear hfz37_7)
    (try clear hfz38_0); (try clear hfz38_1); (try clear hfz38_2); (try clear hfz38_3); (try clear hfz38_4); (try clear hfz38_5); (try clear hfz38_6); (try clear hfz38_7); (try clear hfz39_0); (try clear hfz39_1); (try clear hfz39_2); (try clear hfz39_3); (try clear hfz39_4); (try clear hfz39_5); (try clear hfz39_6); (try clear hfz39_7); (try clear hfz40_0); (try clear hfz40_1); (try clear hfz40_2); (try clear hfz40_3); (try clear hfz40_4); (try clear hfz40_5); (try clear hfz40_6); (try clear hfz40_7); (try clear hfz5_0); (try clear hfz5_1); (try clear hfz5_2); (try clear hfz5_3); (try clear hfz5_4)
    (try clear hfz5_5); (try clear hfz5_6); (try clear hfz5_7); (try clear hfz7_0); (try clear hfz7_1); (try clear hfz7_2); (try clear hfz7_3); (try clear hfz7_4); (try clear hfz7_5); (try clear hfz7_6); (try clear hfz7_7); (try clear hfz9_0); (try clear hfz9_1); (try clear hfz9_2); (try clear hfz9_3); (try clear hfz9_4); (try clear hfz9_5); (try clear hfz9_6); (try clear hfz9_7); (try clear p2)
    obtain ⟨x3_2, rfl, HA, HK2, BK204, HB⟩ := hrel
    cases gk with
    | zero => exact absurd HA.out (by simp [sternpostref07_Check.l0])
    | succ k2 =>
     have H := HA.out
     clear HA
     simp only [sternpostref07_Check.l0] at H
     by_cases c42 : x3_2 < (l0_7.length : Int)
     rotate_left
     · rw [if_neg c42] at H
       have c42b0 : decide (x3_2 < (l0_7.length : Int)) = false := decide_eq_false c42
       clear c42; replace H := Option.bind_eq_some_iff.mp H; obtain ⟨t209, A650, H⟩ := H; (try dsimp only at H); have A65 := Aside0.mk A650; clear A650
       by_cases c66 : (t209.size : Int) > 40
       · rw [if_pos c66] at H
         have c66b0 : decide (40 < (t209.size : Int)) = true := decide_eq_true c66
         have c66b1 : decide (40 < t209.size) = true := decide_eq_true (by omega)
         clear c66
         as_aux_lemma =>
          obtain rfl := Option.some.inj H; have hcz67 := cf8 BK204
          go_wp2_with (first | ((with_reducible refine gate_callee (f := 44) rfl ?_); refine goesL_ (some 96) rfl rfl Try.func44 (by kernel_rfl) rfl #[.agg #[.int .i64 a0_0, .int .i64 a0_1, .int .i64 a0_2, .int .i64 a0_3, .bool a0_4, .bool a0_5, .bool a0_6, .slice A0_7 l0_7.length c0_7]] rfl ga_ ?_; (with_reducible refine (sternpostref07_Bytes.calls k2 a0_0 a0_1 a0_2 a0_3 a0_4 a0_5 a0_6 _ _ l0_7 t209 _ ?side1 ?side2 A65.out).mono ?_); (case side1 => exact cb_ HR0_7 HB); (case side2 => exact HC0_7.out); rintro e w68 ⟨rfl, hb⟩; refine ⟨_, rfl, ?_⟩; replace BK204 := kb_ BK204 hb; replace HB := bs1_ HB GE204 hb; (try clear hb)))
          go_ret
          exact ⟨ra_, (be1_ HB GE204)⟩
       rw [if_neg c66] at H
       have c66b0 : decide (40 < (t209.size : Int)) = false := decide_eq_false c66
       have c66b1 : decide (40 < t209.size) = false := decide_eq_false (by omega)
       clear c66
       as_aux_lemma =>
        obtain rfl := Option.some.inj H; have hcz69 := cf8 BK204
        go_wp2_with (first | ((with_reducible refine gate_callee (f := 44) rfl ?_); refine goesL_ (some 96) rfl rfl Try.func44 (by kernel_rfl) rfl #[.agg #[.int .i64 a0_0, .int .i64 a0_1, .int .i64 a0_2, .int .i64 a0_3, .bool a0_4, .bool a0_5, .bool a0_6, .slice A0_7 l0_7.length c0_7]] rfl ga_ ?_; (with_reducible refine (sternpostref07_Bytes.calls k2 a0_0 a0_1 a0_2 a0_3 a0_4 a0_5 a0_6 _ _ l0_7 t209 _ ?side1 ?side2 A65.out).mono ?_); (case side1 => exact cb_ HR0_7 HB); (case side2 => exact HC0_7.out); rintro e w70 ⟨rfl, hb⟩; refine ⟨_, rfl, ?_⟩; replace BK204 := kb_ BK204 hb; replace HB := bs1_ HB GE204 hb; (try clear hb)))
        go_ret
        exact ⟨ra_, (be1_ HB GE204)⟩
     rw [if_pos c42] at H
     have c42b0 : decide (x3_2 < (l0_7.length : Int)) = true := decide_eq_true c42
     clear c42
     by_cases c43 : 0 ≤ x3_2
     rotate_left
     · rw [if_neg c43] at H
       exact absurd H (by simp)
     rw [if_pos c43] at H
     have c43b0 : decide (0 ≤ x3_2) = true := decide_eq_true c43
     clear c43; replace H := Option.bind_eq_some_iff.mp H; obtain ⟨t212, A440, H⟩ := H; (try dsimp only at H); have A44 := Aside0.mk A440; clear A440
     by_cases c45 : t212 = 0
     rotate_left
     · rw [if_neg c45] at H
       have c45b0 : (t212 == 0) = false := beq_eq_false_iff_ne.mpr c45
       have c45b1 : (t212 != 0) = true := bne_iff_ne.mpr c45
       as_aux_lemma =>
        obtain rfl := Option.some.inj H; have hcz61 := cf8 BK204
        have p210 : 0 ≤ (x3_2 : Int) := of_decide_eq_true (by first | (with_reducible assumption) | assumption)
        have q210 : x3_2 < (l0_7.length : Int) := of_decide_eq_true (by first | (with_reducible assumption) | assumption)
        obtain ⟨ad210, e210, hx210_0, hx210_1⟩ := at_T68 HR0_7.out x3_2 p210 q210
        cases e210
        replace hx210_0 := (HB.out.cell (World.block_lt_of_cell? w _ hx210_0)).trans hx210_0
        replace hx210_1 := (HB.out.cell (World.block_lt_of_cell? w _ hx210_1)).trans hx210_1
        replace p210 := eq_true p210; replace q210 := eq_true q210
        go_wp2_with (first | ((with_reducible refine gate_dst (N := 4) rfl ?_); (try (refine gate_guard (by rfl) ?_; dsimp only)); refine box_event ?hg (N := 4) ?hd (cs := #[.int .i64 0, .int .i64 0]) (t := 68) ?hr ?_; (case hd => rfl); (case hg => rfl); (case hr => go_simp; first | done | (simp only [IntKind.wrap_u8]; done) | rfl); intro gb211 hg w62 hbox hb; have BK211 := Aside0.mk (hbox); have GW211 := gz_ (be1_ HB GE204) hg; have GE211 := gz_ (be1_ HB GE204) hg; replace HB := bs1_ HB GE204 hb; have NB204_211 := nl_ (bk_ BK204) hg; have NB211_204 := ng_ (bk_ BK204) hg; replace BK204 := kb_ BK204 hb; clear hb hbox hg; have hnb63 := NB211_204.out; have hnc63 := NB204_211.out; have hcz64 := cf2 BK211) | ((with_reducible refine gate_callee (f := 25) rfl ?_); refine goesL_ (some 80) rfl rfl Try.func25 (by kernel_rfl) rfl #[.int .i64 ((rd_T68 l0_7 x3_2).f0)] rfl ga_ ?_; (with_reducible refine (sternpostref01_Check.calls ((rd_T68 l0_7 x3_2).f0) t212 _ A44.out).mono ?_); rintro e w' ⟨rfl, ⟨nd, rfl⟩⟩; refine ⟨_, rfl, ?_⟩))
        go_ret
        exact ⟨ra_, (be2_ HB GE204 GE211)⟩
     rw [if_pos c45] at H
     have c45b0 : (t212 == 0) = true := beq_iff_eq.mpr c45
     have c45b1 : (t212 != 0) = false := bne_eq_false_iff_eq.mpr c45
     clear c45; replace H := Option.bind_eq_some_iff.mp H; obtain ⟨t213, A460, H⟩ := H; (try dsimp only at H); have A46 := Aside0.mk A460; clear A460
     by_cases c47 : t213 = 0
     rotate_left
     · rw [if_neg c47] at H
       have c47b0 : (t213 == 0) = false := beq_eq_false_iff_ne.mpr c47
       have c47b1 : (t213 != 0) = true := bne_iff_ne.mpr c47
       as_aux_lemma =>
        obtain rfl := Option.some.inj H; have hcz57 := cf8 BK204
        have p210 : 0 ≤ (x3_2 : Int) := of_decide_eq_true (by first | (with_reducible assumption) | assumption)
        have q210 : x3_2 < (l0_7.length : Int) := of_decide_eq_true (by first | (with_reducible assumption) | assumption)
        obtain ⟨ad210, e210, hx210_0, hx210_1⟩ := at_T68 HR0_7.out x3_2 p210 q210
        cases e210
        replace hx210_0 := (HB.out.cell (World.block_lt_of_cell? w _ hx210_0)).trans hx210_0
        replace hx210_1 := (HB.out.cell (World.block_lt_of_cell? w _ hx210_1)).trans hx210_1
        replace p210 := eq_true p210; replace q210 := eq_true q210
        go_wp2_with (first | ((with_reducible refine gate_dst (N := 4) rfl ?_); (try (refine gate_guard (by rfl) ?_; dsimp only)); refine box_event ?hg (N := 4) ?hd (cs := #[.int .i64 0, .int .i64 0]) (t := 68) ?hr ?_; (case hd => rfl); (case hg => rfl); (case hr => go_simp; first | done | (simp only [IntKind.wrap_u8]; done) | rfl); intro gb211 hg w58 hbox hb; have BK211 := Aside0.mk (hbox); have GW211 := gz_ (be1_ HB GE204) hg; have GE211 := gz_ (be1_ HB GE204) hg; replace HB := bs1_ HB GE204 hb; have NB204_211 := nl_ (bk_ BK204) hg; have NB211_204 := ng_ (bk_ BK204) hg; replace BK204 := kb_ BK204 hb; clear hb hbox hg; have hnb59 := NB211_204.out; have hnc59 := NB204_211.out; have hcz60 := cf2 BK211) | ((with_reducible refine gate_callee (f := 25) rfl ?_); refine goesL_ (some 80) rfl rfl Try.func25 (by kernel_rfl) rfl #[.int .i64 ((rd_T68 l0_7 x3_2).f0)] rfl ga_ ?_; (with_reducible refine (sternpostref01_Check.calls ((rd_T68 l0_7 x3_2).f0) t212 _ A44.out).mono ?_); rintro e w' ⟨rfl, ⟨nd, rfl⟩⟩; refine ⟨_, rfl, ?_⟩) | (go_at_call 25; (with_reducible refine (sternpostref01_Check.calls ((rd_T68 l0_7 x3_2).f1) t213 _ A46.out).mono ?_); rintro e w' ⟨rfl, ⟨nd, rfl⟩⟩))
        go_ret
        exact ⟨ra_, (be2_ HB GE204 GE211)⟩
     rw [if_pos c47] at H
     have c47b0 : (t213 == 0) = true := beq_iff_eq.mpr c47
     have c47b1 : (t213 != 0) = false := bne_eq_false_iff_eq.mpr c47
     clear c47
     by_cases c48 : ((rd_T68 l0_7 x3_2).f0) = ((rd_T68 l0_7 x3_2).f1)
     · rw [if_pos c48] at H
       have c48b0 : (((rd_T68 l0_7 x3_2).f0) == ((rd_T68 l0_7 x3_2).f1)) = true := beq_iff_eq.mpr c48
       have c48b1 : (((rd_T68 l0_7 x3_2).f0) != ((rd_T68 l0_7 x3_2).f1)) = false := bne_eq_false_iff_eq.mpr c48
       clear c48
       as_aux_lemma =>
        obtain rfl := Option.some.inj H; have hcz49 := cf8 BK204
        have p210 : 0 ≤ (x3_2 : Int) := of_decide_eq_true (by first | (with_reducible assumption) | assumption)
        have q210 : x3_2 < (l0_7.length : Int) := of_decide_eq_true (by first | (with_reducible assumption) | assumption)
        obtain ⟨ad210, e210, hx210_0, hx210_1⟩ := at_T68 HR0_7.out x3_2 p210 q210
        cases e210
        replace hx210_0 := (HB.out.cell (World.block_lt_of_cell? w _ hx210_0)).trans hx210_0
        replace hx210_1 := (HB.out.cell (World.block_lt_of_cell? w _ hx210_1)).trans hx210_1
        replace p210 := eq_true p210; replace q210 := eq_true q210
        go_wp2_with (first | ((with_reducible refine gate_dst (N := 4) rfl ?_); (try (refine gate_guard (by rfl) ?_; dsimp only)); refine box_event ?hg (N := 4) ?hd (cs := #[.int .i64 0, .int .i64 0]) (t := 68) ?hr ?_; (case hd => rfl); (case hg => rfl); (case hr => go_simp; first | done | (simp only [IntKind.wrap_u8]; done) | rfl); intro gb211 hg w50 hbox hb; have BK211 := Aside0.mk (hbox); have GW211 := gz_ (be1_ HB GE204) hg; have GE211 := gz_ (be1_ HB GE204) hg; replace HB := bs1_ HB GE204 hb; have NB204_211 := nl_ (bk_ BK204) hg; have NB211_204 := ng_ (bk_ BK204) hg; replace BK204 := kb_ BK204 hb; clear hb hbox hg; have hnb51 := NB211_204.out; have hnc51 := NB204_211.out; have hcz52 := cf2 BK211) | ((with_reducible refine gate_callee (f := 25) rfl ?_); refine goesL_ (some 80) rfl rfl Try.func25 (by kernel_rfl) rfl #[.int .i64 ((rd_T68 l0_7 x3_2).f0)] rfl ga_ ?_; (with_reducible refine (sternpostref01_Check.calls ((rd_T68 l0_7 x3_2).f0) t212 _ A44.out).mono ?_); rintro e w' ⟨rfl, ⟨nd, rfl⟩⟩; refine ⟨_, rfl, ?_⟩) | (go_at_call 25; (with_reducible refine (sternpostref01_Check.calls ((rd_T68 l0_7 x3_2).f1) t213 _ A46.out).mono ?_); rintro e w' ⟨rfl, ⟨nd, rfl⟩⟩))
        go_ret
        exact ⟨ra_, (be2_ HB GE204 GE211)⟩
     rw [if_neg c48] at H
     have c48b0 : (((rd_T68 l0_7 x3_2).f0) == ((rd_T68 l0_7 x3_2).f1)) = false := beq_eq_false_iff_ne.mpr c48
     have c48b1 : (((rd_T68 l0_7 x3_2).f0) != ((rd_T68 l0_7 x3_2).f1)) = true := bne_iff_ne.mpr c48
     as_aux_lemma =>
      have H' := Aside0.mk H; clear H; have hcz53 := cf8 BK204
      have p210 : 0 ≤ (x3_2 : Int) := of_decide_eq_true (by first | (with_reducible assumption) | assumption)
      have q210 : x3_2 < (l0_7.length : Int) := of_decide_eq_true (by first | (with_reducible assumption) | assumption)
      obtain ⟨ad210, e210, hx210_0, hx210_1⟩ := at_T68 HR0_7.out x3_2 p210 q210
      cases e210
      replace hx210_0 := (HB.out.cell (World.block_lt_of_cell? w _ hx210_0)).trans hx210_0
      replace hx210_1 := (HB.out.cell (World.block_lt_of_cell? w _ hx210_1)).trans hx210_1
      replace p210 := eq_true p210; replace q210 := eq_true q210
      go_wp2_with (first | ((with_reducible refine gate_dst (N := 4) rfl ?_); (try (refine gate_guard (by rfl) ?_; dsimp only)); refine box_event ?hg (N := 4) ?hd (cs := #[.int .i64 0, .int .i64 0]) (t := 68) ?hr ?_; (case hd => rfl); (case hg => rfl); (case hr => go_simp; first | done | (simp only [IntKind.wrap_u8]; done) | rfl); intro gb211 hg w54 hbox hb; have BK211 := Aside0.mk (hbox); have GW211 := gz_ (be1_ HB GE204) hg; have GE211 := gz_ (be1_ HB GE204) hg; replace HB := bs1_ HB GE204 hb; have NB204_211 := nl_ (bk_ BK204) hg; have NB211_204 := ng_ (bk_ BK204) hg; replace BK204 := kb_ BK204 hb; clear hb hbox hg; have hnb55 := NB211_204.out; have hnc55 := NB204_211.out; have hcz56 := cf2 BK211) | ((with_reducible refine gate_callee (f := 25) rfl ?_); refine goesL_ (some 80) rfl rfl Try.func25 (by kernel_rfl) rfl #[.int .i64 ((rd_T68 l0_7 x3_2).f0)] rfl ga_ ?_; (with_reducible refine (sternpostref01_Check.calls ((rd_T68 l0_7 x3_2).f0) t212 _ A44.out).mono ?_); rintro e w' ⟨rfl, ⟨nd, rfl⟩⟩; refine ⟨_, rfl, ?_⟩) | (go_at_call 25; (with_reducible refine (sternpostref01_Check.calls ((rd_T68 l0_7 x3_2).f1) t213 _ A46.out).mono ?_); rintro e w' ⟨rfl, ⟨nd, rfl⟩⟩))
      go_roundg k2
      case measure => have := HJ1.out; have := HK2.out; omega
      case rel => exact ⟨(wrap64 (x3_2 + 1)), (by first | rfl | (simp; done) | (simp [*]; done)), H', ⟨by have := HJ1.out; have := HK2.out; omega⟩, ⟨by (with_reducible repeat (first | refine blk_drewN ?_ _ | refine blk_drew ?_ | refine blk_alloc ?_ _)); refine blk_far ?_ NB204_211.out _; (with_reducible repeat (first | refine blk_drewN ?_ _ | refine blk_drew ?_ | refine blk_alloc ?_ _)); refine blk_far ?_ NB204_211.out _; (with_reducible repeat (first | refine blk_drewN ?_ _ | refine blk_drew ?_ | refine blk_alloc ?_ _)); exact BK204.out⟩, ⟨by repeat (first | (with_reducible first | exact HB.out | apply below_alloc | apply pw_below_drewN | apply below_drew1 | refine below_set ?_ GE204.out | refine below_set ?_ GE211.out) | exact HB.out)⟩⟩

end Go.Proofs.Ytnhoadmgoaenpaa.PSegWrites
