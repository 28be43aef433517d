-- Laid by a program of this session (the print, changed: wip/pp.py). Not trusted: Lean checks it.
import Derived.Test.YtnhoadmgoaenpaaPSegWritesx0
import Derived.Test.YtnhoadmgoaenpaaPSegWritesx7
import Derived.Test.YtnhoadmgoaenpaaPSegWritesx11
namespace Go.Proofs.Ytnhoadmgoaenpaa.PSegWrites
open Go.RowKit Go.Proofs.YtnhoadmgoaenpaaW.PrintWords Go.Proofs.YtnhoadmgoaenpaaW.PrintLast Go.Proofs.YtnhoadmgoaenpaaW.PrintMore
attribute [local go_sem] max2_int min2_int max_two min_two max_three min_three max_four min_four max_five min_five max_six min_six max_seven min_seven   -- for this text's walks alone
set_option linter.unusedVariables false
set_option linter.unusedSimpArgs false

/-! ### sternpostref08_Check: function 9 -/
def sternpostref08_Check.l0 : Nat → List Int → Int → Int → Int → Int → Int → Int → Int → Int → Int → Int → Int → Int → Bool → Bool → Bool → List (S68) → ByteArray → Option (Int)
 | 0, _, _, _, _, _, _, _, _, _, _, _, _, _, _, _, _, _, _ => none
 | k + 1, x3, x4, x215000, x215001, x215002, x215003, x215004, x215005, x215006, x215007, x215008, x215009, x215010, x215011, x215012, x215013, x215014, x215015 => if x4 < (x3.length : Int) then (if 0 ≤ x4 then (if (rd x3 x4) < 0 then (some 80) else (if (rd x3 x4) > 65535 then (some 80) else (sternpostref08_Check.l0 k x3 (wrap64 (x4 + 1)) x215000 x215001 x215002 x215003 x215004 x215005 x215006 x215007 x215008 x215009 x215010 x215011 x215012 x215013 x215014 x215015))) else (none)) else ((sternpostref01_Check.f x215002).bind fun t220 => (if t220 = 0 then ((sternpostref01_Check.f x215003).bind fun t221 => (if t221 = 0 then (if x215004 < 0 then (some 80) else (if x215004 > 63 then (some 80) else ((sternpostref08_Has.f x215000 x215001 x215002 x215003 x215004 x215005 x215006 x215007 x215008 x215009 x215010 x215011 x215012 x215013 x215014 x215015 16).bind fun t222 => (if t222 = true then ((sternpostref08_Has.f x215000 x215001 x215002 x215003 x215004 x215005 x215006 x215007 x215008 x215009 x215010 x215011 x215012 x215013 x215014 x215015 32).bind fun t223 => (if t223 = true then ((sternpostref07_Check.f k x215007 x215008 x215009 x215010 x215011 x215012 x215013 x215014).bind fun t224 => (if t224 = 0 then (if (x215015.size : Int) > 1480 then (some 80) else (some 0)) else (some 80))) else (if x215006 = 0 then ((sternpostref07_Check.f k x215007 x215008 x215009 x215010 x215011 x215012 x215013 x215014).bind fun t225 => (if t225 = 0 then (if (x215015.size : Int) > 1480 then (some 80) else (some 0)) else (some 80))) else (some 80)))) else (if x215003 = 0 then ((sternpostref08_Has.f x215000 x215001 x215002 x215003 x215004 x215005 x215006 x215007 x215008 x215009 x215010 x215011 x215012 x215013 x215014 x215015 32).bind fun t226 => (if t226 = true then ((sternpostref07_Check.f k x215007 x215008 x215009 x215010 x215011 x215012 x215013 x215014).bind fun t227 => (if t227 = 0 then (if (x215015.size : Int) > 1480 then (some 80) else (some 0)) else (some 80))) else (if x215006 = 0 then ((sternpostref07_Check.f k x215007 x215008 x215009 x215010 x215011 x215012 x215013 x215014).bind fun t228 => (if t228 = 0 then (if (x215015.size : Int) > 1480 then (some 80) else (some 0)) else (some 80))) else (some 80)))) else (some 80)))))) else (some 80))) else (some 80)))
def sternpostref08_Check.f (k : Nat) (a0_0 : Int) (a0_1 : Int) (a0_2 : Int) (a0_3 : Int) (a0_4 : Int) (a0_5 : Int) (a0_6 : Int) (a0_7 : Int) (a0_8 : Int) (a0_9 : Int) (a0_10 : Int) (a0_11 : Bool) (a0_12 : Bool) (a0_13 : Bool) (l0_14 : List (S68)) (a0_15 : ByteArray) : Option (Int) := sternpostref08_Check.l0 k (([a0_0, a0_1, a0_5, a0_6] : List Int)) 0 a0_0 a0_1 a0_2 a0_3 a0_4 a0_5 a0_6 a0_7 a0_8 a0_9 a0_10 a0_11 a0_12 a0_13 l0_14 a0_15
theorem sternpostref08_Check.mono_l : ∀ k, (∀ y0 y1 y2 y3 y4 y5 y6 y7 y8 y9 y10 y11 y12 y13 y14 y15 y16 y17, LeO (sternpostref08_Check.l0 k y0 y1 y2 y3 y4 y5 y6 y7 y8 y9 y10 y11 y12 y13 y14 y15 y16 y17) (sternpostref08_Check.l0 (k + 1) y0 y1 y2 y3 y4 y5 y6 y7 y8 y9 y10 y11 y12 y13 y14 y15 y16 y17))
 | 0 => fun _ _ _ _ _ _ _ _ _ _ _ _ _ _ _ _ _ _ r h => by simp [sternpostref08_Check.l0] at h
 | k + 1 => by
  have ih0 := sternpostref08_Check.mono_l k
  ·
   intro y0 y1 y2 y3 y4 y5 y6 y7 y8 y9 y10 y11 y12 y13 y14 y15 y16 y17
   unfold sternpostref08_Check.l0
   repeat' first
   | (with_reducible exact ih0 _ _ _ _ _ _ _ _ _ _ _ _ _ _ _ _ _ _)
   | (with_reducible exact sternpostref07_Check.mono _ _ _ _ _ _ _ _ _)
   | (with_reducible exact LeO.refl _)
   | (with_reducible exact LeO.none _)
   | (with_reducible refine LeO.ite ?_ ?_)
   | (with_reducible refine LeO.bind ?_ (fun _ => ?_))
   | exact ih0 _ _ _ _ _ _ _ _ _ _ _ _ _ _ _ _ _ _
   | exact sternpostref07_Check.mono _ _ _ _ _ _ _ _ _
   | exact LeO.none _
   | refine LeO.ite ?_ ?_
   | refine LeO.bind ?_ (fun _ => ?_)
theorem sternpostref08_Check.mono : ∀ a0 a1 a2 a3 a4 a5 a6 a7 a8 a9 a10 a11 a12 a13 a14 a15 k, LeO (sternpostref08_Check.f k a0 a1 a2 a3 a4 a5 a6 a7 a8 a9 a10 a11 a12 a13 a14 a15) (sternpostref08_Check.f (k + 1) a0 a1 a2 a3 a4 a5 a6 a7 a8 a9 a10 a11 a12 a13 a14 a15) := by
 intro a0 a1 a2 a3 a4 a5 a6 a7 a8 a9 a10 a11 a12 a13 a14 a15 k
 have ih0 := sternpostref08_Check.mono_l k
 unfold sternpostref08_Check.f
 repeat' first
  | (with_reducible exact ih0 _ _ _ _ _ _ _ _ _ _ _ _ _ _ _ _ _ _)
  | (with_reducible exact sternpostref07_Check.mono _ _ _ _ _ _ _ _ _)
  | (with_reducible exact LeO.refl _)
  | (with_reducible exact LeO.none _)
  | (with_reducible refine LeO.ite ?_ ?_)
  | (with_reducible refine LeO.bind ?_ (fun _ => ?_))
  | exact ih0 _ _ _ _ _ _ _ _ _ _ _ _ _ _ _ _ _ _
  | exact sternpostref07_Check.mono _ _ _ _ _ _ _ _ _
  | exact LeO.none _
  | refine LeO.ite ?_ ?_
  | refine LeO.bind ?_ (fun _ => ?_)
set_option maxHeartbeats 8000000 in
set_option maxRecDepth 100000 in
theorem sternpostref08_Check.calls (k : Nat) (a0_0 : Int) (a0_1 : Int) (a0_2 : Int) (a0_3 : Int) (a0_4 : Int) (a0_5 : Int) (a0_6 : Int) (a0_7 : Int) (a0_8 : Int) (a0_9 : Int) (a0_10 : Int) (a0_11 : Bool) (a0_12 : Bool) (a0_13 : Bool) (A0_14 : Option Addr) (c0_14 : Nat) (l0_14 : List (S68)) (a0_15 : ByteArray) (r : Int) (w : World) (hr0_14 : Kd.C k68 w A0_14 l0_14.length l0_14) (hc0_14 : l0_14.length ≤ c0_14) (h : sternpostref08_Check.f k a0_0 a0_1 a0_2 a0_3 a0_4 a0_5 a0_6 a0_7 a0_8 a0_9 a0_10 a0_11 a0_12 a0_13 l0_14 a0_15 = some r) :
 Calls Try.prog 9 #[.agg #[.int .i64 a0_0, .int .i64 a0_1, .int .i64 a0_2, .int .i64 a0_3, .int .i64 a0_4, .int .i64 a0_5, .int .i64 a0_6, .int .i64 a0_7, .int .i64 a0_8, .int .i64 a0_9, .int .i64 a0_10, .bool a0_11, .bool a0_12, .bool a0_13, .slice A0_14 l0_14.length c0_14, .string a0_15]] w fun e w' => e = .returned (.int .i64 r) ∧ Below w.heap.size w w' := by
 have hu28 := Try.underlying28
 have hu26 := Try.underlying26
 have HR0_14 := Aside0.mk hr0_14; have HC0_14 := Aside0.mk hc0_14; clear hr0_14 hc0_14
 have HB := Aside0.mk (Below.refl w.heap.size w)
 have H : (sternpostref08_Check.l0 k (([a0_0, a0_1, a0_5, a0_6] : List Int)) 0 a0_0 a0_1 a0_2 a0_3 a0_4 a0_5 a0_6 a0_7 a0_8 a0_9 a0_10 a0_11 a0_12 a0_13 l0_14 a0_15) = some r := h
 clear h
 obtain ⟨y215, hy215⟩ : ∃ y_ : List Int, y_ = (([a0_0, a0_1, a0_5, a0_6] : List Int)) := ⟨_, rfl⟩
 replace H : (sternpostref08_Check.l0 k y215 0 a0_0 a0_1 a0_2 a0_3 a0_4 a0_5 a0_6 a0_7 a0_8 a0_9 a0_10 a0_11 a0_12 a0_13 l0_14 a0_15) = some r := by first | (rw [hy215]; with_reducible exact H) | (have H2_ := (Option.bind_some _ _).symm.trans H; rw [hy215]; with_reducible exact H2_) | (have H2_ := (Option.bind_some _ _).symm.trans H; with_reducible exact H2_) | with_reducible exact H | (rw [hy215]; exact H) | exact H
 have Ny215 := Aside0.mk hy215; clear hy215; have H' := Aside0.mk H; clear H
 go_enter Try.func9, Try.ntmps9
 go_wp2_with (first | ((with_reducible refine gate_dst (N := 1) rfl ?_); (try (refine gate_guard (by rfl) ?_; dsimp only)); refine box_event ?hg (N := 1) ?hd (cs := #[.int .i64 a0_0, .int .i64 a0_1, .int .i64 a0_2, .int .i64 a0_3, .int .i64 a0_4, .int .i64 a0_5, .int .i64 a0_6, .int .i64 a0_7, .int .i64 a0_8, .int .i64 a0_9, .int .i64 a0_10, .bool a0_11, .bool a0_12, .bool a0_13, .slice A0_14 l0_14.length c0_14, .string a0_15]) (t := 28) ?hr ?_; (case hd => rfl); (case hg => rfl); (case hr => go_simp; first | done | (simp only [IntKind.wrap_u8]; done) | rfl); intro gb214 hg w2 hbox hb; have BK214 := Aside0.mk (hbox); have GW214 := gz_ (be0_ HB) hg; have GE214 := gz_ (be0_ HB) hg; replace HB := bs0_ HB hb; clear hb hbox hg; have hcz3 := cf16 BK214) | ((with_reducible refine gate_dst (N := 13) rfl ?_); (try (refine gate_guard (by rfl) ?_; dsimp only)); refine Kd.R_lit (Kd.int .i64) _ 3 ?hg (N := 13) ?hd (xs := ([a0_0, a0_1, a0_5, a0_6] : List Int)) (inner := [.int .i64 a0_0, .int .i64 a0_1, .int .i64 a0_5, .int .i64 a0_6]) (ok := fun _ => True) (okp := fun _ => True) ?hr ?hp (fun _ hk => hk) trivial (Below.refl _ _) (Nat.le_refl _) (by simp) ?_; (case hd => rfl); (case hg => rfl); (case hr => go_simp; first | done | (simp only [IntKind.wrap_u8]; done) | rfl); (case hp => exact (Reps.one (show Kd.M (Kd.int .i64) _ _ _ a0_0 [.int .i64 a0_0] from rfl) (Reps.one (show Kd.M (Kd.int .i64) _ _ _ a0_1 [.int .i64 a0_1] from rfl) (Reps.one (show Kd.M (Kd.int .i64) _ _ _ a0_5 [.int .i64 a0_5] from rfl) (Reps.one (show Kd.M (Kd.int .i64) _ _ _ a0_6 [.int .i64 a0_6] from rfl) (Reps.none _ _)))))); intro v216 w4 ho5 hb hg_ hnew_; clear hg_ hnew_; (first | rw [← Ny215.out] at ho5 | (simp only [Int.reduceToNat] at ho5; rw [← Ny215.out] at ho5)); have HO217 := Aside0.mk (Kd.R_lower ho5 (below_size (be1_ HB GE214))); replace BK214 := kb_ BK214 hb; replace HB := bs1_ HB GE214 hb; clear hb ho5))
 go_loopg [4] k (fun kq v4 w' => ∃ (x4_1 : Int), v4 = .int .i64 x4_1 ∧ Aside0 (sternpostref08_Check.l0 kq y215 x4_1 a0_0 a0_1 a0_2 a0_3 a0_4 a0_5 a0_6 a0_7 a0_8 a0_9 a0_10 a0_11 a0_12 a0_13 l0_14 a0_15 = some r) ∧ Aside0 (kq ≤ k) ∧ Aside0 (Kd.R (Kd.int .i64) 3 w' w.heap.size (fun _ => True) v216 y215) ∧ Aside0 (w'.heap[gb214]? = some (.cells #[.int .i64 a0_0, .int .i64 a0_1, .int .i64 a0_2, .int .i64 a0_3, .int .i64 a0_4, .int .i64 a0_5, .int .i64 a0_6, .int .i64 a0_7, .int .i64 a0_8, .int .i64 a0_9, .int .i64 a0_10, .bool a0_11, .bool a0_12, .bool a0_13, (.slice A0_14 l0_14.length c0_14), .string a0_15] 28 (0, 0))) ∧ Aside0 (Below w.heap.size w w'))
 case atStart => exact ⟨(0), (by first | rfl | (simp; done) | (simp [*]; done)), H', ⟨Nat.le_refl _⟩, ⟨by (with_reducible repeat (first | apply Kd.R_alloc | apply Kd.R_drewN | apply Kd.R_drew)); exact HO217.out⟩, ⟨by (with_reducible repeat (first | refine blk_drewN ?_ _ | refine blk_drew ?_ | refine blk_alloc ?_ _)); exact BK214.out⟩, ⟨by repeat (first | (with_reducible first | exact HB.out | apply below_alloc | apply pw_below_drewN | apply below_drew1 | refine below_set ?_ GE214.out) | exact HB.out)⟩⟩
 case round =>
  clear H'
  (try clear p2); (try clear hcz3_0); (try clear hcz3_1); (try clear hcz3_10); (try clear hcz3_11); (try clear hcz3_12); (try clear hcz3_13); (try clear hcz3_14); (try clear hcz3_15); (try clear hcz3_2); (try clear hcz3_3); (try clear hcz3_4); (try clear hcz3_5); (try clear hcz3_6); (try clear hcz3_7); (try clear hcz3_8); (try clear hcz3_9); (try clear hfz3_0); (try clear hfz3_1); (try clear hfz3_10); (try clear hfz3_11); (try clear hfz3_12); (try clear hfz3_13); (try clear hfz3_14); (try clear hfz3_15); (try clear hfz3_2); (try clear hfz3_3); (try clear hfz3_4); (try clear hfz3_5); (try clear hfz3_6)
  (try clear hfz3_7); (try clear hfz3_8); (try clear hfz3_9)
  obtain ⟨x4_1, rfl, HA, HK1, HO_3, BK214, HB⟩ := hrel
  cases gk with
  | zero => exact absurd HA.out (by simp [sternpostref08_Check.l0])
  | succ k1 =>
   have H := HA.out
   clear HA
   simp only [sternpostref08_Check.l0] at H
   by_cases c6 : x4_1 < (y215.length : Int)
   · rw [if_pos c6] at H
     have c6b0 : decide (x4_1 < (y215.length : Int)) = true := decide_eq_true c6
     clear c6
     by_cases c7 : 0 ≤ x4_1
     rotate_left
     · rw [if_neg c7] at H
       exact absurd H (by simp)
     rw [if_pos c7] at H
     have c7b0 : decide (0 ≤ x4_1) = true := decide_eq_true c7
     clear c7
     by_cases c8 : (rd y215 x4_1) < 0
     · rw [if_pos c8] at H
       have c8b0 : decide ((rd y215 x4_1) < 0) = true := decide_eq_true c8
       clear c8
       as_aux_lemma =>
        obtain rfl := Option.some.inj H
        obtain ⟨Ao9, co9, eo9⟩ := Kd.R_slice HO_3.out
        subst eo9
        have p218 : 0 ≤ (x4_1 : Int) := of_decide_eq_true (by first | (with_reducible assumption) | assumption)
        have q218 : x4_1 < (y215.length : Int) := of_decide_eq_true (by first | (with_reducible assumption) | assumption)
        obtain ⟨ad218, e218, hx218_0⟩ := Kd.at_int (Kd.R_reads' HO_3.out).2.2 x4_1 p218 q218
        cases e218
        replace p218 := eq_true p218; replace q218 := eq_true q218
        go_wp2
        go_ret
        exact ⟨ra_, (be1_ HB GE214)⟩
     rw [if_neg c8] at H
     have c8b0 : decide ((rd y215 x4_1) < 0) = false := decide_eq_false c8
     clear c8
     by_cases c10 : (rd y215 x4_1) > 65535
     · rw [if_pos c10] at H
       have c10b0 : decide (65535 < (rd y215 x4_1)) = true := decide_eq_true c10
       clear c10
       as_aux_lemma =>
        obtain rfl := Option.some.inj H
        obtain ⟨Ao11, co11, eo11⟩ := Kd.R_slice HO_3.out
        subst eo11
        have p218 : 0 ≤ (x4_1 : Int) := of_decide_eq_true (by first | (with_reducible assumption) | assumption)
        have q218 : x4_1 < (y215.length : Int) := of_decide_eq_true (by first | (with_reducible assumption) | assumption)
        obtain ⟨ad218, e218, hx218_0⟩ := Kd.at_int (Kd.R_reads' HO_3.out).2.2 x4_1 p218 q218
        cases e218
        replace p218 := eq_true p218; replace q218 := eq_true q218
        have p219 : 0 ≤ (x4_1 : Int) := of_decide_eq_true (by first | (with_reducible assumption) | assumption)
        have q219 : x4_1 < (y215.length : Int) := of_decide_eq_true (by first | (with_reducible assumption) | assumption)
        obtain ⟨ad219, e219, hx219_0⟩ := Kd.at_int (Kd.R_reads' HO_3.out).2.2 x4_1 p219 q219
        obtain rfl : ad218 = ad219 := (by injection e219)
        replace p219 := eq_true p219; replace q219 := eq_true q219
        go_wp2
        go_ret
        exact ⟨ra_, (be1_ HB GE214)⟩
     rw [if_neg c10] at H
     have c10b0 : decide (65535 < (rd y215 x4_1)) = false := decide_eq_false c10
     clear c10
     as_aux_lemma =>
      have H' := Aside0.mk H; clear H
      obtain ⟨Ao12, co12, eo12⟩ := Kd.R_slice HO_3.out
      subst eo12
      have p218 : 0 ≤ (x4_1 : Int) := of_decide_eq_true (by first | (with_reducible assumption) | assumption)
      have q218 : x4_1 < (y215.length : Int) := of_decide_eq_true (by first | (with_reducible assumption) | assumption)
      obtain ⟨ad218, e218, hx218_0⟩ := Kd.at_int (Kd.R_reads' HO_3.out).2.2 x4_1 p218 q218
      cases e218
      replace p218 := eq_true p218; replace q218 := eq_true q218
      have p219 : 0 ≤ (x4_1 : Int) := of_decide_eq_true (by first | (with_reducible assumption) | assumption)
      have q219 : x4_1 < (y215.length : Int) := of_decide_eq_true (by first | (with_reducible assumption) | assumption)
      obtain ⟨ad219, e219, hx219_0⟩ := Kd.at_int (Kd.R_reads' HO_3.out).2.2 x4_1 p219 q219
      obtain rfl : ad218 = ad219 := (by injection e219)
      replace p219 := eq_true p219; replace q219 := eq_true q219
      go_wp2
      go_roundg k1
      case measure => have := HK1.out; omega
      case rel => exact ⟨(wrap64 (x4_1 + 1)), (by first | rfl | (simp; done) | (simp [*]; done)), H', ⟨by have := HK1.out; omega⟩, ⟨by (with_reducible repeat (first | apply Kd.R_alloc | apply Kd.R_drewN | apply Kd.R_drew)); exact HO_3.out⟩, ⟨by (with_reducible repeat (first | refine blk_drewN ?_ _ | refine blk_drew ?_ | refine blk_alloc ?_ _)); exact BK214.out⟩, ⟨by repeat (first | (with_reducible first | exact HB.out | apply below_alloc | apply pw_below_drewN | apply below_drew1 | refine below_set ?_ GE214.out) | exact HB.out)⟩⟩
   rw [if_neg c6] at H
   have c6b0 : decide (x4_1 < (y215.length : Int)) = false := decide_eq_false c6
   clear c6; replace H := Option.bind_eq_some_iff.mp H; obtain ⟨t220, A130, H⟩ := H; (try dsimp only at H); have A13 := Aside0.mk A130; clear A130
   by_cases c14 : t220 = 0
   rotate_left
   · rw [if_neg c14] at H
     have c14b0 : (t220 == 0) = false := beq_eq_false_iff_ne.mpr c14
     have c14b1 : (t220 != 0) = true := bne_iff_ne.mpr c14
     as_aux_lemma =>
      obtain rfl := Option.some.inj H
      obtain ⟨Ao154, co154, eo154⟩ := Kd.R_slice HO_3.out
      subst eo154; have hcz155 := cf16 BK214
      go_wp2_with (first | ((with_reducible refine gate_callee (f := 25) rfl ?_); refine goesL_ (some 34) rfl rfl Try.func25 (by kernel_rfl) rfl #[.int .i64 a0_2] rfl ga_ ?_; (with_reducible refine (sternpostref01_Check.calls a0_2 t220 _ A13.out).mono ?_); rintro e w' ⟨rfl, ⟨nd, rfl⟩⟩; refine ⟨_, rfl, ?_⟩))
      go_ret
      exact ⟨ra_, (be1_ HB GE214)⟩
   rw [if_pos c14] at H
   have c14b0 : (t220 == 0) = true := beq_iff_eq.mpr c14
   have c14b1 : (t220 != 0) = false := bne_eq_false_iff_eq.mpr c14
   clear c14; replace H := Option.bind_eq_some_iff.mp H; obtain ⟨t221, A150, H⟩ := H; (try dsimp only at H); have A15 := Aside0.mk A150; clear A150
   by_cases c16 : t221 = 0
   rotate_left
   · rw [if_neg c16] at H
     have c16b0 : (t221 == 0) = false := beq_eq_false_iff_ne.mpr c16
     have c16b1 : (t221 != 0) = true := bne_iff_ne.mpr c16
     as_aux_lemma =>
      obtain rfl := Option.some.inj H
      obtain ⟨Ao152, co152, eo152⟩ := Kd.R_slice HO_3.out
      subst eo152; have hcz153 := cf16 BK214
      go_wp2_with (first | ((with_reducible refine gate_callee (f := 25) rfl ?_); refine goesL_ (some 34) rfl rfl Try.func25 (by kernel_rfl) rfl #[.int .i64 a0_2] rfl ga_ ?_; (with_reducible refine (sternpostref01_Check.calls a0_2 t220 _ A13.out).mono ?_); rintro e w' ⟨rfl, ⟨nd, rfl⟩⟩; refine ⟨_, rfl, ?_⟩) | (go_at_call 25; (with_reducible refine (sternpostref01_Check.calls a0_3 t221 _ A15.out).mono ?_); rintro e w' ⟨rfl, ⟨nd, rfl⟩⟩))
      go_ret
      exact ⟨ra_, (be1_ HB GE214)⟩
   rw [if_pos c16] at H
   have c16b0 : (t221 == 0) = true := beq_iff_eq.mpr c16
   have c16b1 : (t221 != 0) = false := bne_eq_false_iff_eq.mpr c16
   clear c16
   by_cases c17 : a0_4 < 0
   · rw [if_pos c17] at H
     have c17b0 : decide (a0_4 < 0) = true := decide_eq_true c17
     clear c17
     as_aux_lemma =>
      obtain rfl := Option.some.inj H
      obtain ⟨Ao18, co18, eo18⟩ := Kd.R_slice HO_3.out
      subst eo18; have hcz19 := cf16 BK214
      go_wp2_with (first | ((with_reducible refine gate_callee (f := 25) rfl ?_); refine goesL_ (some 34) rfl rfl Try.func25 (by kernel_rfl) rfl #[.int .i64 a0_2] rfl ga_ ?_; (with_reducible refine (sternpostref01_Check.calls a0_2 t220 _ A13.out).mono ?_); rintro e w' ⟨rfl, ⟨nd, rfl⟩⟩; refine ⟨_, rfl, ?_⟩) | (go_at_call 25; (with_reducible refine (sternpostref01_Check.calls a0_3 t221 _ A15.out).mono ?_); rintro e w' ⟨rfl, ⟨nd, rfl⟩⟩))
      go_ret
      exact ⟨ra_, (be1_ HB GE214)⟩
   rw [if_neg c17] at H
   have c17b0 : decide (a0_4 < 0) = false := decide_eq_false c17
   clear c17
   by_cases c20 : a0_4 > 63
   · rw [if_pos c20] at H
     have c20b0 : decide (63 < a0_4) = true := decide_eq_true c20
     clear c20
     as_aux_lemma =>
      obtain rfl := Option.some.inj H
      obtain ⟨Ao21, co21, eo21⟩ := Kd.R_slice HO_3.out
      subst eo21; have hcz22 := cf16 BK214
      go_wp2_with (first | ((with_reducible refine gate_callee (f := 25) rfl ?_); refine goesL_ (some 34) rfl rfl Try.func25 (by kernel_rfl) rfl #[.int .i64 a0_2] rfl ga_ ?_; (with_reducible refine (sternpostref01_Check.calls a0_2 t220 _ A13.out).mono ?_); rintro e w' ⟨rfl, ⟨nd, rfl⟩⟩; refine ⟨_, rfl, ?_⟩) | (go_at_call 25; (with_reducible refine (sternpostref01_Check.calls a0_3 t221 _ A15.out).mono ?_); rintro e w' ⟨rfl, ⟨nd, rfl⟩⟩))
      go_ret
      exact ⟨ra_, (be1_ HB GE214)⟩
   rw [if_neg c20] at H
   have c20b0 : decide (63 < a0_4) = false := decide_eq_false c20
   clear c20; replace H := Option.bind_eq_some_iff.mp H; obtain ⟨t222, A230, H⟩ := H; (try dsimp only at H); have A23 := Aside0.mk A230; clear A230
   by_cases c24 : t222 = true
   · subst c24
     have H1 : ((sternpostref08_Has.f a0_0 a0_1 a0_2 a0_3 a0_4 a0_5 a0_6 a0_7 a0_8 a0_9 a0_10 a0_11 a0_12 a0_13 l0_14 a0_15 32).bind fun t223 => (if t223 = true then ((sternpostref07_Check.f k1 a0_7 a0_8 a0_9 a0_10 a0_11 a0_12 a0_13 l0_14).bind fun t224 => (if t224 = 0 then (if (a0_15.size : Int) > 1480 then (some 80) else (some 0)) else (some 80))) else (if a0_6 = 0 then ((sternpostref07_Check.f k1 a0_7 a0_8 a0_9 a0_10 a0_11 a0_12 a0_13 l0_14).bind fun t225 => (if t225 = 0 then (if (a0_15.size : Int) > 1480 then (some 80) else (some 0)) else (some 80))) else (some 80)))) = some r := by rw [if_pos rfl] at H; exact H
     clear H; have H := H1; clear H1; replace H := Option.bind_eq_some_iff.mp H; obtain ⟨t223, A250, H⟩ := H; (try dsimp only at H); have A25 := Aside0.mk A250; clear A250
     by_cases c26 : t223 = true
     · subst c26
       have H1 : ((sternpostref07_Check.f k1 a0_7 a0_8 a0_9 a0_10 a0_11 a0_12 a0_13 l0_14).bind fun t224 => (if t224 = 0 then (if (a0_15.size : Int) > 1480 then (some 80) else (some 0)) else (some 80))) = some r := by rw [if_pos rfl] at H; exact H
       clear H; have H := H1; clear H1; replace H := Option.bind_eq_some_iff.mp H; obtain ⟨t224, A270, H⟩ := H; (try dsimp only at H); have A27 := Aside0.mk A270; clear A270
       by_cases c28 : t224 = 0
       rotate_left
       · rw [if_neg c28] at H
         have c28b0 : (t224 == 0) = false := beq_eq_false_iff_ne.mpr c28
         have c28b1 : (t224 != 0) = true := bne_iff_ne.mpr c28
         as_aux_lemma =>
          obtain rfl := Option.some.inj H
          obtain ⟨Ao46, co46, eo46⟩ := Kd.R_slice HO_3.out
          subst eo46; have hcz47 := cf16 BK214
          go_wp2_with (first | ((with_reducible refine gate_callee (f := 25) rfl ?_); refine goesL_ (some 34) rfl rfl Try.func25 (by kernel_rfl) rfl #[.int .i64 a0_2] rfl ga_ ?_; (with_reducible refine (sternpostref01_Check.calls a0_2 t220 _ A13.out).mono ?_); rintro e w' ⟨rfl, ⟨nd, rfl⟩⟩; refine ⟨_, rfl, ?_⟩) | (go_at_call 25; (with_reducible refine (sternpostref01_Check.calls a0_3 t221 _ A15.out).mono ?_); rintro e w' ⟨rfl, ⟨nd, rfl⟩⟩) | (go_at_call 13; (with_reducible refine (sternpostref08_Has.calls a0_0 a0_1 a0_2 a0_3 a0_4 a0_5 a0_6 a0_7 a0_8 a0_9 a0_10 a0_11 a0_12 a0_13 _ _ l0_14 a0_15 16 true _ ?side1 ?side2 A23.out).mono ?_); (case side1 => repeat (first | exact (Kd.C_below HR0_14.out (be1_ HB GE214)) | (with_reducible refine Kd.C_alloc ?_ _) | (with_reducible refine Kd.C_drewN ?_ _) | (with_reducible refine Kd.C_drew ?_))); (case side2 => exact HC0_14.out); rintro e w48 ⟨rfl, hb⟩; replace HO_3 := Aside0.mk (Kd.R_below (by (with_reducible repeat (first | apply Kd.R_alloc | apply Kd.R_drewN | apply Kd.R_drew)); exact HO_3.out) hb); replace BK214 := kb_ BK214 hb; replace HB := bs1_ HB GE214 hb; (try clear hb); have hcz49 := cf16 BK214) | (go_at_call 13; (with_reducible refine (sternpostref08_Has.calls a0_0 a0_1 a0_2 a0_3 a0_4 a0_5 a0_6 a0_7 a0_8 a0_9 a0_10 a0_11 a0_12 a0_13 _ _ l0_14 a0_15 32 true _ ?side1 ?side2 A25.out).mono ?_); (case side1 => exact cb_ HR0_14 HB); (case side2 => exact HC0_14.out); rintro e w50 ⟨rfl, hb⟩; replace HO_3 := Aside0.mk (Kd.R_below (by (with_reducible repeat (first | apply Kd.R_alloc | apply Kd.R_drewN | apply Kd.R_drew)); exact HO_3.out) hb); replace BK214 := kb_ BK214 hb; replace HB := bs1_ HB GE214 hb; (try clear hb); have hcz51 := cf16 BK214) | (go_at_call 29; (with_reducible refine (sternpostref07_Check.calls k1 a0_7 a0_8 a0_9 a0_10 a0_11 a0_12 a0_13 _ _ l0_14 t224 _ ?side1 ?side2 A27.out).mono ?_); (case side1 => exact cb_ HR0_14 HB); (case side2 => exact HC0_14.out); rintro e w52 ⟨rfl, hb⟩; replace HO_3 := Aside0.mk (Kd.R_below (by (with_reducible repeat (first | apply Kd.R_alloc | apply Kd.R_drewN | apply Kd.R_drew)); exact HO_3.out) hb); replace BK214 := kb_ BK214 hb; replace HB := bs1_ HB GE214 hb; (try clear hb)))
          go_ret
          exact ⟨ra_, (be1_ HB GE214)⟩
       rw [if_pos c28] at H
       have c28b0 : (t224 == 0) = true := beq_iff_eq.mpr c28
       have c28b1 : (t224 != 0) = false := bne_eq_false_iff_eq.mpr c28
       clear c28
       by_cases c29 : (a0_15.size : Int) > 1480
       · rw [if_pos c29] at H
         have c29b0 : decide (1480 < (a0_15.size : Int)) = true := decide_eq_true c29
         have c29b1 : decide (1480 < a0_15.size) = true := decide_eq_true (by omega)
         clear c29
         as_aux_lemma =>
          obtain rfl := Option.some.inj H
          obtain ⟨Ao30, co30, eo30⟩ := Kd.R_slice HO_3.out
          subst eo30; have hcz31 := cf16 BK214
          go_wp2_with (first | ((with_reducible refine gate_callee (f := 25) rfl ?_); refine goesL_ (some 34) rfl rfl Try.func25 (by kernel_rfl) rfl #[.int .i64 a0_2] rfl ga_ ?_; (with_reducible refine (sternpostref01_Check.calls a0_2 t220 _ A13.out).mono ?_); rintro e w' ⟨rfl, ⟨nd, rfl⟩⟩; refine ⟨_, rfl, ?_⟩) | (go_at_call 25; (with_reducible refine (sternpostref01_Check.calls a0_3 t221 _ A15.out).mono ?_); rintro e w' ⟨rfl, ⟨nd, rfl⟩⟩) | (go_at_call 13; (with_reducible refine (sternpostref08_Has.calls a0_0 a0_1 a0_2 a0_3 a0_4 a0_5 a0_6 a0_7 a0_8 a0_9 a0_10 a0_11 a0_12 a0_13 _ _ l0_14 a0_15 16 true _ ?side1 ?side2 A23.out).mono ?_); (case side1 => repeat (first | exact (Kd.C_below HR0_14.out (be1_ HB GE214)) | (with_reducible refine Kd.C_alloc ?_ _) | (with_reducible refine Kd.C_drewN ?_ _) | (with_reducible refine Kd.C_drew ?_))); (case side2 => exact HC0_14.out); rintro e w32 ⟨rfl, hb⟩; replace HO_3 := Aside0.mk (Kd.R_below (by (with_reducible repeat (first | apply Kd.R_alloc | apply Kd.R_drewN | apply Kd.R_drew)); exact HO_3.out) hb); replace BK214 := kb_ BK214 hb; replace HB := bs1_ HB GE214 hb; (try clear hb); have hcz33 := cf16 BK214) | (go_at_call 13; (with_reducible refine (sternpostref08_Has.calls a0_0 a0_1 a0_2 a0_3 a0_4 a0_5 a0_6 a0_7 a0_8 a0_9 a0_10 a0_11 a0_12 a0_13 _ _ l0_14 a0_15 32 true _ ?side1 ?side2 A25.out).mono ?_); (case side1 => exact cb_ HR0_14 HB); (case side2 => exact HC0_14.out); rintro e w34 ⟨rfl, hb⟩; replace HO_3 := Aside0.mk (Kd.R_below (by (with_reducible repeat (first | apply Kd.R_alloc | apply Kd.R_drewN | apply Kd.R_drew)); exact HO_3.out) hb); replace BK214 := kb_ BK214 hb; replace HB := bs1_ HB GE214 hb; (try clear hb); have hcz35 := cf16 BK214) | (go_at_call 29; (with_reducible refine (sternpostref07_Check.calls k1 a0_7 a0_8 a0_9 a0_10 a0_11 a0_12 a0_13 _ _ l0_14 t224 _ ?side1 ?side2 A27.out).mono ?_); (case side1 => exact cb_ HR0_14 HB); (case side2 => exact HC0_14.out); rintro e w36 ⟨rfl, hb⟩; replace HO_3 := Aside0.mk (Kd.R_below (by (with_reducible repeat (first | apply Kd.R_alloc | apply Kd.R_drewN | apply Kd.R_drew)); exact HO_3.out) hb); replace BK214 := kb_ BK214 hb; replace HB := bs1_ HB GE214 hb; (try clear hb); have hcz37 := cf16 BK214))
          go_ret
          exact ⟨ra_, (be1_ HB GE214)⟩
       rw [if_neg c29] at H
       have c29b0 : decide (1480 < (a0_15.size : Int)) = false := decide_eq_false c29
       have c29b1 : decide (1480 < a0_15.size) = false := decide_eq_false (by omega)
       clear c29
       as_aux_lemma =>
        obtain rfl := Option.some.inj H
        obtain ⟨Ao38, co38, eo38⟩ := Kd.R_slice HO_3.out
        subst eo38; have hcz39 := cf16 BK214
        go_wp2_with (first | ((with_reducible refine gate_callee (f := 25) rfl ?_); refine goesL_ (some 34) rfl rfl Try.func25 (by kernel_rfl) rfl #[.int .i64 a0_2] rfl ga_ ?_; (with_reducible refine (sternpostref01_Check.calls a0_2 t220 _ A13.out).mono ?_); rintro e w' ⟨rfl, ⟨nd, rfl⟩⟩; refine ⟨_, rfl, ?_⟩) | (go_at_call 25; (with_reducible refine (sternpostref01_Check.calls a0_3 t221 _ A15.out).mono ?_); rintro e w' ⟨rfl, ⟨nd, rfl⟩⟩) | (go_at_call 13; (with_reducible refine (sternpostref08_Has.calls a0_0 a0_1 a0_2 a0_3 a0_4 a0_5 a0_6 a0_7 a0_8 a0_9 a0_10 a0_11 a0_12 a0_13 _ _ l0_14 a0_15 16 true _ ?side1 ?side2 A23.out).mono ?_); (case side1 => repeat (first | exact (Kd.C_below HR0_14.out (be1_ HB GE214)) | (with_reducible refine Kd.C_alloc ?_ _) | (with_reducible refine Kd.C_drewN ?_ _) | (with_reducible refine Kd.C_drew ?_))); (case side2 => exact HC0_14.out); rintro e w40 ⟨rfl, hb⟩; replace HO_3 := Aside0.mk (Kd.R_below (by (with_reducible repeat (first | apply Kd.R_alloc | apply Kd.R_drewN | apply Kd.R_drew)); exact HO_3.out) hb); replace BK214 := kb_ BK214 hb; replace HB := bs1_ HB GE214 hb; (try clear hb); have hcz41 := cf16 BK214) | (go_at_call 13; (with_reducible refine (sternpostref08_Has.calls a0_0 a0_1 a0_2 a0_3 a0_4 a0_5 a0_6 a0_7 a0_8 a0_9 a0_10 a0_11 a0_12 a0_13 _ _ l0_14 a0_15 32 true _ ?side1 ?side2 A25.out).mono ?_); (case side1 => exact cb_ HR0_14 HB); (case side2 => exact HC0_14.out); rintro e w42 ⟨rfl, hb⟩; replace HO_3 := Aside0.mk (Kd.R_below (by (with_reducible repeat (first | apply Kd.R_alloc | apply Kd.R_drewN | apply Kd.R_drew)); exact HO_3.out) hb); replace BK214 := kb_ BK214 hb; replace HB := bs1_ HB GE214 hb; (try clear hb); have hcz43 := cf16 BK214) | (go_at_call 29; (with_reducible refine (sternpostref07_Check.calls k1 a0_7 a0_8 a0_9 a0_10 a0_11 a0_12 a0_13 _ _ l0_14 t224 _ ?side1 ?side2 A27.out).mono ?_); (case side1 => exact cb_ HR0_14 HB); (case side2 => exact HC0_14.out); rintro e w44 ⟨rfl, hb⟩; replace HO_3 := Aside0.mk (Kd.R_below (by (with_reducible repeat (first | apply Kd.R_alloc | apply Kd.R_drewN | apply Kd.R_drew)); exact HO_3.out) hb); replace BK214 := kb_ BK214 hb; replace HB := bs1_ HB GE214 hb; (try clear hb); have hcz45 := cf16 BK214))
        go_ret
        exact ⟨ra_, (be1_ HB GE214)⟩
     replace c26 := Bool.eq_false_iff.mpr c26; subst c26
     have H1 : (if a0_6 = 0 then ((sternpostref07_Check.f k1 a0_7 a0_8 a0_9 a0_10 a0_11 a0_12 a0_13 l0_14).bind fun t225 => (if t225 = 0 then (if (a0_15.size : Int) > 1480 then (some 80) else (some 0)) else (some 80))) else (some 80)) = some r := by rw [if_neg (show ¬ (false = true) by decide)] at H; exact H
     clear H; have H := H1; clear H1
     by_cases c53 : a0_6 = 0
     rotate_left
     · rw [if_neg c53] at H
       have c53b0 : (a0_6 == 0) = false := beq_eq_false_iff_ne.mpr c53
       have c53b1 : (a0_6 != 0) = true := bne_iff_ne.mpr c53
       as_aux_lemma =>
        obtain rfl := Option.some.inj H
        obtain ⟨Ao80, co80, eo80⟩ := Kd.R_slice HO_3.out
        subst eo80; have hcz81 := cf16 BK214
        go_wp2_with (first | ((with_reducible refine gate_callee (f := 25) rfl ?_); refine goesL_ (some 34) rfl rfl Try.func25 (by kernel_rfl) rfl #[.int .i64 a0_2] rfl ga_ ?_; (with_reducible refine (sternpostref01_Check.calls a0_2 t220 _ A13.out).mono ?_); rintro e w' ⟨rfl, ⟨nd, rfl⟩⟩; refine ⟨_, rfl, ?_⟩) | (go_at_call 25; (with_reducible refine (sternpostref01_Check.calls a0_3 t221 _ A15.out).mono ?_); rintro e w' ⟨rfl, ⟨nd, rfl⟩⟩) | (go_at_call 13; (with_reducible refine (sternpostref08_Has.calls a0_0 a0_1 a0_2 a0_3 a0_4 a0_5 a0_6 a0_7 a0_8 a0_9 a0_10 a0_11 a0_12 a0_13 _ _ l0_14 a0_15 16 true _ ?side1 ?side2 A23.out).mono ?_); (case side1 => repeat (first | exact (Kd.C_below HR0_14.out (be1_ HB GE214)) | (with_reducible refine Kd.C_alloc ?_ _) | (with_reducible refine Kd.C_drewN ?_ _) | (with_reducible refine Kd.C_drew ?_))); (case side2 => exact HC0_14.out); rintro e w82 ⟨rfl, hb⟩; replace HO_3 := Aside0.mk (Kd.R_below (by (with_reducible repeat (first | apply Kd.R_alloc | apply Kd.R_drewN | apply Kd.R_drew)); exact HO_3.out) hb); replace BK214 := kb_ BK214 hb; replace HB := bs1_ HB GE214 hb; (try clear hb); have hcz83 := cf16 BK214) | (go_at_call 13; (with_reducible refine (sternpostref08_Has.calls a0_0 a0_1 a0_2 a0_3 a0_4 a0_5 a0_6 a0_7 a0_8 a0_9 a0_10 a0_11 a0_12 a0_13 _ _ l0_14 a0_15 32 false _ ?side1 ?side2 A25.out).mono ?_); (case side1 => exact cb_ HR0_14 HB); (case side2 => exact HC0_14.out); rintro e w84 ⟨rfl, hb⟩; replace HO_3 := Aside0.mk (Kd.R_below (by (with_reducible repeat (first | apply Kd.R_alloc | apply Kd.R_drewN | apply Kd.R_drew)); exact HO_3.out) hb); replace BK214 := kb_ BK214 hb; replace HB := bs1_ HB GE214 hb; (try clear hb); have hcz85 := cf16 BK214))
        go_ret
        exact ⟨ra_, (be1_ HB GE214)⟩
     rw [if_pos c53] at H
     have c53b0 : (a0_6 == 0) = true := beq_iff_eq.mpr c53
     have c53b1 : (a0_6 != 0) = false := bne_eq_false_iff_eq.mpr c53
     clear c53; replace H := Option.bind_eq_some_iff.mp H; obtain ⟨t225, A540, H⟩ := H; (try dsimp only at H); have A54 := Aside0.mk A540; clear A540
     by_cases c55 : t225 = 0
     rotate_left
     · rw [if_neg c55] at H
       have c55b0 : (t225 == 0) = false := beq_eq_false_iff_ne.mpr c55
       have c55b1 : (t225 != 0) = true := bne_iff_ne.mpr c55
       as_aux_lemma =>
        obtain rfl := Option.some.inj H
        obtain ⟨Ao73, co73, eo73⟩ := Kd.R_slice HO_3.out
        subst eo73; have hcz74 := cf16 BK214
        go_wp2_with (first | ((with_reducible refine gate_callee (f := 25) rfl ?_); refine goesL_ (some 34) rfl rfl Try.func25 (by kernel_rfl) rfl #[.int .i64 a0_2] rfl ga_ ?_; (with_reducible refine (sternpostref01_Check.calls a0_2 t220 _ A13.out).mono ?_); rintro e w' ⟨rfl, ⟨nd, rfl⟩⟩; refine ⟨_, rfl, ?_⟩) | (go_at_call 25; (with_reducible refine (sternpostref01_Check.calls a0_3 t221 _ A15.out).mono ?_); rintro e w' ⟨rfl, ⟨nd, rfl⟩⟩) | (go_at_call 13; (with_reducible refine (sternpostref08_Has.calls a0_0 a0_1 a0_2 a0_3 a0_4 a0_5 a0_6 a0_7 a0_8 a0_9 a0_10 a0_11 a0_12 a0_13 _ _ l0_14 a0_15 16 true _ ?side1 ?side2 A23.out).mono ?_); (case side1 => repeat (first | exact (Kd.C_below HR0_14.out (be1_ HB GE214)) | (with_reducible refine Kd.C_alloc ?_ _) | (with_reducible refine Kd.C_drewN ?_ _) | (with_reducible refine Kd.C_drew ?_))); (case side2 => exact HC0_14.out); rintro e w75 ⟨rfl, hb⟩; replace HO_3 := Aside0.mk (Kd.R_below (by (with_reducible repeat (first | apply Kd.R_alloc | apply Kd.R_drewN | apply Kd.R_drew)); exact HO_3.out) hb); replace BK214 := kb_ BK214 hb; replace HB := bs1_ HB GE214 hb; (try clear hb); have hcz76 := cf16 BK214) | (go_at_call 13; (with_reducible refine (sternpostref08_Has.calls a0_0 a0_1 a0_2 a0_3 a0_4 a0_5 a0_6 a0_7 a0_8 a0_9 a0_10 a0_11 a0_12 a0_13 _ _ l0_14 a0_15 32 false _ ?side1 ?side2 A25.out).mono ?_); (case side1 => exact cb_ HR0_14 HB); (case side2 => exact HC0_14.out); rintro e w77 ⟨rfl, hb⟩; replace HO_3 := Aside0.mk (Kd.R_below (by (with_reducible repeat (first | apply Kd.R_alloc | apply Kd.R_drewN | apply Kd.R_drew)); exact HO_3.out) hb); replace BK214 := kb_ BK214 hb; replace HB := bs1_ HB GE214 hb; (try clear hb); have hcz78 := cf16 BK214) | (go_at_call 29; (with_reducible refine (sternpostref07_Check.calls k1 a0_7 a0_8 a0_9 a0_10 a0_11 a0_12 a0_13 _ _ l0_14 t225 _ ?side1 ?side2 A54.out).mono ?_); (case side1 => exact cb_ HR0_14 HB); (case side2 => exact HC0_14.out); rintro e w79 ⟨rfl, hb⟩; replace HO_3 := Aside0.mk (Kd.R_below (by (with_reducible repeat (first | apply Kd.R_alloc | apply Kd.R_drewN | apply Kd.R_drew)); exact HO_3.out) hb); replace BK214 := kb_ BK214 hb; replace HB := bs1_ HB GE214 hb; (try clear hb)))
        go_ret
        exact ⟨ra_, (be1_ HB GE214)⟩
     rw [if_pos c55] at H
     have c55b0 : (t225 == 0) = true := beq_iff_eq.mpr c55
     have c55b1 : (t225 != 0) = false := bne_eq_false_iff_eq.mpr c55
     clear c55
     by_cases c56 : (a0_15.size : Int) > 1480
     · rw [if_pos c56] at H
       have c56b0 : decide (1480 < (a0_15.size : Int)) = true := decide_eq_true c56
       have c56b1 : decide (1480 < a0_15.size) = true := decide_eq_true (by omega)
       clear c56
       as_aux_lemma =>
        obtain rfl := Option.some.inj H
        obtain ⟨Ao57, co57, eo57⟩ := Kd.R_slice HO_3.out
        subst eo57; have hcz58 := cf16 BK214
        go_wp2_with (first | ((with_reducible refine gate_callee (f := 25) rfl ?_); refine goesL_ (some 34) rfl rfl Try.func25 (by kernel_rfl) rfl #[.int .i64 a0_2] rfl ga_ ?_; (with_reducible refine (sternpostref01_Check.calls a0_2 t220 _ A13.out).mono ?_); rintro e w' ⟨rfl, ⟨nd, rfl⟩⟩; refine ⟨_, rfl, ?_⟩) | (go_at_call 25; (with_reducible refine (sternpostref01_Check.calls a0_3 t221 _ A15.out).mono ?_); rintro e w' ⟨rfl, ⟨nd, rfl⟩⟩) | (go_at_call 13; (with_reducible refine (sternpostref08_Has.calls a0_0 a0_1 a0_2 a0_3 a0_4 a0_5 a0_6 a0_7 a0_8 a0_9 a0_10 a0_11 a0_12 a0_13 _ _ l0_14 a0_15 16 true _ ?side1 ?side2 A23.out).mono ?_); (case side1 => repeat (first | exact (Kd.C_below HR0_14.out (be1_ HB GE214)) | (with_reducible refine Kd.C_alloc ?_ _) | (with_reducible refine Kd.C_drewN ?_ _) | (with_reducible refine Kd.C_drew ?_))); (case side2 => exact HC0_14.out); rintro e w59 ⟨rfl, hb⟩; replace HO_3 := Aside0.mk (Kd.R_below (by (with_reducible repeat (first | apply Kd.R_alloc | apply Kd.R_drewN | apply Kd.R_drew)); exact HO_3.out) hb); replace BK214 := kb_ BK214 hb; replace HB := bs1_ HB GE214 hb; (try clear hb); have hcz60 := cf16 BK214) | (go_at_call 13; (with_reducible refine (sternpostref08_Has.calls a0_0 a0_1 a0_2 a0_3 a0_4 a0_5 a0_6 a0_7 a0_8 a0_9 a0_10 a0_11 a0_12 a0_13 _ _ l0_14 a0_15 32 false _ ?side1 ?side2 A25.out).mono ?_); (case side1 => exact cb_ HR0_14 HB); (case side2 => exact HC0_14.out); rintro e w61 ⟨rfl, hb⟩; replace HO_3 := Aside0.mk (Kd.R_below (by (with_reducible repeat (first | apply Kd.R_alloc | apply Kd.R_drewN | apply Kd.R_drew)); exact HO_3.out) hb); replace BK214 := kb_ BK214 hb; replace HB := bs1_ HB GE214 hb; (try clear hb); have hcz62 := cf16 BK214) | (go_at_call 29; (with_reducible refine (sternpostref07_Check.calls k1 a0_7 a0_8 a0_9 a0_10 a0_11 a0_12 a0_13 _ _ l0_14 t225 _ ?side1 ?side2 A54.out).mono ?_); (case side1 => exact cb_ HR0_14 HB); (case side2 => exact HC0_14.out); rintro e w63 ⟨rfl, hb⟩; replace HO_3 := Aside0.mk (Kd.R_below (by (with_reducible repeat (first | apply Kd.R_alloc | apply Kd.R_drewN | apply Kd.R_drew)); exact HO_3.out) hb); replace BK214 := kb_ BK214 hb; replace HB := bs1_ HB GE214 hb; (try clear hb); have hcz64 := cf16 BK214))
        go_ret
        exact ⟨ra_, (be1_ HB GE214)⟩
     rw [if_neg c56] at H
     have c56b0 : decide (1480 < (a0_15.size : Int)) = false := decide_eq_false c56
     have c56b1 : decide (1480 < a0_15.size) = false := decide_eq_false (by omega)
     clear c56
     as_aux_lemma =>
      obtain rfl := Option.some.inj H
      obtain ⟨Ao65, co65, eo65⟩ := Kd.R_slice HO_3.out
      subst eo65; have hcz66 := cf16 BK214
      go_wp2_with (first | ((with_reducible refine gate_callee (f := 25) rfl ?_); refine goesL_ (some 34) rfl rfl Try.func25 (by kernel_rfl) rfl #[.int .i64 a0_2] rfl ga_ ?_; (with_reducible refine (sternpostref01_Check.calls a0_2 t220 _ A13.out).mono ?_); rintro e w' ⟨rfl, ⟨nd, rfl⟩⟩; refine ⟨_, rfl, ?_⟩) | (go_at_call 25; (with_reducible refine (sternpostref01_Check.calls a0_3 t221 _ A15.out).mono ?_); rintro e w' ⟨rfl, ⟨nd, rfl⟩⟩) | (go_at_call 13; (with_reducible refine (sternpostref08_Has.calls a0_0 a0_1 a0_2 a0_3 a0_4 a0_5 a0_6 a0_7 a0_8 a0_9 a0_10 a0_11 a0_12 a0_13 _ _ l0_14 a0_15 16 true _ ?side1 ?side2 A23.out).mono ?_); (case side1 => repeat (first | exact (Kd.C_below HR0_14.out (be1_ HB GE214)) | (with_reducible refine Kd.C_alloc ?_ _) | (with_reducible refine Kd.C_drewN ?_ _) | (with_reducible refine Kd.C_drew ?_))); (case side2 => exact HC0_14.out); rintro e w67 ⟨rfl, hb⟩; replace HO_3 := Aside0.mk (Kd.R_below (by (with_reducible repeat (first | apply Kd.R_alloc | apply Kd.R_drewN | apply Kd.R_drew)); exact HO_3.out) hb); replace BK214 := kb_ BK214 hb; replace HB := bs1_ HB GE214 hb; (try clear hb); have hcz68 := cf16 BK214) | (go_at_call 13; (with_reducible refine (sternpostref08_Has.calls a0_0 a0_1 a0_2 a0_3 a0_4 a0_5 a0_6 a0_7 a0_8 a0_9 a0_10 a0_11 a0_12 a0_13 _ _ l0_14 a0_15 32 false _ ?side1 ?side2 A25.out).mono ?_); (case side1 => exact cb_ HR0_14 HB); (case side2 => exact HC0_14.out); rintro e w69 ⟨rfl, hb⟩; replace HO_3 := Aside0.mk (Kd.R_below (by (with_reducible repeat (first | apply Kd.R_alloc | apply Kd.R_drewN | apply Kd.R_drew)); exact HO_3.out) hb); replace BK214 := kb_ BK214 hb; replace HB := bs1_ HB GE214 hb; (try clear hb); have hcz70 := cf16 BK214) | (go_at_call 29; (with_reducible refine (sternpostref07_Check.calls k1 a0_7 a0_8 a0_9 a0_10 a0_11 a0_12 a0_13 _ _ l0_14 t225 _ ?side1 ?side2 A54.out).mono ?_); (case side1 => exact cb_ HR0_14 HB); (case side2 => exact HC0_14.out); rintro e w71 ⟨rfl, hb⟩; replace HO_3 := Aside0.mk (Kd.R_below (by (with_reducible repeat (first | apply Kd.R_alloc | apply Kd.R_drewN | apply Kd.R_drew)); exact HO_3.out) hb); replace BK214 := kb_ BK214 hb; replace HB := bs1_ HB GE214 hb; (try clear hb); have hcz72 := cf16 BK214))
      go_ret
      exact ⟨ra_, (be1_ HB GE214)⟩
   replace c24 := Bool.eq_false_iff.mpr c24; subst c24
   have H1 : (if a0_3 = 0 then ((sternpostref08_Has.f a0_0 a0_1 a0_2 a0_3 a0_4 a0_5 a0_6 a0_7 a0_8 a0_9 a0_10 a0_11 a0_12 a0_13 l0_14 a0_15 32).bind fun t226 => (if t226 = true then ((sternpostref07_Check.f k1 a0_7 a0_8 a0_9 a0_10 a0_11 a0_12 a0_13 l0_14).bind fun t227 => (if t227 = 0 then (if (a0_15.size : Int) > 1480 then (some 80) else (some 0)) else (some 80))) else (if a0_6 = 0 then ((sternpostref07_Check.f k1 a0_7 a0_8 a0_9 a0_10 a0_11 a0_12 a0_13 l0_14).bind fun t228 => (if t228 = 0 then (if (a0_15.size : Int) > 1480 then (some 80) else (some 0)) else (some 80))) else (some 80)))) else (some 80)) = some r := by rw [if_neg (show ¬ (false = true) by decide)] at H; exact H
   clear H; have H := H1; clear H1
   by_cases c86 : a0_3 = 0
   rotate_left
   · rw [if_neg c86] at H
     have c86b0 : (a0_3 == 0) = false := beq_eq_false_iff_ne.mpr c86
     have c86b1 : (a0_3 != 0) = true := bne_iff_ne.mpr c86
     as_aux_lemma =>
      obtain rfl := Option.some.inj H
      obtain ⟨Ao148, co148, eo148⟩ := Kd.R_slice HO_3.out
      subst eo148; have hcz149 := cf16 BK214
      go_wp2_with (first | ((with_reducible refine gate_callee (f := 25) rfl ?_); refine goesL_ (some 34) rfl rfl Try.func25 (by kernel_rfl) rfl #[.int .i64 a0_2] rfl ga_ ?_; (with_reducible refine (sternpostref01_Check.calls a0_2 t220 _ A13.out).mono ?_); rintro e w' ⟨rfl, ⟨nd, rfl⟩⟩; refine ⟨_, rfl, ?_⟩) | (go_at_call 25; (with_reducible refine (sternpostref01_Check.calls a0_3 t221 _ A15.out).mono ?_); rintro e w' ⟨rfl, ⟨nd, rfl⟩⟩) | (go_at_call 13; (with_reducible refine (sternpostref08_Has.calls a0_0 a0_1 a0_2 a0_3 a0_4 a0_5 a0_6 a0_7 a0_8 a0_9 a0_10 a0_11 a0_12 a0_13 _ _ l0_14 a0_15 16 false _ ?side1 ?side2 A23.out).mono ?_); (case side1 => repeat (first | exact (Kd.C_below HR0_14.out (be1_ HB GE214)) | (with_reducible refine Kd.C_alloc ?_ _) | (with_reducible refine Kd.C_drewN ?_ _) | (with_reducible refine Kd.C_drew ?_))); (case side2 => exact HC0_14.out); rintro e w150 ⟨rfl, hb⟩; replace HO_3 := Aside0.mk (Kd.R_below (by (with_reducible repeat (first | apply Kd.R_alloc | apply Kd.R_drewN | apply Kd.R_drew)); exact HO_3.out) hb); replace BK214 := kb_ BK214 hb; replace HB := bs1_ HB GE214 hb; (try clear hb); have hcz151 := cf16 BK214))
      go_ret
      exact ⟨ra_, (be1_ HB GE214)⟩
   rw [if_pos c86] at H
   have c86b0 : (a0_3 == 0) = true := beq_iff_eq.mpr c86
   have c86b1 : (a0_3 != 0) = false := bne_eq_false_iff_eq.mpr c86
   clear c86; replace H := Option.bind_eq_some_iff.mp H; obtain ⟨t226, A870, H⟩ := H; (try dsimp only at H); have A87 := Aside0.mk A870; clear A870
   by_cases c88 : t226 = true
   · subst c88
     have H1 : ((sternpostref07_Check.f k1 a0_7 a0_8 a0_9 a0_10 a0_11 a0_12 a0_13 l0_14).bind fun t227 => (if t227 = 0 then (if (a0_15.size : Int) > 1480 then (some 80) else (some 0)) else (some 80))) = some r := by rw [if_pos rfl] at H; exact H
     clear H; have H := H1; clear H1; replace H := Option.bind_eq_some_iff.mp H; obtain ⟨t227, A890, H⟩ := H; (try dsimp only at H); have A89 := Aside0.mk A890; clear A890
     by_cases c90 : t227 = 0
     rotate_left
     · rw [if_neg c90] at H
       have c90b0 : (t227 == 0) = false := beq_eq_false_iff_ne.mpr c90
       have c90b1 : (t227 != 0) = true := bne_iff_ne.mpr c90
       as_aux_lemma =>
        obtain rfl := Option.some.inj H
        obtain ⟨Ao108, co108, eo108⟩ := Kd.R_slice HO_3.out
        subst eo108; have hcz109 := cf16 BK214
        go_wp2_with (first | ((with_reducible refine gate_callee (f := 25) rfl ?_); refine goesL_ (some 34) rfl rfl Try.func25 (by kernel_rfl) rfl #[.int .i64 a0_2] rfl ga_ ?_; (with_reducible refine (sternpostref01_Check.calls a0_2 t220 _ A13.out).mono ?_); rintro e w' ⟨rfl, ⟨nd, rfl⟩⟩; refine ⟨_, rfl, ?_⟩) | (go_at_call 25; (with_reducible refine (sternpostref01_Check.calls a0_3 t221 _ A15.out).mono ?_); rintro e w' ⟨rfl, ⟨nd, rfl⟩⟩) | (go_at_call 13; (with_reducible refine (sternpostref08_Has.calls a0_0 a0_1 a0_2 a0_3 a0_4 a0_5 a0_6 a0_7 a0_8 a0_9 a0_10 a0_11 a0_12 a0_13 _ _ l0_14 a0_15 16 false _ ?side1 ?side2 A23.out).mono ?_); (case side1 => repeat (first | exact (Kd.C_below HR0_14.out (be1_ HB GE214)) | (with_reducible refine Kd.C_alloc ?_ _) | (with_reducible refine Kd.C_drewN ?_ _) | (with_reducible refine Kd.C_drew ?_))); (case side2 => exact HC0_14.out); rintro e w110 ⟨rfl, hb⟩; replace HO_3 := Aside0.mk (Kd.R_below (by (with_reducible repeat (first | apply Kd.R_alloc | apply Kd.R_drewN | apply Kd.R_drew)); exact HO_3.out) hb); replace BK214 := kb_ BK214 hb; replace HB := bs1_ HB GE214 hb; (try clear hb); have hcz111 := cf16 BK214) | (go_at_call 13; (with_reducible refine (sternpostref08_Has.calls a0_0 a0_1 a0_2 a0_3 a0_4 a0_5 a0_6 a0_7 a0_8 a0_9 a0_10 a0_11 a0_12 a0_13 _ _ l0_14 a0_15 32 true _ ?side1 ?side2 A87.out).mono ?_); (case side1 => exact cb_ HR0_14 HB); (case side2 => exact HC0_14.out); rintro e w112 ⟨rfl, hb⟩; replace HO_3 := Aside0.mk (Kd.R_below (by (with_reducible repeat (first | apply Kd.R_alloc | apply Kd.R_drewN | apply Kd.R_drew)); exact HO_3.out) hb); replace BK214 := kb_ BK214 hb; replace HB := bs1_ HB GE214 hb; (try clear hb); have hcz113 := cf16 BK214) | (go_at_call 29; (with_reducible refine (sternpostref07_Check.calls k1 a0_7 a0_8 a0_9 a0_10 a0_11 a0_12 a0_13 _ _ l0_14 t227 _ ?side1 ?side2 A89.out).mono ?_); (case side1 => exact cb_ HR0_14 HB); (case side2 => exact HC0_14.out); rintro e w114 ⟨rfl, hb⟩; replace HO_3 := Aside0.mk (Kd.R_below (by (with_reducible repeat (first | apply Kd.R_alloc | apply Kd.R_drewN | apply Kd.R_drew)); exact HO_3.out) hb); replace BK214 := kb_ BK214 hb; replace HB := bs1_ HB GE214 hb; (try clear hb)))
        go_ret
        exact ⟨ra_, (be1_ HB GE214)⟩
     rw [if_pos c90] at H
     have c90b0 : (t227 == 0) = true := beq_iff_eq.mpr c90
     have c90b1 : (t227 != 0) = false := bne_eq_false_iff_eq.mpr c90
     clear c90
     by_cases c91 : (a0_15.size : Int) > 1480
     · rw [if_pos c91] at H
       have c91b0 : decide (1480 < (a0_15.size : Int)) = true := decide_eq_true c91
       have c91b1 : decide (1480 < a0_15.size) = true := decide_eq_true (by omega)
       clear c91
       as_aux_lemma =>
        obtain rfl := Option.some.inj H
        obtain ⟨Ao92, co92, eo92⟩ := Kd.R_slice HO_3.out
        subst eo92; have hcz93 := cf16 BK214
        go_wp2_with (first | ((with_reducible refine gate_callee (f := 25) rfl ?_); refine goesL_ (some 34) rfl rfl Try.func25 (by kernel_rfl) rfl #[.int .i64 a0_2] rfl ga_ ?_; (with_reducible refine (sternpostref01_Check.calls a0_2 t220 _ A13.out).mono ?_); rintro e w' ⟨rfl, ⟨nd, rfl⟩⟩; refine ⟨_, rfl, ?_⟩) | (go_at_call 25; (with_reducible refine (sternpostref01_Check.calls a0_3 t221 _ A15.out).mono ?_); rintro e w' ⟨rfl, ⟨nd, rfl⟩⟩) | (go_at_call 13; (with_reducible refine (sternpostref08_Has.calls a0_0 a0_1 a0_2 a0_3 a0_4 a0_5 a0_6 a0_7 a0_8 a0_9 a0_10 a0_11 a0_12 a0_13 _ _ l0_14 a0_15 16 false _ ?side1 ?side2 A23.out).mono ?_); (case side1 => repeat (first | exact (Kd.C_below HR0_14.out (be1_ HB GE214)) | (with_reducible refine Kd.C_alloc ?_ _) | (with_reducible refine Kd.C_drewN ?_ _) | (with_reducible refine Kd.C_drew ?_))); (case side2 => exact HC0_14.out); rintro e w94 ⟨rfl, hb⟩; replace HO_3 := Aside0.mk (Kd.R_below (by (with_reducible repeat (first | apply Kd.R_alloc | apply Kd.R_drewN | apply Kd.R_drew)); exact HO_3.out) hb); replace BK214 := kb_ BK214 hb; replace HB := bs1_ HB GE214 hb; (try clear hb); have hcz95 := cf16 BK214) | (go_at_call 13; (with_reducible refine (sternpostref08_Has.calls a0_0 a0_1 a0_2 a0_3 a0_4 a0_5 a0_6 a0_7 a0_8 a0_9 a0_10 a0_11 a0_12 a0_13 _ _ l0_14 a0_15 32 true _ ?side1 ?side2 A87.out).mono ?_); (case side1 => exact cb_ HR0_14 HB); (case side2 => exact HC0_14.out); rintro e w96 ⟨rfl, hb⟩; replace HO_3 := Aside0.mk (Kd.R_below (by (with_reducible repeat (first | apply Kd.R_alloc | apply Kd.R_drewN | apply Kd.R_drew)); exact HO_3.out) hb); replace BK214 := kb_ BK214 hb; replace HB := bs1_ HB GE214 hb; (try clear hb); have hcz97 := cf16 BK214) | (go_at_call 29; (with_reducible refine (sternpostref07_Check.calls k1 a0_7 a0_8 a0_9 a0_10 a0_11 a0_12 a0_13 _ _ l0_14 t227 _ ?side1 ?side2 A89.out).mono ?_); (case side1 => exact cb_ HR0_14 HB); (case side2 => exact HC0_14.out); rintro e w98 ⟨rfl, hb⟩; replace HO_3 := Aside0.mk (Kd.R_below (by (with_reducible repeat (first | apply Kd.R_alloc | apply Kd.R_drewN | apply Kd.R_drew)); exact HO_3.out) hb); replace BK214 := kb_ BK214 hb; replace HB := bs1_ HB GE214 hb; (try clear hb); have hcz99 := cf16 BK214))
        go_ret
        exact ⟨ra_, (be1_ HB GE214)⟩
     rw [if_neg c91] at H
     have c91b0 : decide (1480 < (a0_15.size : Int)) = false := decide_eq_false c91
     have c91b1 : decide (1480 < a0_15.size) = false := decide_eq_false (by omega)
     clear c91
     as_aux_lemma =>
      obtain rfl := Option.some.inj H
      obtain ⟨Ao100, co100, eo100⟩ := Kd.R_slice HO_3.out
      subst eo100; have hcz101 := cf16 BK214
      go_wp2_with (first | ((with_reducible refine gate_callee (f := 25) rfl ?_); refine goesL_ (some 34) rfl rfl Try.func25 (by kernel_rfl) rfl #[.int .i64 a0_2] rfl ga_ ?_; (with_reducible refine (sternpostref01_Check.calls a0_2 t220 _ A13.out).mono ?_); rintro e w' ⟨rfl, ⟨nd, rfl⟩⟩; refine ⟨_, rfl, ?_⟩) | (go_at_call 25; (with_reducible refine (sternpostref01_Check.calls a0_3 t221 _ A15.out).mono ?_); rintro e w' ⟨rfl, ⟨nd, rfl⟩⟩) | (go_at_call 13; (with_reducible refine (sternpostref08_Has.calls a0_0 a0_1 a0_2 a0_3 a0_4 a0_5 a0_6 a0_7 a0_8 a0_9 a0_10 a0_11 a0_12 a0_13 _ _ l0_14 a0_15 16 false _ ?side1 ?side2 A23.out).mono ?_); (case side1 => repeat (first | exact (Kd.C_below HR0_14.out (be1_ HB GE214)) | (with_reducible refine Kd.C_alloc ?_ _) | (with_reducible refine Kd.C_drewN ?_ _) | (with_reducible refine Kd.C_drew ?_))); (case side2 => exact HC0_14.out); rintro e w102 ⟨rfl, hb⟩; replace HO_3 := Aside0.mk (Kd.R_below (by (with_reducible repeat (first | apply Kd.R_alloc | apply Kd.R_drewN | apply Kd.R_drew)); exact HO_3.out) hb); replace BK214 := kb_ BK214 hb; replace HB := bs1_ HB GE214 hb; (try clear hb); have hcz103 := cf16 BK214) | (go_at_call 13; (with_reducible refine (sternpostref08_Has.calls a0_0 a0_1 a0_2 a0_3 a0_4 a0_5 a0_6 a0_7 a0_8 a0_9 a0_10 a0_11 a0_12 a0_13 _ _ l0_14 a0_15 32 true _ ?side1 ?side2 A87.out).mono ?_); (case side1 => exact cb_ HR0_14 HB); (case side2 => exact HC0_14.out); rintro e w104 ⟨rfl, hb⟩; replace HO_3 := Aside0.mk (Kd.R_below (by (with_reducible repeat (first | apply Kd.R_alloc | apply Kd.R_drewN | apply Kd.R_drew)); exact HO_3.out) hb); replace BK214 := kb_ BK214 hb; replace HB := bs1_ HB GE214 hb; (try clear hb); have hcz105 := cf16 BK214) | (go_at_call 29; (with_reducible refine (sternpostref07_Check.calls k1 a0_7 a0_8 a0_9 a0_10 a0_11 a0_12 a0_13 _ _ l0_14 t227 _ ?side1 ?side2 A89.out).mono ?_); (case side1 => exact cb_ HR0_14 HB); (case side2 => exact HC0_14.out); rintro e w106 ⟨rfl, hb⟩; replace HO_3 := Aside0.mk (Kd.R_below (by (with_reducible repeat (first | apply Kd.R_alloc | apply Kd.R_drewN | apply Kd.R_drew)); exact HO_3.out) hb); replace BK214 := kb_ BK214 hb; replace HB := bs1_ HB GE214 hb; (try clear hb); have hcz107 := cf16 BK214))
      go_ret
      exact ⟨ra_, (be1_ HB GE214)⟩
   replace c88 := Bool.eq_false_iff.mpr c88; subst c88
   have H1 : (if a0_6 = 0 then ((sternpostref07_Check.f k1 a0_7 a0_8 a0_9 a0_10 a0_11 a0_12 a0_13 l0_14).bind fun t228 => (if t228 = 0 then (if (a0_15.size : Int) > 1480 then (some 80) else (some 0)) else (some 80))) else (some 80)) = some r := by rw [if_neg (show ¬ (false = true) by decide)] at H; exact H
   clear H; have H := H1; clear H1
   by_cases c115 : a0_6 = 0
   rotate_left
   · rw [if_neg c115] at H
     have c115b0 : (a0_6 == 0) = false := beq_eq_false_iff_ne.mpr c115
     have c115b1 : (a0_6 != 0) = true := bne_iff_ne.mpr c115
     as_aux_lemma =>
      obtain rfl := Option.some.inj H
      obtain ⟨Ao142, co142, eo142⟩ := Kd.R_slice HO_3.out
      subst eo142; have hcz143 := cf16 BK214
      go_wp2_with (first | ((with_reducible refine gate_callee (f := 25) rfl ?_); refine goesL_ (some 34) rfl rfl Try.func25 (by kernel_rfl) rfl #[.int .i64 a0_2] rfl ga_ ?_; (with_reducible refine (sternpostref01_Check.calls a0_2 t220 _ A13.out).mono ?_); rintro e w' ⟨rfl, ⟨nd, rfl⟩⟩; refine ⟨_, rfl, ?_⟩) | (go_at_call 25; (with_reducible refine (sternpostref01_Check.calls a0_3 t221 _ A15.out).mono ?_); rintro e w' ⟨rfl, ⟨nd, rfl⟩⟩) | (go_at_call 13; (with_reducible refine (sternpostref08_Has.calls a0_0 a0_1 a0_2 a0_3 a0_4 a0_5 a0_6 a0_7 a0_8 a0_9 a0_10 a0_11 a0_12 a0_13 _ _ l0_14 a0_15 16 false _ ?side1 ?side2 A23.out).mono ?_); (case side1 => repeat (first | exact (Kd.C_below HR0_14.out (be1_ HB GE214)) | (with_reducible refine Kd.C_alloc ?_ _) | (with_reducible refine Kd.C_drewN ?_ _) | (with_reducible refine Kd.C_drew ?_))); (case side2 => exact HC0_14.out); rintro e w144 ⟨rfl, hb⟩; replace HO_3 := Aside0.mk (Kd.R_below (by (with_reducible repeat (first | apply Kd.R_alloc | apply Kd.R_drewN | apply Kd.R_drew)); exact HO_3.out) hb); replace BK214 := kb_ BK214 hb; replace HB := bs1_ HB GE214 hb; (try clear hb); have hcz145 := cf16 BK214) | (go_at_call 13; (with_reducible refine (sternpostref08_Has.calls a0_0 a0_1 a0_2 a0_3 a0_4 a0_5 a0_6 a0_7 a0_8 a0_9 a0_10 a0_11 a0_12 a0_13 _ _ l0_14 a0_15 32 false _ ?side1 ?side2 A87.out).mono ?_); (case side1 => exact cb_ HR0_14 HB); (case side2 => exact HC0_14.out); rintro e w146 ⟨rfl, hb⟩; replace HO_3 := Aside0.mk (Kd.R_below (by (with_reducible repeat (first | apply Kd.R_alloc | apply Kd.R_drewN | apply Kd.R_drew)); exact HO_3.out) hb); replace BK214 := kb_ BK214 hb; replace HB := bs1_ HB GE214 hb; (try clear hb); have hcz147 := cf16 BK214))
      go_ret
      exact ⟨ra_, (be1_ HB GE214)⟩
   rw [if_pos c115] at H
   have c115b0 : (a0_6 == 0) = true := beq_iff_eq.mpr c115
   have c115b1 : (a0_6 != 0) = false := bne_eq_false_iff_eq.mpr c115
   clear c115; replace H := Option.bind_eq_some_iff.mp H; obtain ⟨t228, A1160, H⟩ := H; (try dsimp only at H); have A116 := Aside0.mk A1160; clear A1160
   by_cases c117 : t228 = 0
   rotate_left
   · rw [if_neg c117] at H
     have c117b0 : (t228 == 0) = false := beq_eq_false_iff_ne.mpr c117
     have c117b1 : (t228 != 0) = true := bne_iff_ne.mpr c117
     as_aux_lemma =>
      obtain rfl := Option.some.inj H
      obtain ⟨Ao135, co135, eo135⟩ := Kd.R_slice HO_3.out
      subst eo135; have hcz136 := cf16 BK214
      go_wp2_with (first | ((with_reducible refine gate_callee (f := 25) rfl ?_); refine goesL_ (some 34) rfl rfl Try.func25 (by kernel_rfl) rfl #[.int .i64 a0_2] rfl ga_ ?_; (with_reducible refine (sternpostref01_Check.calls a0_2 t220 _ A13.out).mono ?_); rintro e w' ⟨rfl, ⟨nd, rfl⟩⟩; refine ⟨_, rfl, ?_⟩) | (go_at_call 25; (with_reducible refine (sternpostref01_Check.calls a0_3 t221 _ A15.out).mono ?_); rintro e w' ⟨rfl, ⟨nd, rfl⟩⟩) | (go_at_call 13; (with_reducible refine (sternpostref08_Has.calls a0_0 a0_1 a0_2 a0_3 a0_4 a0_5 a0_6 a0_7 a0_8 a0_9 a0_10 a0_11 a0_12 a0_13 _ _ l0_14 a0_15 16 false _ ?side1 ?side2 A23.out).mono ?_); (case side1 => repeat (first | exact (Kd.C_below HR0_14.out (be1_ HB GE214)) | (with_reducible refine Kd.C_alloc ?_ _) | (with_reducible refine Kd.C_drewN ?_ _) | (with_reducible refine Kd.C_drew ?_))); (case side2 => exact HC0_14.out); rintro e w137 ⟨rfl, hb⟩; replace HO_3 := Aside0.mk (Kd.R_below (by (with_reducible repeat (first | apply Kd.R_alloc | apply Kd.R_drewN | apply Kd.R_drew)); exact HO_3.out) hb); replace BK214 := kb_ BK214 hb; replace HB := bs1_ HB GE214 hb; (try clear hb); have hcz138 := cf16 BK214) | (go_at_call 13; (with_reducible refine (sternpostref08_Has.calls a0_0 a0_1 a0_2 a0_3 a0_4 a0_5 a0_6 a0_7 a0_8 a0_9 a0_10 a0_11 a0_12 a0_13 _ _ l0_14 a0_15 32 false _ ?side1 ?side2 A87.out).mono ?_); (case side1 => exact cb_ HR0_14 HB); (case side2 => exact HC0_14.out); rintro e w139 ⟨rfl, hb⟩; replace HO_3 := Aside0.mk (Kd.R_below (by (with_reducible repeat (first | apply Kd.R_alloc | apply Kd.R_drewN | apply Kd.R_drew)); exact HO_3.out) hb); replace BK214 := kb_ BK214 hb; replace HB := bs1_ HB GE214 hb; (try clear hb); have hcz140 := cf16 BK214) | (go_at_call 29; (with_reducible refine (sternpostref07_Check.calls k1 a0_7 a0_8 a0_9 a0_10 a0_11 a0_12 a0_13 _ _ l0_14 t228 _ ?side1 ?side2 A116.out).mono ?_); (case side1 => exact cb_ HR0_14 HB); (case side2 => exact HC0_14.out); rintro e w141 ⟨rfl, hb⟩; replace HO_3 := Aside0.mk (Kd.R_below (by (with_reducible repeat (first | apply Kd.R_alloc | apply Kd.R_drewN | apply Kd.R_drew)); exact HO_3.out) hb); replace BK214 := kb_ BK214 hb; replace HB := bs1_ HB GE214 hb; (try clear hb)))
      go_ret
      exact ⟨ra_, (be1_ HB GE214)⟩
   rw [if_pos c117] at H
   have c117b0 : (t228 == 0) = true := beq_iff_eq.mpr c117
   have c117b1 : (t228 != 0) = false := bne_eq_false_iff_eq.mpr c117
   clear c117
   by_cases c118 : (a0_15.size : Int) > 1480
   · rw [if_pos c118] at H
     have c118b0 : decide (1480 < (a0_15.size : Int)) = true := decide_eq_true c118
     have c118b1 : decide (1480 < a0_15.size) = true := decide_eq_true (by omega)
     clear c118
     as_aux_lemma =>
      obtain rfl := Option.some.inj H
      obtain ⟨Ao119, co119, eo119⟩ := Kd.R_slice HO_3.out
      subst eo119; have hcz120 := cf16 BK214
      go_wp2_with (first | ((with_reducible refine gate_callee (f := 25) rfl ?_); refine goesL_ (some 34) rfl rfl Try.func25 (by kernel_rfl) rfl #[.int .i64 a0_2] rfl ga_ ?_; (with_reducible refine (sternpostref01_Check.calls a0_2 t220 _ A13.out).mono ?_); rintro e w' ⟨rfl, ⟨nd, rfl⟩⟩; refine ⟨_, rfl, ?_⟩) | (go_at_call 25; (with_reducible refine (sternpostref01_Check.calls a0_3 t221 _ A15.out).mono ?_); rintro e w' ⟨rfl, ⟨nd, rfl⟩⟩) | (go_at_call 13; (with_reducible refine (sternpostref08_Has.calls a0_0 a0_1 a0_2 a0_3 a0_4 a0_5 a0_6 a0_7 a0_8 a0_9 a0_10 a0_11 a0_12 a0_13 _ _ l0_14 a0_15 16 false _ ?side1 ?side2 A23.out).mono ?_); (case side1 => repeat (first | exact (Kd.C_below HR0_14.out (be1_ HB GE214)) | (with_reducible refine Kd.C_alloc ?_ _) | (with_reducible refine Kd.C_drewN ?_ _) | (with_reducible refine Kd.C_drew ?_))); (case side2 => exact HC0_14.out); rintro e w121 ⟨rfl, hb⟩; replace HO_3 := Aside0.mk (Kd.R_below (by (with_reducible repeat (first | apply Kd.R_alloc | apply Kd.R_drewN | apply Kd.R_drew)); exact HO_3.out) hb); replace BK214 := kb_ BK214 hb; replace HB := bs1_ HB GE214 hb; (try clear hb); have hcz122 := cf16 BK214) | (go_at_call 13; (with_reducible refine (sternpostref08_Has.calls a0_0 a0_1 a0_2 a0_3 a0_4 a0_5 a0_6 a0_7 a0_8 a0_9 a0_10 a0_11 a0_12 a0_13 _ _ l0_14 a0_15 32 false _ ?side1 ?side2 A87.out).mono ?_); (case side1 => exact cb_ HR0_14 HB); (case side2 => exact HC0_14.out); rintro e w123 ⟨rfl, hb⟩; replace HO_3 := Aside0.mk (Kd.R_below (by (with_reducible repeat (first | apply Kd.R_alloc | apply Kd.R_drewN | apply Kd.R_drew)); exact HO_3.out) hb); replace BK214 := kb_ BK214 hb; replace HB := bs1_ HB GE214 hb; (try clear hb); have hcz124 := cf16 BK214) | (go_at_call 29; (with_reducible refine (sternpostref07_Check.calls k1 a0_7 a0_8 a0_9 a0_10 a0_11 a0_12 a0_13 _ _ l0_14 t228 _ ?side1 ?side2 A116.out).mono ?_); (case side1 => exact cb_ HR0_14 HB); (case side2 => exact HC0_14.out); rintro e w125 ⟨rfl, hb⟩; replace HO_3 := Aside0.mk (Kd.R_below (by (with_reducible repeat (first | apply Kd.R_alloc | apply Kd.R_drewN | apply Kd.R_drew)); exact HO_3.out) hb); replace BK214 := kb_ BK214 hb; replace HB := bs1_ HB GE214 hb; (try clear hb); have hcz126 := cf16 BK214))
      go_ret
      exact ⟨ra_, (be1_ HB GE214)⟩
   rw [if_neg c118] at H
   have c118b0 : decide (1480 < (a0_15.size : Int)) = false := decide_eq_false c118
   have c118b1 : decide (1480 < a0_15.size) = false := decide_eq_false (by omega)
   clear c118
   as_aux_lemma =>
    obtain rfl := Option.some.inj H
    obtain ⟨Ao127, co127, eo127⟩ := Kd.R_slice HO_3.out
    subst eo127; have hcz128 := cf16 BK214
    go_wp2_with (first | ((with_reducible refine gate_callee (f := 25) rfl ?_); refine goesL_ (some 34) rfl rfl Try.func25 (by kernel_rfl) rfl #[.int .i64 a0_2] rfl ga_ ?_; (with_reducible refine (sternpostref01_Check.calls a0_2 t220 _ A13.out).mono ?_); rintro e w' ⟨rfl, ⟨nd, rfl⟩⟩; refine ⟨_, rfl, ?_⟩) | (go_at_call 25; (with_reducible refine (sternpostref01_Check.calls a0_3 t221 _ A15.out).mono ?_); rintro e w' ⟨rfl, ⟨nd, rfl⟩⟩) | (go_at_call 13; (with_reducible refine (sternpostref08_Has.calls a0_0 a0_1 a0_2 a0_3 a0_4 a0_5 a0_6 a0_7 a0_8 a0_9 a0_10 a0_11 a0_12 a0_13 _ _ l0_14 a0_15 16 false _ ?side1 ?side2 A23.out).mono ?_); (case side1 => repeat (first | exact (Kd.C_below HR0_14.out (be1_ HB GE214)) | (with_reducible refine Kd.C_alloc ?_ _) | (with_reducible refine Kd.C_drewN ?_ _) | (with_reducible refine Kd.C_drew ?_))); (case side2 => exact HC0_14.out); rintro e w129 ⟨rfl, hb⟩; replace HO_3 := Aside0.mk (Kd.R_below (by (with_reducible repeat (first | apply Kd.R_alloc | apply Kd.R_drewN | apply Kd.R_drew)); exact HO_3.out) hb); replace BK214 := kb_ BK214 hb; replace HB := bs1_ HB GE214 hb; (try clear hb); have hcz130 := cf16 BK214) | (go_at_call 13; (with_reducible refine (sternpostref08_Has.calls a0_0 a0_1 a0_2 a0_3 a0_4 a0_5 a0_6 a0_7 a0_8 a0_9 a0_10 a0_11 a0_12 a0_13 _ _ l0_14 a0_15 32 false _ ?side1 ?side2 A87.out).mono ?_); (case side1 => exact cb_ HR0_14 HB); (case side2 => exact HC0_14.out); rintro e w131 ⟨rfl, hb⟩; replace HO_3 := Aside0.mk (Kd.R_below (by (with_reducible repeat (first | apply Kd.R_alloc | apply Kd.R_drewN | apply Kd.R_drew)); exact HO_3.out) hb); replace BK214 := kb_ BK214 hb; replace HB := bs1_ HB GE214 hb; (try clear hb); have hcz132 := cf16 BK214) | (go_at_call 29; (with_reducible refine (sternpostref07_Check.calls k1 a0_7 a0_8 a0_9 a0_10 a0_11 a0_12 a0_13 _ _ l0_14 t228 _ ?side1 ?side2 A116.out).mono ?_); (case side1 => exact cb_ HR0_14 HB); (case side2 => exact HC0_14.out); rintro e w133 ⟨rfl, hb⟩; replace HO_3 := Aside0.mk (Kd.R_below (by (with_reducible repeat (first | apply Kd.R_alloc | apply Kd.R_drewN | apply Kd.R_drew)); exact HO_3.out) hb); replace BK214 := kb_ BK214 hb; replace HB := bs1_ HB GE214 hb; (try clear hb); have hcz134 := cf16 BK214))
    go_ret
    exact ⟨ra_, (be1_ HB GE214)⟩

end Go.Proofs.Ytnhoadmgoaenpaa.PSegWrites
