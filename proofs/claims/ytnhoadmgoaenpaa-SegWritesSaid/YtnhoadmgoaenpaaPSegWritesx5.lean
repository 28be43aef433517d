-- Laid by a program of this session (the print, changed: wip/pp.py). Not trusted: Lean checks it.
import Derived.Test.YtnhoadmgoaenpaaPSegWritesx0
import Derived.Test.YtnhoadmgoaenpaaPSegWritesx1
import Derived.Test.YtnhoadmgoaenpaaPSegWritesx4
namespace Go.Proofs.Ytnhoadmgoaenpaa.PSegWrites
open Go.RowKit Go.Proofs.YtnhoadmgoaenpaaW.PrintWords Go.Proofs.YtnhoadmgoaenpaaW.PrintLast Go.Proofs.YtnhoadmgoaenpaaW.PrintMore
attribute [local go_sem] max2_int min2_int max_two min_two max_three min_three max_four min_four max_five min_five max_six min_six max_seven min_seven   -- for this text's walks alone
set_option linter.unusedVariables false
set_option linter.unusedSimpArgs false

/-! ### seg_Check: function 8 -/
mutual
def seg_Check.j0 : Nat → Bool → Int → Int → Int → Int → Int → Int → Int → Int → Int → Int → Int → Bool → Bool → Bool → List (S68) → ByteArray → Option (Int)
 | 0, _, _, _, _, _, _, _, _, _, _, _, _, _, _, _, _, _ => none
 | k + 1, x3, x139000, x139001, x139002, x139003, x139004, x139005, x139006, x139007, x139008, x139009, x139010, x139011, x139012, x139013, x139014, x139015 => if x3 = true then (seg_Check.j1 k true x139000 x139001 x139002 x139003 x139004 x139005 x139006 x139007 x139008 x139009 x139010 x139011 x139012 x139013 x139014 x139015) else ((seq_Check.f x139002).bind fun t139 => ((seq_Check.f x139003).bind fun t140 => ((opts_Check.f k x139007 x139008 x139009 x139010 x139011 x139012 x139013 x139014).bind fun t141 => (if (mx (mx t139 t140) t141) > 0 then (seg_Check.j1 k true x139000 x139001 x139002 x139003 x139004 x139005 x139006 x139007 x139008 x139009 x139010 x139011 x139012 x139013 x139014 x139015) else (seg_Check.j1 k (decide ((x139015.size : Int) > 1480)) x139000 x139001 x139002 x139003 x139004 x139005 x139006 x139007 x139008 x139009 x139010 x139011 x139012 x139013 x139014 x139015)))))
def seg_Check.j1 : Nat → Bool → Int → Int → Int → Int → Int → Int → Int → Int → Int → Int → Int → Bool → Bool → Bool → List (S68) → ByteArray → Option (Int)
 | 0, _, _, _, _, _, _, _, _, _, _, _, _, _, _, _, _, _ => none
 | k + 1, x3, x139000, x139001, x139002, x139003, x139004, x139005, x139006, x139007, x139008, x139009, x139010, x139011, x139012, x139013, x139014, x139015 => if x3 = true then (some 80) else (if x139003 > 0 then ((seg_Has.f x139000 x139001 x139002 x139003 x139004 x139005 x139006 x139007 x139008 x139009 x139010 x139011 x139012 x139013 x139014 x139015 16).bind fun t142 => (if t142 = true then (if x139006 > 0 then ((seg_Has.f x139000 x139001 x139002 x139003 x139004 x139005 x139006 x139007 x139008 x139009 x139010 x139011 x139012 x139013 x139014 x139015 32).bind fun t143 => (if t143 = true then (some 0) else (some 80))) else (some 0)) else (some 80))) else (if x139006 > 0 then ((seg_Has.f x139000 x139001 x139002 x139003 x139004 x139005 x139006 x139007 x139008 x139009 x139010 x139011 x139012 x139013 x139014 x139015 32).bind fun t144 => (if t144 = true then (some 0) else (some 80))) else (some 0)))
end
def seg_Check.f (k : Nat) (a0_0 : Int) (a0_1 : Int) (a0_2 : Int) (a0_3 : Int) (a0_4 : Int) (a0_5 : Int) (a0_6 : Int) (a0_7 : Int) (a0_8 : Int) (a0_9 : Int) (a0_10 : Int) (a0_11 : Bool) (a0_12 : Bool) (a0_13 : Bool) (l0_14 : List (S68)) (a0_15 : ByteArray) : Option (Int) := if (mn (mn (mn (mn a0_0 a0_1) a0_5) a0_6) a0_4) < 0 then (seg_Check.j0 k true a0_0 a0_1 a0_2 a0_3 a0_4 a0_5 a0_6 a0_7 a0_8 a0_9 a0_10 a0_11 a0_12 a0_13 l0_14 a0_15) else (if (mx (mx (mx a0_0 a0_1) a0_5) a0_6) > 65535 then (seg_Check.j0 k true a0_0 a0_1 a0_2 a0_3 a0_4 a0_5 a0_6 a0_7 a0_8 a0_9 a0_10 a0_11 a0_12 a0_13 l0_14 a0_15) else (seg_Check.j0 k (decide (a0_4 > 63)) a0_0 a0_1 a0_2 a0_3 a0_4 a0_5 a0_6 a0_7 a0_8 a0_9 a0_10 a0_11 a0_12 a0_13 l0_14 a0_15))
theorem seg_Check.mono_l : ∀ k, (∀ y0 y1 y2 y3 y4 y5 y6 y7 y8 y9 y10 y11 y12 y13 y14 y15 y16, LeO (seg_Check.j0 k y0 y1 y2 y3 y4 y5 y6 y7 y8 y9 y10 y11 y12 y13 y14 y15 y16) (seg_Check.j0 (k + 1) y0 y1 y2 y3 y4 y5 y6 y7 y8 y9 y10 y11 y12 y13 y14 y15 y16)) ∧ (∀ y0 y1 y2 y3 y4 y5 y6 y7 y8 y9 y10 y11 y12 y13 y14 y15 y16, LeO (seg_Check.j1 k y0 y1 y2 y3 y4 y5 y6 y7 y8 y9 y10 y11 y12 y13 y14 y15 y16) (seg_Check.j1 (k + 1) y0 y1 y2 y3 y4 y5 y6 y7 y8 y9 y10 y11 y12 y13 y14 y15 y16))
 | 0 => ⟨fun _ _ _ _ _ _ _ _ _ _ _ _ _ _ _ _ _ r h => by simp [seg_Check.j0] at h, fun _ _ _ _ _ _ _ _ _ _ _ _ _ _ _ _ _ r h => by simp [seg_Check.j1] at h⟩
 | k + 1 => by
  obtain ⟨ih0, ih1⟩ := seg_Check.mono_l k
  refine ⟨?_, ?_⟩
  ·
   intro y0 y1 y2 y3 y4 y5 y6 y7 y8 y9 y10 y11 y12 y13 y14 y15 y16
   unfold seg_Check.j0
   repeat' first
   | (with_reducible exact ih0 _ _ _ _ _ _ _ _ _ _ _ _ _ _ _ _ _)
   | (with_reducible exact ih1 _ _ _ _ _ _ _ _ _ _ _ _ _ _ _ _ _)
   | (with_reducible exact opts_Check.mono _ _ _ _ _ _ _ _ _)
   | (with_reducible exact LeO.refl _)
   | (with_reducible exact LeO.none _)
   | (with_reducible refine LeO.ite ?_ ?_)
   | (with_reducible refine LeO.bind ?_ (fun _ => ?_))
   | exact ih0 _ _ _ _ _ _ _ _ _ _ _ _ _ _ _ _ _
   | exact ih1 _ _ _ _ _ _ _ _ _ _ _ _ _ _ _ _ _
   | exact opts_Check.mono _ _ _ _ _ _ _ _ _
   | exact LeO.none _
   | refine LeO.ite ?_ ?_
   | refine LeO.bind ?_ (fun _ => ?_)
  ·
   intro y0 y1 y2 y3 y4 y5 y6 y7 y8 y9 y10 y11 y12 y13 y14 y15 y16
   unfold seg_Check.j1
   repeat' first
   | (with_reducible exact ih0 _ _ _ _ _ _ _ _ _ _ _ _ _ _ _ _ _)
   | (with_reducible exact ih1 _ _ _ _ _ _ _ _ _ _ _ _ _ _ _ _ _)
   | (with_reducible exact opts_Check.mono _ _ _ _ _ _ _ _ _)
   | (with_reducible exact LeO.refl _)
   | (with_reducible exact LeO.none _)
   | (with_reducible refine LeO.ite ?_ ?_)
   | (with_reducible refine LeO.bind ?_ (fun _ => ?_))
   | exact ih0 _ _ _ _ _ _ _ _ _ _ _ _ _ _ _ _ _
   | exact ih1 _ _ _ _ _ _ _ _ _ _ _ _ _ _ _ _ _
   | exact opts_Check.mono _ _ _ _ _ _ _ _ _
   | exact LeO.none _
   | refine LeO.ite ?_ ?_
   | refine LeO.bind ?_ (fun _ => ?_)
theorem seg_Check.mono : ∀ a0 a1 a2 a3 a4 a5 a6 a7 a8 a9 a10 a11 a12 a13 a14 a15 k, LeO (seg_Check.f k a0 a1 a2 a3 a4 a5 a6 a7 a8 a9 a10 a11 a12 a13 a14 a15) (seg_Check.f (k + 1) a0 a1 a2 a3 a4 a5 a6 a7 a8 a9 a10 a11 a12 a13 a14 a15) := by
 intro a0 a1 a2 a3 a4 a5 a6 a7 a8 a9 a10 a11 a12 a13 a14 a15 k
 obtain ⟨ih0, ih1⟩ := seg_Check.mono_l k
 unfold seg_Check.f
 repeat' first
  | (with_reducible exact ih0 _ _ _ _ _ _ _ _ _ _ _ _ _ _ _ _ _)
  | (with_reducible exact ih1 _ _ _ _ _ _ _ _ _ _ _ _ _ _ _ _ _)
  | (with_reducible exact opts_Check.mono _ _ _ _ _ _ _ _ _)
  | (with_reducible exact LeO.refl _)
  | (with_reducible exact LeO.none _)
  | (with_reducible refine LeO.ite ?_ ?_)
  | (with_reducible refine LeO.bind ?_ (fun _ => ?_))
  | exact ih0 _ _ _ _ _ _ _ _ _ _ _ _ _ _ _ _ _
  | exact ih1 _ _ _ _ _ _ _ _ _ _ _ _ _ _ _ _ _
  | exact opts_Check.mono _ _ _ _ _ _ _ _ _
  | exact LeO.none _
  | refine LeO.ite ?_ ?_
  | refine LeO.bind ?_ (fun _ => ?_)
def seg_Check.T2 : Bool × List (List Nat × List Nat) := (true, [([], []), ([0], [0]), ([1], [1]), ([2, 1], [1, 2]), ([3, 1, 1], [1, 3]), ([1], [1]), ([5, 1], [1, 5]), ([6, 4, 1], [1, 6]), ([1], [1]), ([8, 1], [1, 8]), ([9, 7, 1], [1, 9]), ([4, 7, 10, 1], [1, 4, 7, 10]), ([11, 1], [1, 11]), ([1, 12], [1, 12]), ([13, 10], [13]), ([14], [14]), ([15, 14], [14, 15]), ([16, 14], [14, 16]), ([17, 14], [14, 17]), ([14, 18], [14, 18]), ([19, 14, 0, 1, 2, 3, 4, 5, 6, 7, 8, 9, 10, 11, 12, 13, 14, 15, 16, 17, 18, 19], [0, 19])])
def seg_Check.B2 : List Nat := [0, 1, 3, 7, 15, 3, 35, 127, 3, 259, 1023, 2047, 4095, 8191, 16383, 32767, 65535, 131071, 262143, 524287, 1048575]
theorem seg_Check.tab2 : rtab .any (opsOf Try.f8 2) = seg_Check.T2 := by kernel_rfl
theorem seg_Check.bits2 : waitsOk seg_Check.T2.2 seg_Check.B2 = true := by kernel_rfl
set_option maxHeartbeats 8000000 in
set_option maxRecDepth 100000 in
theorem seg_Check.calls (k : Nat) (a0_0 : Int) (a0_1 : Int) (a0_2 : Int) (a0_3 : Int) (a0_4 : Int) (a0_5 : Int) (a0_6 : Int) (a0_7 : Int) (a0_8 : Int) (a0_9 : Int) (a0_10 : Int) (a0_11 : Bool) (a0_12 : Bool) (a0_13 : Bool) (A0_14 : Option Addr) (c0_14 : Nat) (l0_14 : List (S68)) (a0_15 : ByteArray) (r : Int) (w : World) (hr0_14 : Kd.C k68 w A0_14 l0_14.length l0_14) (hc0_14 : l0_14.length ≤ c0_14) (h : seg_Check.f k a0_0 a0_1 a0_2 a0_3 a0_4 a0_5 a0_6 a0_7 a0_8 a0_9 a0_10 a0_11 a0_12 a0_13 l0_14 a0_15 = some r) :
 Calls Try.prog 8 #[.agg #[.int .i64 a0_0, .int .i64 a0_1, .int .i64 a0_2, .int .i64 a0_3, .int .i64 a0_4, .int .i64 a0_5, .int .i64 a0_6, .int .i64 a0_7, .int .i64 a0_8, .int .i64 a0_9, .int .i64 a0_10, .bool a0_11, .bool a0_12, .bool a0_13, .slice A0_14 l0_14.length c0_14, .string a0_15]] w fun e w' => e = .returned (.int .i64 r) ∧ Below w.heap.size w w' := by
 have hu28 := Try.underlying28
 have hu26 := Try.underlying26
 have HR0_14 := Aside0.mk hr0_14; have HC0_14 := Aside0.mk hc0_14; clear hr0_14 hc0_14
 have HB := Aside0.mk (Below.refl w.heap.size w)
 have H : (if (mn (mn (mn (mn a0_0 a0_1) a0_5) a0_6) a0_4) < 0 then (seg_Check.j0 k true a0_0 a0_1 a0_2 a0_3 a0_4 a0_5 a0_6 a0_7 a0_8 a0_9 a0_10 a0_11 a0_12 a0_13 l0_14 a0_15) else (if (mx (mx (mx a0_0 a0_1) a0_5) a0_6) > 65535 then (seg_Check.j0 k true a0_0 a0_1 a0_2 a0_3 a0_4 a0_5 a0_6 a0_7 a0_8 a0_9 a0_10 a0_11 a0_12 a0_13 l0_14 a0_15) else (seg_Check.j0 k (decide (a0_4 > 63)) a0_0 a0_1 a0_2 a0_3 a0_4 a0_5 a0_6 a0_7 a0_8 a0_9 a0_10 a0_11 a0_12 a0_13 l0_14 a0_15))) = some r := h
 clear h; have HC2 := Aside0.mk H; clear H
 go_enter Try.func8, Try.ntmps8
 go_upto_region 1 with (first | ((with_reducible refine gate_dst (N := 1) rfl ?_); (try (refine gate_guard (by rfl) ?_; dsimp only)); refine box_event ?hg (N := 1) ?hd (cs := #[.int .i64 a0_0, .int .i64 a0_1, .int .i64 a0_2, .int .i64 a0_3, .int .i64 a0_4, .int .i64 a0_5, .int .i64 a0_6, .int .i64 a0_7, .int .i64 a0_8, .int .i64 a0_9, .int .i64 a0_10, .bool a0_11, .bool a0_12, .bool a0_13, .slice A0_14 l0_14.length c0_14, .string a0_15]) (t := 28) ?hr ?_; (case hd => rfl); (case hg => rfl); (case hr => go_simp; first | done | (simp only [IntKind.wrap_u8]; done) | rfl); intro gb138 hg w3 hbox hb; have BK138 := Aside0.mk (hbox); have GW138 := gz_ (be0_ HB) hg; have GE138 := gz_ (be0_ HB) hg; replace HB := bs0_ HB hb; clear hb hbox hg))
 (try simp only [Act.put, s_0, s_1, s_2])
 go_cut [3] (fun v3 wc => ∃ (kq : Nat) (x3_1 : Bool), v3 = .bool x3_1 ∧ Aside0 (seg_Check.j0 kq x3_1 a0_0 a0_1 a0_2 a0_3 a0_4 a0_5 a0_6 a0_7 a0_8 a0_9 a0_10 a0_11 a0_12 a0_13 l0_14 a0_15 = some r) ∧ Aside0 (kq ≤ k) ∧ Aside0 (wc.heap[gb138]? = some (.cells #[.int .i64 a0_0, .int .i64 a0_1, .int .i64 a0_2, .int .i64 a0_3, .int .i64 a0_4, .int .i64 a0_5, .int .i64 a0_6, .int .i64 a0_7, .int .i64 a0_8, .int .i64 a0_9, .int .i64 a0_10, .bool a0_11, .bool a0_12, .bool a0_13, (.slice A0_14 l0_14.length c0_14), .string a0_15] 28 (0, 0))) ∧ Aside0 (Below w.heap.size w wc))
 case first =>
  have H := HC2.out
  clear HC2
  obtain ⟨ji4, hji4⟩ : ∃ j_ : Int, (mn a0_0 a0_1) = j_ := ⟨_, rfl⟩
  replace H : (if (mn (mn (mn (ji4) a0_5) a0_6) a0_4) < 0 then (seg_Check.j0 k true a0_0 a0_1 a0_2 a0_3 a0_4 a0_5 a0_6 a0_7 a0_8 a0_9 a0_10 a0_11 a0_12 a0_13 l0_14 a0_15) else (if (mx (mx (mx a0_0 a0_1) a0_5) a0_6) > 65535 then (seg_Check.j0 k true a0_0 a0_1 a0_2 a0_3 a0_4 a0_5 a0_6 a0_7 a0_8 a0_9 a0_10 a0_11 a0_12 a0_13 l0_14 a0_15) else (seg_Check.j0 k (decide (a0_4 > 63)) a0_0 a0_1 a0_2 a0_3 a0_4 a0_5 a0_6 a0_7 a0_8 a0_9 a0_10 a0_11 a0_12 a0_13 l0_14 a0_15))) = some r := by first | (rw [hji4] at H; exact H) | (simp only [hji4] at H ⊢; exact H)
  have hji4_ : (if a0_1 < a0_0 then a0_1 else a0_0) = ji4 := hji4
  obtain ⟨ji5, hji5⟩ : ∃ j_ : Int, (mn (ji4) a0_5) = j_ := ⟨_, rfl⟩
  replace H : (if (mn (mn (ji5) a0_6) a0_4) < 0 then (seg_Check.j0 k true a0_0 a0_1 a0_2 a0_3 a0_4 a0_5 a0_6 a0_7 a0_8 a0_9 a0_10 a0_11 a0_12 a0_13 l0_14 a0_15) else (if (mx (mx (mx a0_0 a0_1) a0_5) a0_6) > 65535 then (seg_Check.j0 k true a0_0 a0_1 a0_2 a0_3 a0_4 a0_5 a0_6 a0_7 a0_8 a0_9 a0_10 a0_11 a0_12 a0_13 l0_14 a0_15) else (seg_Check.j0 k (decide (a0_4 > 63)) a0_0 a0_1 a0_2 a0_3 a0_4 a0_5 a0_6 a0_7 a0_8 a0_9 a0_10 a0_11 a0_12 a0_13 l0_14 a0_15))) = some r := by first | (rw [hji5] at H; exact H) | (simp only [hji5] at H ⊢; exact H)
  have hji5_ : (if a0_5 < (ji4) then a0_5 else (ji4)) = ji5 := hji5
  obtain ⟨ji6, hji6⟩ : ∃ j_ : Int, (mn (ji5) a0_6) = j_ := ⟨_, rfl⟩
  replace H : (if (mn (ji6) a0_4) < 0 then (seg_Check.j0 k true a0_0 a0_1 a0_2 a0_3 a0_4 a0_5 a0_6 a0_7 a0_8 a0_9 a0_10 a0_11 a0_12 a0_13 l0_14 a0_15) else (if (mx (mx (mx a0_0 a0_1) a0_5) a0_6) > 65535 then (seg_Check.j0 k true a0_0 a0_1 a0_2 a0_3 a0_4 a0_5 a0_6 a0_7 a0_8 a0_9 a0_10 a0_11 a0_12 a0_13 l0_14 a0_15) else (seg_Check.j0 k (decide (a0_4 > 63)) a0_0 a0_1 a0_2 a0_3 a0_4 a0_5 a0_6 a0_7 a0_8 a0_9 a0_10 a0_11 a0_12 a0_13 l0_14 a0_15))) = some r := by first | (rw [hji6] at H; exact H) | (simp only [hji6] at H ⊢; exact H)
  have hji6_ : (if a0_6 < (ji5) then a0_6 else (ji5)) = ji6 := hji6
  obtain ⟨ji7, hji7⟩ : ∃ j_ : Int, (mn (ji6) a0_4) = j_ := ⟨_, rfl⟩
  replace H : (if (ji7) < 0 then (seg_Check.j0 k true a0_0 a0_1 a0_2 a0_3 a0_4 a0_5 a0_6 a0_7 a0_8 a0_9 a0_10 a0_11 a0_12 a0_13 l0_14 a0_15) else (if (mx (mx (mx a0_0 a0_1) a0_5) a0_6) > 65535 then (seg_Check.j0 k true a0_0 a0_1 a0_2 a0_3 a0_4 a0_5 a0_6 a0_7 a0_8 a0_9 a0_10 a0_11 a0_12 a0_13 l0_14 a0_15) else (seg_Check.j0 k (decide (a0_4 > 63)) a0_0 a0_1 a0_2 a0_3 a0_4 a0_5 a0_6 a0_7 a0_8 a0_9 a0_10 a0_11 a0_12 a0_13 l0_14 a0_15))) = some r := by first | (rw [hji7] at H; exact H) | (simp only [hji7] at H ⊢; exact H)
  have hji7_ : (if a0_4 < (ji6) then a0_4 else (ji6)) = ji7 := hji7
  by_cases c8 : (ji7) < 0
  · rw [if_pos c8] at H
    have c8b0 : decide ((ji7) < 0) = true := decide_eq_true c8
    clear c8
    (first | rw [c8b0] | rw [c8b1] | (simp only [i64_w, i32_w]; rw [c8b0]) | skip)
    next =>
     have H' := Aside0.mk H; clear H; have hcz9 := cf16 BK138
     go_wp2
     go_meet
     case rel => exact ⟨_, (true), (by first | rfl | (simp; done) | (simp [*]; done)), H', ⟨by first | omega | exact Nat.le_refl _⟩, ⟨by (with_reducible repeat (first | refine blk_drewN ?_ _ | refine blk_drew ?_ | refine blk_alloc ?_ _)); exact BK138.out⟩, ⟨by repeat (first | (with_reducible first | exact HB.out | apply below_alloc | apply pw_below_drewN | apply below_drew1 | refine below_set ?_ GE138.out) | exact HB.out)⟩⟩
  rw [if_neg c8] at H
  have c8b0 : decide ((ji7) < 0) = false := decide_eq_false c8
  clear c8
  (first | rw [c8b0] | rw [c8b1] | (simp only [i64_w, i32_w]; rw [c8b0]) | skip)
  obtain ⟨ji10, hji10⟩ : ∃ j_ : Int, (mx a0_0 a0_1) = j_ := ⟨_, rfl⟩
  replace H : (if (mx (mx (ji10) a0_5) a0_6) > 65535 then (seg_Check.j0 k true a0_0 a0_1 a0_2 a0_3 a0_4 a0_5 a0_6 a0_7 a0_8 a0_9 a0_10 a0_11 a0_12 a0_13 l0_14 a0_15) else (seg_Check.j0 k (decide (a0_4 > 63)) a0_0 a0_1 a0_2 a0_3 a0_4 a0_5 a0_6 a0_7 a0_8 a0_9 a0_10 a0_11 a0_12 a0_13 l0_14 a0_15)) = some r := by first | (rw [hji10] at H; exact H) | (simp only [hji10] at H ⊢; exact H)
  have hji10_ : (if a0_0 < a0_1 then a0_1 else a0_0) = ji10 := hji10
  obtain ⟨ji11, hji11⟩ : ∃ j_ : Int, (mx (ji10) a0_5) = j_ := ⟨_, rfl⟩
  replace H : (if (mx (ji11) a0_6) > 65535 then (seg_Check.j0 k true a0_0 a0_1 a0_2 a0_3 a0_4 a0_5 a0_6 a0_7 a0_8 a0_9 a0_10 a0_11 a0_12 a0_13 l0_14 a0_15) else (seg_Check.j0 k (decide (a0_4 > 63)) a0_0 a0_1 a0_2 a0_3 a0_4 a0_5 a0_6 a0_7 a0_8 a0_9 a0_10 a0_11 a0_12 a0_13 l0_14 a0_15)) = some r := by first | (rw [hji11] at H; exact H) | (simp only [hji11] at H ⊢; exact H)
  have hji11_ : (if (ji10) < a0_5 then a0_5 else (ji10)) = ji11 := hji11
  obtain ⟨ji12, hji12⟩ : ∃ j_ : Int, (mx (ji11) a0_6) = j_ := ⟨_, rfl⟩
  replace H : (if (ji12) > 65535 then (seg_Check.j0 k true a0_0 a0_1 a0_2 a0_3 a0_4 a0_5 a0_6 a0_7 a0_8 a0_9 a0_10 a0_11 a0_12 a0_13 l0_14 a0_15) else (seg_Check.j0 k (decide (a0_4 > 63)) a0_0 a0_1 a0_2 a0_3 a0_4 a0_5 a0_6 a0_7 a0_8 a0_9 a0_10 a0_11 a0_12 a0_13 l0_14 a0_15)) = some r := by first | (rw [hji12] at H; exact H) | (simp only [hji12] at H ⊢; exact H)
  have hji12_ : (if (ji11) < a0_6 then a0_6 else (ji11)) = ji12 := hji12
  by_cases c13 : (ji12) > 65535
  · rw [if_pos c13] at H
    have c13b0 : decide (65535 < (ji12)) = true := decide_eq_true c13
    clear c13
    next =>
     have H' := Aside0.mk H; clear H; have hcz14 := cf16 BK138
     go_wp2
     go_meet
     case rel => exact ⟨_, (true), (by first | rfl | (simp; done) | (simp [*]; done)), H', ⟨by first | omega | exact Nat.le_refl _⟩, ⟨by (with_reducible repeat (first | refine blk_drewN ?_ _ | refine blk_drew ?_ | refine blk_alloc ?_ _)); exact BK138.out⟩, ⟨by repeat (first | (with_reducible first | exact HB.out | apply below_alloc | apply pw_below_drewN | apply below_drew1 | refine below_set ?_ GE138.out) | exact HB.out)⟩⟩
  rw [if_neg c13] at H
  have c13b0 : decide (65535 < (ji12)) = false := decide_eq_false c13
  clear c13
  next =>
   have H' := Aside0.mk H; clear H; have hcz15 := cf16 BK138
   go_wp2
   go_meet
   case rel => exact ⟨_, (decide (a0_4 > 63)), (by first | rfl | (simp; done) | (simp [*]; done)), H', ⟨by first | omega | exact Nat.le_refl _⟩, ⟨by (with_reducible repeat (first | refine blk_drewN ?_ _ | refine blk_drew ?_ | refine blk_alloc ?_ _)); exact BK138.out⟩, ⟨by repeat (first | (with_reducible first | exact HB.out | apply below_alloc | apply pw_below_drewN | apply below_drew1 | refine below_set ?_ GE138.out) | exact HB.out)⟩⟩
 case rest =>
  clear HC2; (try clear c1); (try clear p2); (try clear c8); (try clear c8b0); (try clear c8b1); (try clear c13); (try clear c13b0); (try clear hcz14_0); (try clear hcz14_1); (try clear hcz14_10); (try clear hcz14_11); (try clear hcz14_12); (try clear hcz14_13); (try clear hcz14_14); (try clear hcz14_15); (try clear hcz14_2); (try clear hcz14_3); (try clear hcz14_4); (try clear hcz14_5); (try clear hcz14_6); (try clear hcz14_7); (try clear hcz14_8); (try clear hcz14_9); (try clear hcz15_0); (try clear hcz15_1); (try clear hcz15_10); (try clear hcz15_11); (try clear hcz15_12); (try clear hcz15_13)
  (try clear hcz15_14); (try clear hcz15_15); (try clear hcz15_2); (try clear hcz15_3); (try clear hcz15_4); (try clear hcz15_5); (try clear hcz15_6); (try clear hcz15_7); (try clear hcz15_8); (try clear hcz15_9); (try clear hcz9_0); (try clear hcz9_1); (try clear hcz9_10); (try clear hcz9_11); (try clear hcz9_12); (try clear hcz9_13); (try clear hcz9_14); (try clear hcz9_15); (try clear hcz9_2); (try clear hcz9_3); (try clear hcz9_4); (try clear hcz9_5); (try clear hcz9_6); (try clear hcz9_7); (try clear hcz9_8); (try clear hcz9_9); (try clear hfz14_0); (try clear hfz14_1); (try clear hfz14_10)
  (try clear hfz14_11); (try clear hfz14_12); (try clear hfz14_13); (try clear hfz14_14); (try clear hfz14_15); (try clear hfz14_2); (try clear hfz14_3); (try clear hfz14_4); (try clear hfz14_5); (try clear hfz14_6); (try clear hfz14_7); (try clear hfz14_8); (try clear hfz14_9); (try clear hfz15_0); (try clear hfz15_1); (try clear hfz15_10); (try clear hfz15_11); (try clear hfz15_12); (try clear hfz15_13); (try clear hfz15_14); (try clear hfz15_15); (try clear hfz15_2); (try clear hfz15_3); (try clear hfz15_4); (try clear hfz15_5); (try clear hfz15_6); (try clear hfz15_7); (try clear hfz15_8); (try clear hfz15_9)
  (try clear hfz9_0); (try clear hfz9_1); (try clear hfz9_10); (try clear hfz9_11); (try clear hfz9_12); (try clear hfz9_13); (try clear hfz9_14); (try clear hfz9_15); (try clear hfz9_2); (try clear hfz9_3); (try clear hfz9_4); (try clear hfz9_5); (try clear hfz9_6); (try clear hfz9_7); (try clear hfz9_8); (try clear hfz9_9)
  obtain ⟨kq, x3_1, rfl, HA, HJ1, BK138, HB⟩ := hcut
  cases kq with
  | zero => exact absurd HA.out (by simp [seg_Check.j0])
  | succ kj1 =>
   have H := HA.out
   clear HA
   simp only [seg_Check.j0] at H
   have HC16 := Aside0.mk H; clear H
   go_upto_region 2 with (fail)
   go_cut [3] (fun v3 wc => ∃ (kq : Nat) (x3_15 : Bool), v3 = .bool x3_15 ∧ Aside0 (seg_Check.j1 kq x3_15 a0_0 a0_1 a0_2 a0_3 a0_4 a0_5 a0_6 a0_7 a0_8 a0_9 a0_10 a0_11 a0_12 a0_13 l0_14 a0_15 = some r) ∧ Aside0 (kq ≤ kj1) ∧ Aside0 (wc.heap[gb138]? = some (.cells #[.int .i64 a0_0, .int .i64 a0_1, .int .i64 a0_2, .int .i64 a0_3, .int .i64 a0_4, .int .i64 a0_5, .int .i64 a0_6, .int .i64 a0_7, .int .i64 a0_8, .int .i64 a0_9, .int .i64 a0_10, .bool a0_11, .bool a0_12, .bool a0_13, (.slice A0_14 l0_14.length c0_14), .string a0_15] 28 (0, 0))) ∧ Aside0 (Below w.heap.size w wc))
   case first =>
    have H := HC16.out
    clear HC16
    by_cases c17 : x3_1 = true
    · subst c17
      have H1 : (seg_Check.j1 kj1 true a0_0 a0_1 a0_2 a0_3 a0_4 a0_5 a0_6 a0_7 a0_8 a0_9 a0_10 a0_11 a0_12 a0_13 l0_14 a0_15) = some r := by rw [if_pos rfl] at H; exact H
      clear H; have H := H1; clear H1
      next =>
       have H' := Aside0.mk H; clear H
       try go_wp2
       replace BK138 := Aside0.mk (blk_drew BK138.out); replace HB := Aside0.mk (below_drew1 HB.out)
       refine start_ (n := 21) (S := fun w' => True) (ds := []) (bz 21 0) (by kernel_rfl) rfl rfl trivial (fun hHeld => ?_); refine with_tabW seg_Check.tab2 seg_Check.bits2 (fun HT_ HW_ => ?_)
       generalize wc.drew = w18 at BK138 HB hHeld ⊢
       refine pure_ (i := 0) (N := some 33) (v := ?_) (a' := ?_) (bz 21 1) rfl rfl (any_of HT_.out (by kernel_rfl)) (fun _ _ _ h => h) (Or.inl ⟨by rfl, ?_⟩) ?_ ?_
       rotate_left
       · intro w'; go_simp; (with_reducible rfl)
       rotate_left
       · simp only [Act.put, s_0, s_1, s_2, i64_w, i32_w]; rfl
       refine pure_ (i := 1) (N := some 34) (v := ?_) (a' := ?_) (bz 21 3) rfl rfl (any_of HT_.out (by kernel_rfl)) (fun _ _ _ h => h) (Or.inl ⟨by rfl, ?_⟩) ?_ ?_
       rotate_left
       · intro w'; go_simp; (with_reducible rfl)
       rotate_left
       · simp only [Act.put, s_0, s_1, s_2, i64_w, i32_w]; rfl
       refine pure_ (i := 2) (N := some 35) (v := undef) (a' := ?_) (bz 21 7) rfl rfl (any_of HT_.out (by kernel_rfl)) (fun _ _ _ h => h) (Or.inr ⟨by rfl, rfl⟩) ?_ ?_
       rotate_left
       · simp only [Act.put, s_0, s_1, s_2, i64_w, i32_w]; rfl
       refine pure_ (i := 3) (N := some 36) (v := undef) (a' := ?_) (bz 21 15) rfl rfl (any_of HT_.out (by kernel_rfl)) (fun _ _ _ h => h) (Or.inr ⟨by rfl, rfl⟩) ?_ ?_
       rotate_left
       · simp only [Act.put, s_0, s_1, s_2, i64_w, i32_w]; rfl
       refine pure_ (i := 4) (N := some 37) (v := undef) (a' := ?_) (bz 21 31) rfl rfl (any_of HT_.out (by kernel_rfl)) (fun _ _ _ h => h) (Or.inr ⟨by rfl, rfl⟩) ?_ ?_
       rotate_left
       · simp only [Act.put, s_0, s_1, s_2, i64_w, i32_w]; rfl
       refine pure_ (i := 5) (N := some 38) (v := undef) (a' := ?_) (bz 21 63) rfl rfl (any_of HT_.out (by kernel_rfl)) (fun _ _ _ h => h) (Or.inr ⟨by rfl, rfl⟩) ?_ ?_
       rotate_left
       · simp only [Act.put, s_0, s_1, s_2, i64_w, i32_w]; rfl
       refine pure_ (i := 6) (N := some 39) (v := undef) (a' := ?_) (bz 21 127) rfl rfl (any_of HT_.out (by kernel_rfl)) (fun _ _ _ h => h) (Or.inr ⟨by rfl, rfl⟩) ?_ ?_
       rotate_left
       · simp only [Act.put, s_0, s_1, s_2, i64_w, i32_w]; rfl
       refine pure_ (i := 7) (N := some 40) (v := undef) (a' := ?_) (bz 21 255) rfl rfl (any_of HT_.out (by kernel_rfl)) (fun _ _ _ h => h) (Or.inr ⟨by rfl, rfl⟩) ?_ ?_
       rotate_left
       · simp only [Act.put, s_0, s_1, s_2, i64_w, i32_w]; rfl
       refine pure_ (i := 8) (N := some 41) (v := undef) (a' := ?_) (bz 21 511) rfl rfl (any_of HT_.out (by kernel_rfl)) (fun _ _ _ h => h) (Or.inr ⟨by rfl, rfl⟩) ?_ ?_
       rotate_left
       · simp only [Act.put, s_0, s_1, s_2, i64_w, i32_w]; rfl
       refine pure_ (i := 9) (N := some 42) (v := undef) (a' := ?_) (bz 21 1023) rfl rfl (any_of HT_.out (by kernel_rfl)) (fun _ _ _ h => h) (Or.inr ⟨by rfl, rfl⟩) ?_ ?_
       rotate_left
       · simp only [Act.put, s_0, s_1, s_2, i64_w, i32_w]; rfl
       refine pure_ (i := 10) (N := some 43) (v := undef) (a' := ?_) (bz 21 2047) rfl rfl (any_of HT_.out (by kernel_rfl)) (fun _ _ _ h => h) (Or.inr ⟨by rfl, rfl⟩) ?_ ?_
       rotate_left
       · simp only [Act.put, s_0, s_1, s_2, i64_w, i32_w]; rfl
       refine pure_ (i := 11) (N := some 44) (v := undef) (a' := ?_) (bz 21 4095) rfl rfl (any_of HT_.out (by kernel_rfl)) (fun _ _ _ h => h) (Or.inr ⟨by rfl, rfl⟩) ?_ ?_
       rotate_left
       · simp only [Act.put, s_0, s_1, s_2, i64_w, i32_w]; rfl
       refine pure_ (i := 12) (N := some 45) (v := undef) (a' := ?_) (bz 21 8191) rfl rfl (any_of HT_.out (by kernel_rfl)) (fun _ _ _ h => h) (Or.inr ⟨by rfl, rfl⟩) ?_ ?_
       rotate_left
       · simp only [Act.put, s_0, s_1, s_2, i64_w, i32_w]; rfl
       refine pure_ (i := 13) (N := some 46) (v := ?_) (a' := ?_) (bz 21 16383) rfl rfl (any_of HT_.out (by kernel_rfl)) (fun _ _ _ h => h) (Or.inl ⟨by rfl, ?_⟩) ?_ ?_
       rotate_left
       · intro w'; go_simp; (with_reducible rfl)
       rotate_left
       · simp only [Act.put, s_0, s_1, s_2, i64_w, i32_w]; rfl
       refine pure_ (i := 14) (N := some 47) (v := ?_) (a' := ?_) (bz 21 32767) rfl rfl (any_of HT_.out (by kernel_rfl)) (fun _ _ _ h => h) (Or.inl ⟨by rfl, ?_⟩) ?_ ?_
       rotate_left
       · intro w'; go_simp; (with_reducible rfl)
       rotate_left
       · simp only [Act.put, s_0, s_1, s_2, i64_w, i32_w]; rfl
       refine pure_ (i := 15) (N := some 48) (v := undef) (a' := ?_) (bz 21 65535) rfl rfl (any_of HT_.out (by kernel_rfl)) (fun _ _ _ h => h) (Or.inr ⟨by rfl, rfl⟩) ?_ ?_
       rotate_left
       · simp only [Act.put, s_0, s_1, s_2, i64_w, i32_w]; rfl
       refine pure_ (i := 16) (N := some 49) (v := undef) (a' := ?_) (bz 21 131071) rfl rfl (any_of HT_.out (by kernel_rfl)) (fun _ _ _ h => h) (Or.inr ⟨by rfl, rfl⟩) ?_ ?_
       rotate_left
       · simp only [Act.put, s_0, s_1, s_2, i64_w, i32_w]; rfl
       refine pure_ (i := 17) (N := some 50) (v := undef) (a' := ?_) (bz 21 262143) rfl rfl (any_of HT_.out (by kernel_rfl)) (fun _ _ _ h => h) (Or.inr ⟨by rfl, rfl⟩) ?_ ?_
       rotate_left
       · simp only [Act.put, s_0, s_1, s_2, i64_w, i32_w]; rfl
       refine pure_ (i := 18) (N := some 51) (v := undef) (a' := ?_) (bz 21 524287) rfl rfl (any_of HT_.out (by kernel_rfl)) (fun _ _ _ h => h) (Or.inr ⟨by rfl, rfl⟩) ?_ ?_
       rotate_left
       · simp only [Act.put, s_0, s_1, s_2, i64_w, i32_w]; rfl
       refine pure_ (i := 19) (N := some 52) (v := ?_) (a' := ?_) (bz 21 1048575) rfl rfl (any_of HT_.out (by kernel_rfl)) (fun _ _ _ h => h) (Or.inl ⟨by rfl, ?_⟩) ?_ ?_
       rotate_left
       · intro w'; go_simp; (with_reducible rfl)
       rotate_left
       · simp only [Act.put, s_0, s_1, s_2, i64_w, i32_w]; rfl
       refine pure_ (i := 20) (N := some 3) (v := ?_) (a' := ?_) (bz 21 2097151) rfl rfl (any_of HT_.out (by kernel_rfl)) (fun _ _ _ h => h) (Or.inl ⟨by rfl, ?_⟩) ?_ ?_
       rotate_left
       · intro w'; go_simp; (with_reducible rfl)
       rotate_left
       · simp only [Act.put, s_0, s_1, s_2, i64_w, i32_w]; rfl
       refine done_ (done_of HT_.out (by kernel_rfl)) ?_
       try go_wp2
       go_meet
       case rel => exact ⟨_, (true), (by first | rfl | (simp; done) | (simp [*]; done)), H', ⟨by have := HJ1.out; first | omega | exact Nat.le_refl _⟩, ⟨by (with_reducible repeat (first | refine blk_drewN ?_ _ | refine blk_drew ?_ | refine blk_alloc ?_ _)); exact BK138.out⟩, ⟨by repeat (first | (with_reducible first | exact HB.out | apply below_alloc | apply pw_below_drewN | apply below_drew1 | refine below_set ?_ GE138.out) | exact HB.out)⟩⟩
    replace c17 := Bool.eq_false_iff.mpr c17; subst c17
    have H1 : ((seq_Check.f a0_2).bind fun t139 => ((seq_Check.f a0_3).bind fun t140 => ((opts_Check.f kj1 a0_7 a0_8 a0_9 a0_10 a0_11 a0_12 a0_13 l0_14).bind fun t141 => (if (mx (mx t139 t140) t141) > 0 then (seg_Check.j1 kj1 true a0_0 a0_1 a0_2 a0_3 a0_4 a0_5 a0_6 a0_7 a0_8 a0_9 a0_10 a0_11 a0_12 a0_13 l0_14 a0_15) else (seg_Check.j1 kj1 (decide ((a0_15.size : Int) > 1480)) a0_0 a0_1 a0_2 a0_3 a0_4 a0_5 a0_6 a0_7 a0_8 a0_9 a0_10 a0_11 a0_12 a0_13 l0_14 a0_15))))) = some r := by rw [if_neg (show ¬ (false = true) by decide)] at H; exact H
    clear H; have H := H1; clear H1; replace H := Option.bind_eq_some_iff.mp H; obtain ⟨t139, A190, H⟩ := H; (try dsimp only at H); have A19 := Aside0.mk A190; clear A190; replace H := Option.bind_eq_some_iff.mp H; obtain ⟨t140, A200, H⟩ := H; (try dsimp only at H); have A20 := Aside0.mk A200; clear A200; replace H := Option.bind_eq_some_iff.mp H; obtain ⟨t141, A210, H⟩ := H; (try dsimp only at H); have A21 := Aside0.mk A210; clear A210
    obtain ⟨ji22, hji22⟩ : ∃ j_ : Int, (mx t139 t140) = j_ := ⟨_, rfl⟩
    replace H : (if (mx (ji22) t141) > 0 then (seg_Check.j1 kj1 true a0_0 a0_1 a0_2 a0_3 a0_4 a0_5 a0_6 a0_7 a0_8 a0_9 a0_10 a0_11 a0_12 a0_13 l0_14 a0_15) else (seg_Check.j1 kj1 (decide ((a0_15.size : Int) > 1480)) a0_0 a0_1 a0_2 a0_3 a0_4 a0_5 a0_6 a0_7 a0_8 a0_9 a0_10 a0_11 a0_12 a0_13 l0_14 a0_15)) = some r := by first | (rw [hji22] at H; exact H) | (simp only [hji22] at H ⊢; exact H)
    (try rw [hji22] at A19)
    (try rw [hji22] at A20)
    (try rw [hji22] at A21)
    have hji22_ : (if t139 < t140 then t140 else t139) = ji22 := hji22
    obtain ⟨ji23, hji23⟩ : ∃ j_ : Int, (mx (ji22) t141) = j_ := ⟨_, rfl⟩
    replace H : (if (ji23) > 0 then (seg_Check.j1 kj1 true a0_0 a0_1 a0_2 a0_3 a0_4 a0_5 a0_6 a0_7 a0_8 a0_9 a0_10 a0_11 a0_12 a0_13 l0_14 a0_15) else (seg_Check.j1 kj1 (decide ((a0_15.size : Int) > 1480)) a0_0 a0_1 a0_2 a0_3 a0_4 a0_5 a0_6 a0_7 a0_8 a0_9 a0_10 a0_11 a0_12 a0_13 l0_14 a0_15)) = some r := by first | (rw [hji23] at H; exact H) | (simp only [hji23] at H ⊢; exact H)
    (try rw [hji23] at A19)
    (try rw [hji23] at A20)
    (try rw [hji23] at A21)
    have hji23_ : (if (ji22) < t141 then t141 else (ji22)) = ji23 := hji23
    by_cases c24 : (ji23) > 0
    · rw [if_pos c24] at H
      have c24b0 : decide (0 < (ji23)) = true := decide_eq_true c24
      clear c24
      (first | rw [c24b0] | rw [c24b1] | (simp only [i64_w, i32_w]; rw [c24b0]) | skip)
      next =>
       have H' := Aside0.mk H; clear H
       try go_wp2
       replace BK138 := Aside0.mk (blk_drew BK138.out); replace HB := Aside0.mk (below_drew1 HB.out)
       refine start_ (n := 21) (S := fun w' => w'.cell? ⟨gb138, 0, none⟩ = some (.int .i64 a0_0) ∧ w'.cell? ⟨gb138, 1, none⟩ = some (.int .i64 a0_1) ∧ w'.cell? ⟨gb138, 2, none⟩ = some (.int .i64 a0_2) ∧ w'.cell? ⟨gb138, 3, none⟩ = some (.int .i64 a0_3) ∧ w'.cell? ⟨gb138, 4, none⟩ = some (.int .i64 a0_4) ∧ w'.cell? ⟨gb138, 5, none⟩ = some (.int .i64 a0_5) ∧ w'.cell? ⟨gb138, 6, none⟩ = some (.int .i64 a0_6) ∧ w'.cell? ⟨gb138, 7, none⟩ = some (.int .i64 a0_7) ∧ w'.cell? ⟨gb138, 8, none⟩ = some (.int .i64 a0_8) ∧ w'.cell? ⟨gb138, 9, none⟩ = some (.int .i64 a0_9) ∧ w'.cell? ⟨gb138, 10, none⟩ = some (.int .i64 a0_10) ∧ w'.cell? ⟨gb138, 11, none⟩ = some (.bool a0_11) ∧ w'.cell? ⟨gb138, 12, none⟩ = some (.bool a0_12) ∧ w'.cell? ⟨gb138, 13, none⟩ = some (.bool a0_13) ∧ w'.cell? ⟨gb138, 14, none⟩ = some (.slice A0_14 l0_14.length c0_14) ∧ w'.cell? ⟨gb138, 15, none⟩ = some (.string a0_15)) (ds := []) (bz 21 0) (by kernel_rfl) rfl rfl ⟨bc BK138 0, bc BK138 1, bc BK138 2, bc BK138 3, bc BK138 4, bc BK138 5, bc BK138 6, bc BK138 7, bc BK138 8, bc BK138 9, bc BK138 10, bc BK138 11, bc BK138 12, bc BK138 13, bc BK138 14, bc BK138 15⟩ (fun hHeld => ?_); refine with_tabW seg_Check.tab2 seg_Check.bits2 (fun HT_ HW_ => ?_)
       generalize wc.drew = w25 at BK138 HB hHeld ⊢
       refine pure_ (i := 0) (N := some 33) (v := ?_) (a' := ?_) (bz 21 1) rfl rfl (any_of HT_.out (by kernel_rfl)) (fun _ _ _ h => h) (Or.inl ⟨by rfl, ?_⟩) ?_ ?_
       rotate_left
       · intro w'; go_simp; (with_reducible rfl)
       rotate_left
       · simp only [Act.put, s_0, s_1, s_2, i64_w, i32_w]; rfl
       refine pure_ (i := 1) (N := some 34) (v := ?_) (a' := ?_) (bz 21 3) rfl rfl (any_of HT_.out (by kernel_rfl)) (fun _ _ _ h => h) (Or.inl ⟨by rfl, ?_⟩) ?_ ?_
       rotate_left
       · intro w'; go_simp; (with_reducible rfl)
       rotate_left
       · simp only [Act.put, s_0, s_1, s_2, i64_w, i32_w]; rfl
       refine pure_ (i := 2) (N := some 35) (v := ?_) (a' := ?_) (bz 21 7) rfl rfl (any_of HT_.out (by kernel_rfl)) (fun _ _ _ h => h) (Or.inl ⟨by rfl, ?_⟩) ?_ ?_
       rotate_left
       · intro w'; go_simp; (with_reducible rfl)
       rotate_left
       · simp only [Act.put, s_0, s_1, s_2, i64_w, i32_w]; rfl
       refine pure_ (i := 5) (N := some 38) (v := ?_) (a' := ?_) (bz 21 39) rfl rfl (any_of HT_.out (by kernel_rfl)) (fun _ _ _ h => h) (Or.inl ⟨by rfl, ?_⟩) ?_ ?_
       rotate_left
       · intro w'; go_simp; (with_reducible rfl)
       rotate_left
       · simp only [Act.put, s_0, s_1, s_2, i64_w, i32_w]; rfl
       refine pure_ (i := 8) (N := some 41) (v := ?_) (a' := ?_) (bz 21 295) rfl rfl (any_of HT_.out (by kernel_rfl)) (fun _ _ _ h => h) (Or.inl ⟨by rfl, ?_⟩) ?_ ?_
       rotate_left
       · intro w'; go_simp; (with_reducible rfl)
       rotate_left
       · simp only [Act.put, s_0, s_1, s_2, i64_w, i32_w]; rfl
       refine take_ (i := 3) (N := some 36) (v := ?_) (a' := ?_) (bz 21 303) rfl rfl (take_ofW HT_.out HW_.out (by kernel_rfl)) (fun _ _ _ h => h) (Or.inl ⟨by rfl, ?_⟩) hHeld ?_ ?_
       rotate_left
       · rintro w' ⟨s0, s1, s2, s3, s4, s5, s6, s7, s8, s9, s10, s11, s12, s13, s14, s15⟩
         go_simp; (with_reducible rfl)
       rotate_left
       · simp only [Act.put, s_0, s_1, s_2, i64_w, i32_w]; rfl
       refine take_ (i := 6) (N := some 39) (v := ?_) (a' := ?_) (bz 21 367) rfl rfl (take_ofW HT_.out HW_.out (by kernel_rfl)) (fun _ _ _ h => h) (Or.inl ⟨by rfl, ?_⟩) hHeld ?_ ?_
       rotate_left
       · rintro w' ⟨s0, s1, s2, s3, s4, s5, s6, s7, s8, s9, s10, s11, s12, s13, s14, s15⟩
         go_simp; (with_reducible rfl)
       rotate_left
       · simp only [Act.put, s_0, s_1, s_2, i64_w, i32_w]; rfl
       refine take_ (i := 9) (N := some 42) (v := ?_) (a' := ?_) (bz 21 879) rfl rfl (take_ofW HT_.out HW_.out (by kernel_rfl)) (fun _ _ _ h => h) (Or.inl ⟨by rfl, ?_⟩) hHeld ?_ ?_
       rotate_left
       · rintro w' ⟨s0, s1, s2, s3, s4, s5, s6, s7, s8, s9, s10, s11, s12, s13, s14, s15⟩
         go_simp; (with_reducible rfl)
       rotate_left
       · simp only [Act.put, s_0, s_1, s_2, i64_w, i32_w]; rfl
       refine one_ (i := 4) (N := some 37) (bz 21 895) rfl rfl (one_of HT_.out (by kernel_rfl)) (by decide) (fun K hK => ?_)
       refine goes_ Try.func27 (by kernel_rfl) rfl #[.int .i64 a0_2] (by rfl) rfl rfl ga_ ?_
       with_reducible refine (seq_Check.calls a0_2 t139 _ A19.out).mono ?_
       rintro e w' ⟨rfl, ⟨nd, rfl⟩⟩
       refine ⟨_, rfl, ?_⟩
       refine hK.out _ _ ⟨bc BK138 0, bc BK138 1, bc BK138 2, bc BK138 3, bc BK138 4, bc BK138 5, bc BK138 6, bc BK138 7, bc BK138 8, bc BK138 9, bc BK138 10, bc BK138 11, bc BK138 12, bc BK138 13, bc BK138 14, bc BK138 15⟩ (fun hHeld => ?_)
       clear hK K
       refine norm_ (a' := ?_) ?_ ?_
       rotate_left
       · show Act.put _ (some 37) _ = _; simp only [Act.put, s_0, s_1, s_2, i64_w, i32_w]; rfl
       refine one_ (i := 7) (N := some 40) (bz 21 1023) rfl rfl (one_of HT_.out (by kernel_rfl)) (by decide) (fun K hK => ?_)
       refine goes_ Try.func27 (by kernel_rfl) rfl #[.int .i64 a0_3] (by rfl) rfl rfl ga_ ?_
       with_reducible refine (seq_Check.calls a0_3 t140 _ A20.out).mono ?_
       rintro e w' ⟨rfl, ⟨nd, rfl⟩⟩
       refine ⟨_, rfl, ?_⟩
       refine hK.out _ _ ⟨bc BK138 0, bc BK138 1, bc BK138 2, bc BK138 3, bc BK138 4, bc BK138 5, bc BK138 6, bc BK138 7, bc BK138 8, bc BK138 9, bc BK138 10, bc BK138 11, bc BK138 12, bc BK138 13, bc BK138 14, bc BK138 15⟩ (fun hHeld => ?_)
       clear hK K
       refine norm_ (a' := ?_) ?_ ?_
       rotate_left
       · show Act.put _ (some 40) _ = _; simp only [Act.put, s_0, s_1, s_2, i64_w, i32_w]; rfl
       refine one_ (i := 10) (N := some 43) (bz 21 2047) rfl rfl (one_of HT_.out (by kernel_rfl)) (by decide) (fun K hK => ?_)
       refine goes_ Try.func28 (by kernel_rfl) rfl #[.agg #[.int .i64 a0_7, .int .i64 a0_8, .int .i64 a0_9, .int .i64 a0_10, .bool a0_11, .bool a0_12, .bool a0_13, .slice A0_14 l0_14.length c0_14]] (by rfl) rfl rfl ga_ ?_
       with_reducible refine (opts_Check.calls kj1 a0_7 a0_8 a0_9 a0_10 a0_11 a0_12 a0_13 _ _ l0_14 t141 _ ?side1 ?side2 A21.out).mono ?_
       (case side1 => repeat (first | exact (Kd.C_below HR0_14.out (be1_ HB GE138)) | (with_reducible refine Kd.C_alloc ?_ _) | (with_reducible refine Kd.C_drewN ?_ _) | (with_reducible refine Kd.C_drew ?_)))
       (case side2 => exact HC0_14.out)
       rintro e w26 ⟨rfl, hb⟩; refine ⟨_, rfl, ?_⟩; replace BK138 := kb_ BK138 hb; replace HB := bs1_ HB GE138 hb; (try clear hb)
       refine hK.out _ _ ⟨bc BK138 0, bc BK138 1, bc BK138 2, bc BK138 3, bc BK138 4, bc BK138 5, bc BK138 6, bc BK138 7, bc BK138 8, bc BK138 9, bc BK138 10, bc BK138 11, bc BK138 12, bc BK138 13, bc BK138 14, bc BK138 15⟩ (fun hHeld => ?_)
       clear hK K
       refine norm_ (a' := ?_) ?_ ?_
       rotate_left
       · show Act.put _ (some 43) _ = _; simp only [Act.put, s_0, s_1, s_2, i64_w, i32_w]; rfl
       refine pure_ (i := 11) (N := some 44) (v := ?_) (a' := ?_) (bz 21 4095) rfl rfl (any_of HT_.out (by kernel_rfl)) (fun _ _ _ h => h) (Or.inl ⟨by rfl, ?_⟩) ?_ ?_
       rotate_left
       · intro w'; go_simp; (with_reducible rfl)
       rotate_left
       · simp only [Act.put, s_0, s_1, s_2, i64_w, i32_w]; rfl
       refine pure_ (i := 12) (N := some 45) (v := ?_) (a' := ?_) (bz 21 8191) rfl rfl (any_of HT_.out (by kernel_rfl)) (fun _ _ _ h => h) (Or.inl ⟨by rfl, ?_⟩) ?_ ?_
       rotate_left
       · intro w'; go_simp; (with_reducible rfl)
       rotate_left
       · simp only [Act.put, s_0, s_1, s_2, i64_w, i32_w]; rfl
       refine pure_ (i := 13) (N := some 46) (v := ?_) (a' := ?_) (bz 21 16383) rfl rfl (any_of HT_.out (by kernel_rfl)) (fun _ _ _ h => h) (Or.inl ⟨by rfl, ?_⟩) ?_ ?_
       rotate_left
       · intro w'; go_simp; (with_reducible rfl)
       rotate_left
       · simp only [Act.put, s_0, s_1, s_2, i64_w, i32_w]; rfl
       refine pure_ (i := 14) (N := some 47) (v := ?_) (a' := ?_) (bz 21 32767) rfl rfl (any_of HT_.out (by kernel_rfl)) (fun _ _ _ h => h) (Or.inl ⟨by rfl, ?_⟩) ?_ ?_
       rotate_left
       · intro w'; go_simp; (with_reducible rfl)
       rotate_left
       · simp only [Act.put, s_0, s_1, s_2, i64_w, i32_w]; rfl
       refine pure_ (i := 15) (N := some 48) (v := undef) (a' := ?_) (bz 21 65535) rfl rfl (any_of HT_.out (by kernel_rfl)) (fun _ _ _ h => h) (Or.inr ⟨by rfl, rfl⟩) ?_ ?_
       rotate_left
       · simp only [Act.put, s_0, s_1, s_2, i64_w, i32_w]; rfl
       refine pure_ (i := 16) (N := some 49) (v := undef) (a' := ?_) (bz 21 131071) rfl rfl (any_of HT_.out (by kernel_rfl)) (fun _ _ _ h => h) (Or.inr ⟨by rfl, rfl⟩) ?_ ?_
       rotate_left
       · simp only [Act.put, s_0, s_1, s_2, i64_w, i32_w]; rfl
       refine pure_ (i := 17) (N := some 50) (v := undef) (a' := ?_) (bz 21 262143) rfl rfl (any_of HT_.out (by kernel_rfl)) (fun _ _ _ h => h) (Or.inr ⟨by rfl, rfl⟩) ?_ ?_
       rotate_left
       · simp only [Act.put, s_0, s_1, s_2, i64_w, i32_w]; rfl
       refine pure_ (i := 18) (N := some 51) (v := undef) (a' := ?_) (bz 21 524287) rfl rfl (any_of HT_.out (by kernel_rfl)) (fun _ _ _ h => h) (Or.inr ⟨by rfl, rfl⟩) ?_ ?_
       rotate_left
       · simp only [Act.put, s_0, s_1, s_2, i64_w, i32_w]; rfl
       refine pure_ (i := 19) (N := some 52) (v := ?_) (a' := ?_) (bz 21 1048575) rfl rfl (any_of HT_.out (by kernel_rfl)) (fun _ _ _ h => h) (Or.inl ⟨by rfl, ?_⟩) ?_ ?_
       rotate_left
       · intro w'; go_simp; (with_reducible rfl)
       rotate_left
       · simp only [Act.put, s_0, s_1, s_2, i64_w, i32_w]; rfl
       refine pure_ (i := 20) (N := some 3) (v := ?_) (a' := ?_) (bz 21 2097151) rfl rfl (any_of HT_.out (by kernel_rfl)) (fun _ _ _ h => h) (Or.inl ⟨by rfl, ?_⟩) ?_ ?_
       rotate_left
       · intro w'; go_simp; (with_reducible rfl)
       rotate_left
       · simp only [Act.put, s_0, s_1, s_2, i64_w, i32_w]; rfl
       refine done_ (done_of HT_.out (by kernel_rfl)) ?_
       try go_wp2
       go_meet
       case rel => exact ⟨_, (true), (by first | rfl | (simp; done) | (simp [*]; done)), H', ⟨by have := HJ1.out; first | omega | exact Nat.le_refl _⟩, ⟨by (with_reducible repeat (first | refine blk_drewN ?_ _ | refine blk_drew ?_ | refine blk_alloc ?_ _)); exact BK138.out⟩, ⟨by repeat (first | (with_reducible first | exact HB.out | apply below_alloc | apply pw_below_drewN | apply below_drew1 | refine below_set ?_ GE138.out) | exact HB.out)⟩⟩
    rw [if_neg c24] at H
    have c24b0 : decide (0 < (ji23)) = false := decide_eq_false c24
    clear c24
    (first | rw [c24b0] | rw [c24b1] | (simp only [i64_w, i32_w]; rw [c24b0]) | skip)
    next =>
     have H' := Aside0.mk H; clear H
     try go_wp2
     replace BK138 := Aside0.mk (blk_drew BK138.out); replace HB := Aside0.mk (below_drew1 HB.out)
     refine start_ (n := 21) (S := fun w' => w'.cell? ⟨gb138, 0, none⟩ = some (.int .i64 a0_0) ∧ w'.cell? ⟨gb138, 1, none⟩ = some (.int .i64 a0_1) ∧ w'.cell? ⟨gb138, 2, none⟩ = some (.int .i64 a0_2) ∧ w'.cell? ⟨gb138, 3, none⟩ = some (.int .i64 a0_3) ∧ w'.cell? ⟨gb138, 4, none⟩ = some (.int .i64 a0_4) ∧ w'.cell? ⟨gb138, 5, none⟩ = some (.int .i64 a0_5) ∧ w'.cell? ⟨gb138, 6, none⟩ = some (.int .i64 a0_6) ∧ w'.cell? ⟨gb138, 7, none⟩ = some (.int .i64 a0_7) ∧ w'.cell? ⟨gb138, 8, none⟩ = some (.int .i64 a0_8) ∧ w'.cell? ⟨gb138, 9, none⟩ = some (.int .i64 a0_9) ∧ w'.cell? ⟨gb138, 10, none⟩ = some (.int .i64 a0_10) ∧ w'.cell? ⟨gb138, 11, none⟩ = some (.bool a0_11) ∧ w'.cell? ⟨gb138, 12, none⟩ = some (.bool a0_12) ∧ w'.cell? ⟨gb138, 13, none⟩ = some (.bool a0_13) ∧ w'.cell? ⟨gb138, 14, none⟩ = some (.slice A0_14 l0_14.length c0_14) ∧ w'.cell? ⟨gb138, 15, none⟩ = some (.string a0_15)) (ds := []) (bz 21 0) (by kernel_rfl) rfl rfl ⟨bc BK138 0, bc BK138 1, bc BK138 2, bc BK138 3, bc BK138 4, bc BK138 5, bc BK138 6, bc BK138 7, bc BK138 8, bc BK138 9, bc BK138 10, bc BK138 11, bc BK138 12, bc BK138 13, bc BK138 14, bc BK138 15⟩ (fun hHeld => ?_); refine with_tabW seg_Check.tab2 seg_Check.bits2 (fun HT_ HW_ => ?_)
     generalize wc.drew = w27 at BK138 HB hHeld ⊢
     refine pure_ (i := 0) (N := some 33) (v := ?_) (a' := ?_) (bz 21 1) rfl rfl (any_of HT_.out (by kernel_rfl)) (fun _ _ _ h => h) (Or.inl ⟨by rfl, ?_⟩) ?_ ?_
     rotate_left
     · intro w'; go_simp; (with_reducible rfl)
     rotate_left
     · simp only [Act.put, s_0, s_1, s_2, i64_w, i32_w]; rfl
     refine pure_ (i := 1) (N := some 34) (v := ?_) (a' := ?_) (bz 21 3) rfl rfl (any_of HT_.out (by kernel_rfl)) (fun _ _ _ h => h) (Or.inl ⟨by rfl, ?_⟩) ?_ ?_
     rotate_left
     · intro w'; go_simp; (with_reducible rfl)
     rotate_left
     · simp only [Act.put, s_0, s_1, s_2, i64_w, i32_w]; rfl
     refine pure_ (i := 2) (N := some 35) (v := ?_) (a' := ?_) (bz 21 7) rfl rfl (any_of HT_.out (by kernel_rfl)) (fun _ _ _ h => h) (Or.inl ⟨by rfl, ?_⟩) ?_ ?_
     rotate_left
     · intro w'; go_simp; (with_reducible rfl)
     rotate_left
     · simp only [Act.put, s_0, s_1, s_2, i64_w, i32_w]; rfl
     refine pure_ (i := 5) (N := some 38) (v := ?_) (a' := ?_) (bz 21 39) rfl rfl (any_of HT_.out (by kernel_rfl)) (fun _ _ _ h => h) (Or.inl ⟨by rfl, ?_⟩) ?_ ?_
     rotate_left
     · intro w'; go_simp; (with_reducible rfl)
     rotate_left
     · simp only [Act.put, s_0, s_1, s_2, i64_w, i32_w]; rfl
     refine pure_ (i := 8) (N := some 41) (v := ?_) (a' := ?_) (bz 21 295) rfl rfl (any_of HT_.out (by kernel_rfl)) (fun _ _ _ h => h) (Or.inl ⟨by rfl, ?_⟩) ?_ ?_
     rotate_left
     · intro w'; go_simp; (with_reducible rfl)
     rotate_left
     · simp only [Act.put, s_0, s_1, s_2, i64_w, i32_w]; rfl
     refine take_ (i := 3) (N := some 36) (v := ?_) (a' := ?_) (bz 21 303) rfl rfl (take_ofW HT_.out HW_.out (by kernel_rfl)) (fun _ _ _ h => h) (Or.inl ⟨by rfl, ?_⟩) hHeld ?_ ?_
     rotate_left
     · rintro w' ⟨s0, s1, s2, s3, s4, s5, s6, s7, s8, s9, s10, s11, s12, s13, s14, s15⟩
       go_simp; (with_reducible rfl)
     rotate_left
     · simp only [Act.put, s_0, s_1, s_2, i64_w, i32_w]; rfl
     refine take_ (i := 6) (N := some 39) (v := ?_) (a' := ?_) (bz 21 367) rfl rfl (take_ofW HT_.out HW_.out (by kernel_rfl)) (fun _ _ _ h => h) (Or.inl ⟨by rfl, ?_⟩) hHeld ?_ ?_
     rotate_left
     · rintro w' ⟨s0, s1, s2, s3, s4, s5, s6, s7, s8, s9, s10, s11, s12, s13, s14, s15⟩
       go_simp; (with_reducible rfl)
     rotate_left
     · simp only [Act.put, s_0, s_1, s_2, i64_w, i32_w]; rfl
     refine take_ (i := 9) (N := some 42) (v := ?_) (a' := ?_) (bz 21 879) rfl rfl (take_ofW HT_.out HW_.out (by kernel_rfl)) (fun _ _ _ h => h) (Or.inl ⟨by rfl, ?_⟩) hHeld ?_ ?_
     rotate_left
     · rintro w' ⟨s0, s1, s2, s3, s4, s5, s6, s7, s8, s9, s10, s11, s12, s13, s14, s15⟩
       go_simp; (with_reducible rfl)
     rotate_left
     · simp only [Act.put, s_0, s_1, s_2, i64_w, i32_w]; rfl
     refine one_ (i := 4) (N := some 37) (bz 21 895) rfl rfl (one_of HT_.out (by kernel_rfl)) (by decide) (fun K hK => ?_)
     refine goes_ Try.func27 (by kernel_rfl) rfl #[.int .i64 a0_2] (by rfl) rfl rfl ga_ ?_
     with_reducible refine (seq_Check.calls a0_2 t139 _ A19.out).mono ?_
     rintro e w' ⟨rfl, ⟨nd, rfl⟩⟩
     refine ⟨_, rfl, ?_⟩
     refine hK.out _ _ ⟨bc BK138 0, bc BK138 1, bc BK138 2, bc BK138 3, bc BK138 4, bc BK138 5, bc BK138 6, bc BK138 7, bc BK138 8, bc BK138 9, bc BK138 10, bc BK138 11, bc BK138 12, bc BK138 13, bc BK138 14, bc BK138 15⟩ (fun hHeld => ?_)
     clear hK K
     refine norm_ (a' := ?_) ?_ ?_
     rotate_left
     · show Act.put _ (some 37) _ = _; simp only [Act.put, s_0, s_1, s_2, i64_w, i32_w]; rfl
     refine one_ (i := 7) (N := some 40) (bz 21 1023) rfl rfl (one_of HT_.out (by kernel_rfl)) (by decide) (fun K hK => ?_)
     refine goes_ Try.func27 (by kernel_rfl) rfl #[.int .i64 a0_3] (by rfl) rfl rfl ga_ ?_
     with_reducible refine (seq_Check.calls a0_3 t140 _ A20.out).mono ?_
     rintro e w' ⟨rfl, ⟨nd, rfl⟩⟩
     refine ⟨_, rfl, ?_⟩
     refine hK.out _ _ ⟨bc BK138 0, bc BK138 1, bc BK138 2, bc BK138 3, bc BK138 4, bc BK138 5, bc BK138 6, bc BK138 7, bc BK138 8, bc BK138 9, bc BK138 10, bc BK138 11, bc BK138 12, bc BK138 13, bc BK138 14, bc BK138 15⟩ (fun hHeld => ?_)
     clear hK K
     refine norm_ (a' := ?_) ?_ ?_
     rotate_left
     · show Act.put _ (some 40) _ = _; simp only [Act.put, s_0, s_1, s_2, i64_w, i32_w]; rfl
     refine one_ (i := 10) (N := some 43) (bz 21 2047) rfl rfl (one_of HT_.out (by kernel_rfl)) (by decide) (fun K hK => ?_)
     refine goes_ Try.func28 (by kernel_rfl) rfl #[.agg #[.int .i64 a0_7, .int .i64 a0_8, .int .i64 a0_9, .int .i64 a0_10, .bool a0_11, .bool a0_12, .bool a0_13, .slice A0_14 l0_14.length c0_14]] (by rfl) rfl rfl ga_ ?_
     with_reducible refine (opts_Check.calls kj1 a0_7 a0_8 a0_9 a0_10 a0_11 a0_12 a0_13 _ _ l0_14 t141 _ ?side1 ?side2 A21.out).mono ?_
     (case side1 => repeat (first | exact (Kd.C_below HR0_14.out (be1_ HB GE138)) | (with_reducible refine Kd.C_alloc ?_ _) | (with_reducible refine Kd.C_drewN ?_ _) | (with_reducible refine Kd.C_drew ?_)))
     (case side2 => exact HC0_14.out)
     rintro e w28 ⟨rfl, hb⟩; refine ⟨_, rfl, ?_⟩; replace BK138 := kb_ BK138 hb; replace HB := bs1_ HB GE138 hb; (try clear hb)
     refine hK.out _ _ ⟨bc BK138 0, bc BK138 1, bc BK138 2, bc BK138 3, bc BK138 4, bc BK138 5, bc BK138 6, bc BK138 7, bc BK138 8, bc BK138 9, bc BK138 10, bc BK138 11, bc BK138 12, bc BK138 13, bc BK138 14, bc BK138 15⟩ (fun hHeld => ?_)
     clear hK K
     refine norm_ (a' := ?_) ?_ ?_
     rotate_left
     · show Act.put _ (some 43) _ = _; simp only [Act.put, s_0, s_1, s_2, i64_w, i32_w]; rfl
     refine pure_ (i := 11) (N := some 44) (v := ?_) (a' := ?_) (bz 21 4095) rfl rfl (any_of HT_.out (by kernel_rfl)) (fun _ _ _ h => h) (Or.inl ⟨by rfl, ?_⟩) ?_ ?_
     rotate_left
     · intro w'; go_simp; (with_reducible rfl)
     rotate_left
     · simp only [Act.put, s_0, s_1, s_2, i64_w, i32_w]; rfl
     refine pure_ (i := 12) (N := some 45) (v := ?_) (a' := ?_) (bz 21 8191) rfl rfl (any_of HT_.out (by kernel_rfl)) (fun _ _ _ h => h) (Or.inl ⟨by rfl, ?_⟩) ?_ ?_
     rotate_left
     · intro w'; go_simp; (with_reducible rfl)
     rotate_left
     · simp only [Act.put, s_0, s_1, s_2, i64_w, i32_w]; rfl
     refine pure_ (i := 13) (N := some 46) (v := ?_) (a' := ?_) (bz 21 16383) rfl rfl (any_of HT_.out (by kernel_rfl)) (fun _ _ _ h => h) (Or.inl ⟨by rfl, ?_⟩) ?_ ?_
     rotate_left
     · intro w'; go_simp; (with_reducible rfl)
     rotate_left
     · simp only [Act.put, s_0, s_1, s_2, i64_w, i32_w]; rfl
     refine pure_ (i := 14) (N := some 47) (v := ?_) (a' := ?_) (bz 21 32767) rfl rfl (any_of HT_.out (by kernel_rfl)) (fun _ _ _ h => h) (Or.inl ⟨by rfl, ?_⟩) ?_ ?_
     rotate_left
     · intro w'; go_simp; (with_reducible rfl)
     rotate_left
     · simp only [Act.put, s_0, s_1, s_2, i64_w, i32_w]; rfl
     refine pure_ (i := 15) (N := some 48) (v := ?_) (a' := ?_) (bz 21 65535) rfl rfl (any_of HT_.out (by kernel_rfl)) (fun _ _ _ h => h) (Or.inl ⟨by rfl, ?_⟩) ?_ ?_
     rotate_left
     · intro w'; go_simp; (with_reducible rfl)
     rotate_left
     · simp only [Act.put, s_0, s_1, s_2, i64_w, i32_w]; rfl
     refine take_ (i := 16) (N := some 49) (v := ?_) (a' := ?_) (bz 21 131071) rfl rfl (take_ofW HT_.out HW_.out (by kernel_rfl)) (fun _ _ _ h => h) (Or.inl ⟨by rfl, ?_⟩) hHeld ?_ ?_
     rotate_left
     · rintro w' ⟨s0, s1, s2, s3, s4, s5, s6, s7, s8, s9, s10, s11, s12, s13, s14, s15⟩
       go_simp; (with_reducible rfl)
     rotate_left
     · simp only [Act.put, s_0, s_1, s_2, i64_w, i32_w]; rfl
     refine pure_ (i := 17) (N := some 50) (v := ?_) (a' := ?_) (bz 21 262143) rfl rfl (any_of HT_.out (by kernel_rfl)) (fun _ _ _ h => h) (Or.inl ⟨by rfl, ?_⟩) ?_ ?_
     rotate_left
     · intro w'; go_simp; (with_reducible rfl)
     rotate_left
     · simp only [Act.put, s_0, s_1, s_2, i64_w, i32_w]; rfl
     refine pure_ (i := 18) (N := some 51) (v := ?_) (a' := ?_) (bz 21 524287) rfl rfl (any_of HT_.out (by kernel_rfl)) (fun _ _ _ h => h) (Or.inl ⟨by rfl, ?_⟩) ?_ ?_
     rotate_left
     · intro w'; go_simp; (with_reducible rfl)
     rotate_left
     · simp only [Act.put, s_0, s_1, s_2, i64_w, i32_w]; rfl
     refine pure_ (i := 19) (N := some 52) (v := ?_) (a' := ?_) (bz 21 1048575) rfl rfl (any_of HT_.out (by kernel_rfl)) (fun _ _ _ h => h) (Or.inl ⟨by rfl, ?_⟩) ?_ ?_
     rotate_left
     · intro w'; go_simp; (with_reducible rfl)
     rotate_left
     · simp only [Act.put, s_0, s_1, s_2, i64_w, i32_w]; rfl
     refine pure_ (i := 20) (N := some 3) (v := ?_) (a' := ?_) (bz 21 2097151) rfl rfl (any_of HT_.out (by kernel_rfl)) (fun _ _ _ h => h) (Or.inl ⟨by rfl, ?_⟩) ?_ ?_
     rotate_left
     · intro w'; go_simp; (with_reducible rfl)
     rotate_left
     · simp only [Act.put, s_0, s_1, s_2, i64_w, i32_w]; rfl
     refine done_ (done_of HT_.out (by kernel_rfl)) ?_
     try go_wp2
     go_meet
     case rel => exact ⟨_, (decide ((a0_15.size : Int) > 1480)), (by first | rfl | (simp; done) | (simp [*]; done)), H', ⟨by have := HJ1.out; first | omega | exact Nat.le_refl _⟩, ⟨by (with_reducible repeat (first | refine blk_drewN ?_ _ | refine blk_drew ?_ | refine blk_alloc ?_ _)); exact BK138.out⟩, ⟨by repeat (first | (with_reducible first | exact HB.out | apply below_alloc | apply pw_below_drewN | apply below_drew1 | refine below_set ?_ GE138.out) | exact HB.out)⟩⟩
   case rest =>
    clear HC16; (try clear c1); (try clear c2); (try clear p2); (try clear p6); (try clear c17); (try clear c24); (try clear c24b0); (try clear c24b1); (try clear c27); (try clear c28); (try clear hfz9_3); (try clear hfz9_4); (try clear hfz9_5); (try clear hfz9_6); (try clear hfz9_7); (try clear hfz9_8); (try clear hfz9_9)
    obtain ⟨kq, x3_15, rfl, HA, HJ15, BK138, HB⟩ := hcut
    cases kq with
    | zero => exact absurd HA.out (by simp [seg_Check.j1])
    | succ kj15 =>
     have H := HA.out
     clear HA
     simp only [seg_Check.j1] at H
     by_cases c29 : x3_15 = true
     · subst c29
       have H1 : (some 80) = some r := by rw [if_pos rfl] at H; exact H
       clear H; have H := H1; clear H1
       next =>
        obtain rfl := Option.some.inj H
        go_wp2
        go_ret
        exact ⟨ra_, (be1_ HB GE138)⟩
     replace c29 := Bool.eq_false_iff.mpr c29; subst c29
     have H1 : (if a0_3 > 0 then ((seg_Has.f a0_0 a0_1 a0_2 a0_3 a0_4 a0_5 a0_6 a0_7 a0_8 a0_9 a0_10 a0_11 a0_12 a0_13 l0_14 a0_15 16).bind fun t142 => (if t142 = true then (if a0_6 > 0 then ((seg_Has.f a0_0 a0_1 a0_2 a0_3 a0_4 a0_5 a0_6 a0_7 a0_8 a0_9 a0_10 a0_11 a0_12 a0_13 l0_14 a0_15 32).bind fun t143 => (if t143 = true then (some 0) else (some 80))) else (some 0)) else (some 80))) else (if a0_6 > 0 then ((seg_Has.f a0_0 a0_1 a0_2 a0_3 a0_4 a0_5 a0_6 a0_7 a0_8 a0_9 a0_10 a0_11 a0_12 a0_13 l0_14 a0_15 32).bind fun t144 => (if t144 = true then (some 0) else (some 80))) else (some 0))) = some r := by rw [if_neg (show ¬ (false = true) by decide)] at H; exact H
     clear H; have H := H1; clear H1
     by_cases c30 : a0_3 > 0
     rotate_left
     · rw [if_neg c30] at H
       have c30b0 : decide (0 < a0_3) = false := decide_eq_false c30
       clear c30
       by_cases c49 : a0_6 > 0
       rotate_left
       · rw [if_neg c49] at H
         have c49b0 : decide (0 < a0_6) = false := decide_eq_false c49
         clear c49
         next =>
          obtain rfl := Option.some.inj H; have hcz56 := cf16 BK138
          go_wp2
          go_ret
          exact ⟨ra_, (be1_ HB GE138)⟩
       rw [if_pos c49] at H
       have c49b0 : decide (0 < a0_6) = true := decide_eq_true c49
       clear c49; replace H := Option.bind_eq_some_iff.mp H; obtain ⟨t144, A500, H⟩ := H; (try dsimp only at H); have A50 := Aside0.mk A500; clear A500
       by_cases c51 : t144 = true
       · subst c51
         have H1 : (some 0) = some r := by rw [if_pos rfl] at H; exact H
         clear H; have H := H1; clear H1
         next =>
          obtain rfl := Option.some.inj H; have hcz52 := cf16 BK138
          go_wp2_with (first | (go_at_call 12; (with_reducible refine (seg_Has.calls a0_0 a0_1 a0_2 a0_3 a0_4 a0_5 a0_6 a0_7 a0_8 a0_9 a0_10 a0_11 a0_12 a0_13 _ _ l0_14 a0_15 32 true _ ?side1 ?side2 A50.out).mono ?_); (case side1 => exact cb_ HR0_14 HB); (case side2 => exact HC0_14.out); rintro e w53 ⟨rfl, hb⟩; replace BK138 := kb_ BK138 hb; replace HB := bs1_ HB GE138 hb; (try clear hb)))
          go_ret
          exact ⟨ra_, (be1_ HB GE138)⟩
       replace c51 := Bool.eq_false_iff.mpr c51; subst c51
       have H1 : (some 80) = some r := by rw [if_neg (show ¬ (false = true) by decide)] at H; exact H
       clear H; have H := H1; clear H1
       next =>
        obtain rfl := Option.some.inj H; have hcz54 := cf16 BK138
        go_wp2_with (first | (go_at_call 12; (with_reducible refine (seg_Has.calls a0_0 a0_1 a0_2 a0_3 a0_4 a0_5 a0_6 a0_7 a0_8 a0_9 a0_10 a0_11 a0_12 a0_13 _ _ l0_14 a0_15 32 false _ ?side1 ?side2 A50.out).mono ?_); (case side1 => exact cb_ HR0_14 HB); (case side2 => exact HC0_14.out); rintro e w55 ⟨rfl, hb⟩; replace BK138 := kb_ BK138 hb; replace HB := bs1_ HB GE138 hb; (try clear hb)))
        go_ret
        exact ⟨ra_, (be1_ HB GE138)⟩
     rw [if_pos c30] at H
     have c30b0 : decide (0 < a0_3) = true := decide_eq_true c30
     clear c30; replace H := Option.bind_eq_some_iff.mp H; obtain ⟨t142, A310, H⟩ := H; (try dsimp only at H); have A31 := Aside0.mk A310; clear A310
     by_cases c32 : t142 = true
     rotate_left
     · replace c32 := Bool.eq_false_iff.mpr c32; subst c32
       have H1 : (some 80) = some r := by rw [if_neg (show ¬ (false = true) by decide)] at H; exact H
       clear H; have H := H1; clear H1
       next =>
        obtain rfl := Option.some.inj H; have hcz47 := cf16 BK138
        go_wp2_with (first | (go_at_call 12; (with_reducible refine (seg_Has.calls a0_0 a0_1 a0_2 a0_3 a0_4 a0_5 a0_6 a0_7 a0_8 a0_9 a0_10 a0_11 a0_12 a0_13 _ _ l0_14 a0_15 16 false _ ?side1 ?side2 A31.out).mono ?_); (case side1 => exact cb_ HR0_14 HB); (case side2 => exact HC0_14.out); rintro e w48 ⟨rfl, hb⟩; replace BK138 := kb_ BK138 hb; replace HB := bs1_ HB GE138 hb; (try clear hb)))
        go_ret
        exact ⟨ra_, (be1_ HB GE138)⟩
     subst c32
     have H1 : (if a0_6 > 0 then ((seg_Has.f a0_0 a0_1 a0_2 a0_3 a0_4 a0_5 a0_6 a0_7 a0_8 a0_9 a0_10 a0_11 a0_12 a0_13 l0_14 a0_15 32).bind fun t143 => (if t143 = true then (some 0) else (some 80))) else (some 0)) = some r := by rw [if_pos rfl] at H; exact H
     clear H; have H := H1; clear H1
     by_cases c33 : a0_6 > 0
     rotate_left
     · rw [if_neg c33] at H
       have c33b0 : decide (0 < a0_6) = false := decide_eq_false c33
       clear c33
       next =>
        obtain rfl := Option.some.inj H; have hcz44 := cf16 BK138
        go_wp2_with (first | (go_at_call 12; (with_reducible refine (seg_Has.calls a0_0 a0_1 a0_2 a0_3 a0_4 a0_5 a0_6 a0_7 a0_8 a0_9 a0_10 a0_11 a0_12 a0_13 _ _ l0_14 a0_15 16 true _ ?side1 ?side2 A31.out).mono ?_); (case side1 => exact cb_ HR0_14 HB); (case side2 => exact HC0_14.out); rintro e w45 ⟨rfl, hb⟩; replace BK138 := kb_ BK138 hb; replace HB := bs1_ HB GE138 hb; (try clear hb); have hcz46 := cf16 BK138))
        go_ret
        exact ⟨ra_, (be1_ HB GE138)⟩
     rw [if_pos c33] at H
     have c33b0 : decide (0 < a0_6) = true := decide_eq_true c33
     clear c33; replace H := Option.bind_eq_some_iff.mp H; obtain ⟨t143, A340, H⟩ := H; (try dsimp only at H); have A34 := Aside0.mk A340; clear A340
     by_cases c35 : t143 = true
     · subst c35
       have H1 : (some 0) = some r := by rw [if_pos rfl] at H; exact H
       clear H; have H := H1; clear H1
       next =>
        obtain rfl := Option.some.inj H; have hcz36 := cf16 BK138
        go_wp2_with (first | (go_at_call 12; (with_reducible refine (seg_Has.calls a0_0 a0_1 a0_2 a0_3 a0_4 a0_5 a0_6 a0_7 a0_8 a0_9 a0_10 a0_11 a0_12 a0_13 _ _ l0_14 a0_15 16 true _ ?side1 ?side2 A31.out).mono ?_); (case side1 => exact cb_ HR0_14 HB); (case side2 => exact HC0_14.out); rintro e w37 ⟨rfl, hb⟩; replace BK138 := kb_ BK138 hb; replace HB := bs1_ HB GE138 hb; (try clear hb); have hcz38 := cf16 BK138) | (go_at_call 12; (with_reducible refine (seg_Has.calls a0_0 a0_1 a0_2 a0_3 a0_4 a0_5 a0_6 a0_7 a0_8 a0_9 a0_10 a0_11 a0_12 a0_13 _ _ l0_14 a0_15 32 true _ ?side1 ?side2 A34.out).mono ?_); (case side1 => exact cb_ HR0_14 HB); (case side2 => exact HC0_14.out); rintro e w39 ⟨rfl, hb⟩; replace BK138 := kb_ BK138 hb; replace HB := bs1_ HB GE138 hb; (try clear hb)))
        go_ret
        exact ⟨ra_, (be1_ HB GE138)⟩
     replace c35 := Bool.eq_false_iff.mpr c35; subst c35
     have H1 : (some 80) = some r := by rw [if_neg (show ¬ (false = true) by decide)] at H; exact H
     clear H; have H := H1; clear H1
     next =>
      obtain rfl := Option.some.inj H; have hcz40 := cf16 BK138
      go_wp2_with (first | (go_at_call 12; (with_reducible refine (seg_Has.calls a0_0 a0_1 a0_2 a0_3 a0_4 a0_5 a0_6 a0_7 a0_8 a0_9 a0_10 a0_11 a0_12 a0_13 _ _ l0_14 a0_15 16 true _ ?side1 ?side2 A31.out).mono ?_); (case side1 => exact cb_ HR0_14 HB); (case side2 => exact HC0_14.out); rintro e w41 ⟨rfl, hb⟩; replace BK138 := kb_ BK138 hb; replace HB := bs1_ HB GE138 hb; (try clear hb); have hcz42 := cf16 BK138) | (go_at_call 12; (with_reducible refine (seg_Has.calls a0_0 a0_1 a0_2 a0_3 a0_4 a0_5 a0_6 a0_7 a0_8 a0_9 a0_10 a0_11 a0_12 a0_13 _ _ l0_14 a0_15 32 false _ ?side1 ?side2 A34.out).mono ?_); (case side1 => exact cb_ HR0_14 HB); (case side2 => exact HC0_14.out); rintro e w43 ⟨rfl, hb⟩; replace BK138 := kb_ BK138 hb; replace HB := bs1_ HB GE138 hb; (try clear hb)))
      go_ret
      exact ⟨ra_, (be1_ HB GE138)⟩

end Go.Proofs.Ytnhoadmgoaenpaa.PSegWrites
