-- Laid by a program of this session (the print, changed: wip/pp.py). Not trusted: Lean checks it.
import Derived.Test.YtnhoadmgoaenpaaPSegWritesx0
import Derived.Test.YtnhoadmgoaenpaaPSegWritesx7
import Derived.Test.YtnhoadmgoaenpaaPSegWritesx8
namespace Go.Proofs.Ytnhoadmgoaenpaa.PSegWrites
open Go.RowKit Go.Proofs.YtnhoadmgoaenpaaW.PrintWords Go.Proofs.YtnhoadmgoaenpaaW.PrintLast Go.Proofs.YtnhoadmgoaenpaaW.PrintMore
attribute [local go_sem] max2_int min2_int max_two min_two max_three min_three max_four min_four max_five min_five max_six min_six max_seven min_seven   -- for this text's walks alone
set_option linter.unusedVariables false
set_option linter.unusedSimpArgs false

/-! ### sternpostref02_Pseudo: function 35 -/
def sternpostref02_Pseudo.j0 : Nat → Int → Int → Int → Int → Bool → Option (ByteArray × Int)
 | 0, _, _, _, _, _ => none
 | k + 1, x0, x1, x2, x3, x33 => if x33 = true then (some ((⟨#[]⟩ : ByteArray), 1)) else ((sternpostref02_Text.f k x0 4).bind fun t231 => ((sternpostref02_Text.f k x1 4).bind fun t232 => (if t231.size + t232.size ≤ 9223372036854775807 then ((sternpostref02_Text.f k x2 2).bind fun t233 => (if (t231 ++ t232).size + t233.size ≤ 9223372036854775807 then ((sternpostref02_Text.f k x3 2).bind fun t234 => (if ((t231 ++ t232) ++ t233).size + t234.size ≤ 9223372036854775807 then (some (((t231 ++ t232) ++ t233) ++ t234, 0)) else (none))) else (none))) else (none))))
def sternpostref02_Pseudo.f (k : Nat) (a0 : Int) (a1 : Int) (a2 : Int) (a3 : Int) : Option (ByteArray × Int) := (sternpostref01_Check.f a0).bind fun t229 => (if t229 = 0 then ((sternpostref01_Check.f a1).bind fun t230 => (if t230 = 0 then (if a2 < 0 then (sternpostref02_Pseudo.j0 k a0 a1 a2 a3 true) else (if a2 > 255 then (sternpostref02_Pseudo.j0 k a0 a1 a2 a3 true) else (if a3 < 0 then (sternpostref02_Pseudo.j0 k a0 a1 a2 a3 true) else (sternpostref02_Pseudo.j0 k a0 a1 a2 a3 (decide (a3 > 65535)))))) else (sternpostref02_Pseudo.j0 k a0 a1 a2 a3 true))) else (sternpostref02_Pseudo.j0 k a0 a1 a2 a3 true))
theorem sternpostref02_Pseudo.mono_l : ∀ k, (∀ y0 y1 y2 y3 y4, LeO (sternpostref02_Pseudo.j0 k y0 y1 y2 y3 y4) (sternpostref02_Pseudo.j0 (k + 1) y0 y1 y2 y3 y4))
 | 0 => fun _ _ _ _ _ r h => by simp [sternpostref02_Pseudo.j0] at h
 | k + 1 => by
  have ih0 := sternpostref02_Pseudo.mono_l k
  ·
   intro y0 y1 y2 y3 y4
   unfold sternpostref02_Pseudo.j0
   repeat' first
   | (with_reducible exact ih0 _ _ _ _ _)
   | (with_reducible exact sternpostref02_Text.mono _ _ _)
   | (with_reducible exact LeO.refl _)
   | (with_reducible exact LeO.none _)
   | (with_reducible refine LeO.ite ?_ ?_)
   | (with_reducible refine LeO.bind ?_ (fun _ => ?_))
   | exact ih0 _ _ _ _ _
   | exact sternpostref02_Text.mono _ _ _
   | exact LeO.none _
   | refine LeO.ite ?_ ?_
   | refine LeO.bind ?_ (fun _ => ?_)
theorem sternpostref02_Pseudo.mono : ∀ a0 a1 a2 a3 k, LeO (sternpostref02_Pseudo.f k a0 a1 a2 a3) (sternpostref02_Pseudo.f (k + 1) a0 a1 a2 a3) := by
 intro a0 a1 a2 a3 k
 have ih0 := sternpostref02_Pseudo.mono_l k
 unfold sternpostref02_Pseudo.f
 repeat' first
  | (with_reducible exact ih0 _ _ _ _ _)
  | (with_reducible exact sternpostref02_Text.mono _ _ _)
  | (with_reducible exact LeO.refl _)
  | (with_reducible exact LeO.none _)
  | (with_reducible refine LeO.ite ?_ ?_)
  | (with_reducible refine LeO.bind ?_ (fun _ => ?_))
  | exact ih0 _ _ _ _ _
  | exact sternpostref02_Text.mono _ _ _
  | exact LeO.none _
  | refine LeO.ite ?_ ?_
  | refine LeO.bind ?_ (fun _ => ?_)
set_option maxHeartbeats 8000000 in
set_option maxRecDepth 100000 in
theorem sternpostref02_Pseudo.calls (k : Nat) (a0 : Int) (a1 : Int) (a2 : Int) (a3 : Int) (r1 : ByteArray) (r2 : Int) (w : World) (h : sternpostref02_Pseudo.f k a0 a1 a2 a3 = some (r1, r2)) :
 Calls Try.prog 35 #[.int .i64 a0, .int .i64 a1, .int .i64 a2, .int .i64 a3] w fun e w' => e = .returned (.tuple #[.string r1, .int .i64 r2]) ∧ Below w.heap.size w w' := by
 have HB := Aside0.mk (Below.refl w.heap.size w)
 have H : ((sternpostref01_Check.f a0).bind fun t229 => (if t229 = 0 then ((sternpostref01_Check.f a1).bind fun t230 => (if t230 = 0 then (if a2 < 0 then (sternpostref02_Pseudo.j0 k a0 a1 a2 a3 true) else (if a2 > 255 then (sternpostref02_Pseudo.j0 k a0 a1 a2 a3 true) else (if a3 < 0 then (sternpostref02_Pseudo.j0 k a0 a1 a2 a3 true) else (sternpostref02_Pseudo.j0 k a0 a1 a2 a3 (decide (a3 > 65535)))))) else (sternpostref02_Pseudo.j0 k a0 a1 a2 a3 true))) else (sternpostref02_Pseudo.j0 k a0 a1 a2 a3 true))) = some (r1, r2) := h
 clear h; have HC5 := Aside0.mk H; clear H
 go_enter Try.func35, Try.ntmps35
 go_upto_region 1 with (fail)
 go_cut [33] (fun v33 wc => ∃ (kq : Nat) (x33_4 : Bool), v33 = .bool x33_4 ∧ Aside0 (sternpostref02_Pseudo.j0 kq a0 a1 a2 a3 x33_4 = some (r1, r2)) ∧ Aside0 (kq ≤ k) ∧ Aside0 (Below w.heap.size w wc))
 case first =>
  have H := HC5.out
  clear HC5; replace H := Option.bind_eq_some_iff.mp H; obtain ⟨t229, A60, H⟩ := H; (try dsimp only at H); have A6 := Aside0.mk A60; clear A60
  by_cases c7 : t229 = 0
  rotate_left
  · rw [if_neg c7] at H
    have c7b0 : (t229 == 0) = false := beq_eq_false_iff_ne.mpr c7
    have c7b1 : (t229 != 0) = true := bne_iff_ne.mpr c7
    (first | rw [c7b0] | rw [c7b1] | (simp only [i64_w, i32_w]; rw [c7b0]) | skip)
    as_aux_lemma =>
     have H' := Aside0.mk H; clear H
     go_wp2_with (first | ((with_reducible refine gate_callee (f := 25) rfl ?_); refine goesL_ (some 11) rfl rfl Try.func25 (by kernel_rfl) rfl #[.int .i64 a0] rfl ga_ ?_; (with_reducible refine (sternpostref01_Check.calls a0 t229 _ A6.out).mono ?_); rintro e w' ⟨rfl, ⟨nd, rfl⟩⟩; refine ⟨_, rfl, ?_⟩))
     go_meet
     case rel => exact ⟨_, (true), (by first | rfl | (simp; done) | (simp [*]; done)), H', ⟨by first | omega | exact Nat.le_refl _⟩, ⟨by repeat (first | (with_reducible first | exact HB.out | apply below_alloc | apply pw_below_drewN | apply below_drew1) | exact HB.out)⟩⟩
  rw [if_pos c7] at H
  have c7b0 : (t229 == 0) = true := beq_iff_eq.mpr c7
  have c7b1 : (t229 != 0) = false := bne_eq_false_iff_eq.mpr c7
  clear c7
  (first | rw [c7b0] | rw [c7b1] | (simp only [i64_w, i32_w]; rw [c7b0]) | skip)
  replace H := Option.bind_eq_some_iff.mp H; obtain ⟨t230, A80, H⟩ := H; (try dsimp only at H); have A8 := Aside0.mk A80; clear A80
  by_cases c9 : t230 = 0
  rotate_left
  · rw [if_neg c9] at H
    have c9b0 : (t230 == 0) = false := beq_eq_false_iff_ne.mpr c9
    have c9b1 : (t230 != 0) = true := bne_iff_ne.mpr c9
    as_aux_lemma =>
     have H' := Aside0.mk H; clear H
     go_wp2_with (first | ((with_reducible refine gate_callee (f := 25) rfl ?_); refine goesL_ (some 11) rfl rfl Try.func25 (by kernel_rfl) rfl #[.int .i64 a0] rfl ga_ ?_; (with_reducible refine (sternpostref01_Check.calls a0 t229 _ A6.out).mono ?_); rintro e w' ⟨rfl, ⟨nd, rfl⟩⟩; refine ⟨_, rfl, ?_⟩) | (go_at_call 25; (with_reducible refine (sternpostref01_Check.calls a1 t230 _ A8.out).mono ?_); rintro e w' ⟨rfl, ⟨nd, rfl⟩⟩))
     go_meet
     case rel => exact ⟨_, (true), (by first | rfl | (simp; done) | (simp [*]; done)), H', ⟨by first | omega | exact Nat.le_refl _⟩, ⟨by repeat (first | (with_reducible first | exact HB.out | apply below_alloc | apply pw_below_drewN | apply below_drew1) | exact HB.out)⟩⟩
  rw [if_pos c9] at H
  have c9b0 : (t230 == 0) = true := beq_iff_eq.mpr c9
  have c9b1 : (t230 != 0) = false := bne_eq_false_iff_eq.mpr c9
  clear c9
  by_cases c10 : a2 < 0
  · rw [if_pos c10] at H
    have c10b0 : decide (a2 < 0) = true := decide_eq_true c10
    clear c10
    as_aux_lemma =>
     have H' := Aside0.mk H; clear H
     go_wp2_with (first | ((with_reducible refine gate_callee (f := 25) rfl ?_); refine goesL_ (some 11) rfl rfl Try.func25 (by kernel_rfl) rfl #[.int .i64 a0] rfl ga_ ?_; (with_reducible refine (sternpostref01_Check.calls a0 t229 _ A6.out).mono ?_); rintro e w' ⟨rfl, ⟨nd, rfl⟩⟩; refine ⟨_, rfl, ?_⟩) | (go_at_call 25; (with_reducible refine (sternpostref01_Check.calls a1 t230 _ A8.out).mono ?_); rintro e w' ⟨rfl, ⟨nd, rfl⟩⟩))
     go_meet
     case rel => exact ⟨_, (true), (by first | rfl | (simp; done) | (simp [*]; done)), H', ⟨by first | omega | exact Nat.le_refl _⟩, ⟨by repeat (first | (with_reducible first | exact HB.out | apply below_alloc | apply pw_below_drewN | apply below_drew1) | exact HB.out)⟩⟩
  rw [if_neg c10] at H
  have c10b0 : decide (a2 < 0) = false := decide_eq_false c10
  clear c10
  by_cases c11 : a2 > 255
  · rw [if_pos c11] at H
    have c11b0 : decide (255 < a2) = true := decide_eq_true c11
    clear c11
    as_aux_lemma =>
     have H' := Aside0.mk H; clear H
     go_wp2_with (first | ((with_reducible refine gate_callee (f := 25) rfl ?_); refine goesL_ (some 11) rfl rfl Try.func25 (by kernel_rfl) rfl #[.int .i64 a0] rfl ga_ ?_; (with_reducible refine (sternpostref01_Check.calls a0 t229 _ A6.out).mono ?_); rintro e w' ⟨rfl, ⟨nd, rfl⟩⟩; refine ⟨_, rfl, ?_⟩) | (go_at_call 25; (with_reducible refine (sternpostref01_Check.calls a1 t230 _ A8.out).mono ?_); rintro e w' ⟨rfl, ⟨nd, rfl⟩⟩))
     go_meet
     case rel => exact ⟨_, (true), (by first | rfl | (simp; done) | (simp [*]; done)), H', ⟨by first | omega | exact Nat.le_refl _⟩, ⟨by repeat (first | (with_reducible first | exact HB.out | apply below_alloc | apply pw_below_drewN | apply below_drew1) | exact HB.out)⟩⟩
  rw [if_neg c11] at H
  have c11b0 : decide (255 < a2) = false := decide_eq_false c11
  clear c11
  by_cases c12 : a3 < 0
  · rw [if_pos c12] at H
    have c12b0 : decide (a3 < 0) = true := decide_eq_true c12
    clear c12
    as_aux_lemma =>
     have H' := Aside0.mk H; clear H
     go_wp2_with (first | ((with_reducible refine gate_callee (f := 25) rfl ?_); refine goesL_ (some 11) rfl rfl Try.func25 (by kernel_rfl) rfl #[.int .i64 a0] rfl ga_ ?_; (with_reducible refine (sternpostref01_Check.calls a0 t229 _ A6.out).mono ?_); rintro e w' ⟨rfl, ⟨nd, rfl⟩⟩; refine ⟨_, rfl, ?_⟩) | (go_at_call 25; (with_reducible refine (sternpostref01_Check.calls a1 t230 _ A8.out).mono ?_); rintro e w' ⟨rfl, ⟨nd, rfl⟩⟩))
     go_meet
     case rel => exact ⟨_, (true), (by first | rfl | (simp; done) | (simp [*]; done)), H', ⟨by first | omega | exact Nat.le_refl _⟩, ⟨by repeat (first | (with_reducible first | exact HB.out | apply below_alloc | apply pw_below_drewN | apply below_drew1) | exact HB.out)⟩⟩
  rw [if_neg c12] at H
  have c12b0 : decide (a3 < 0) = false := decide_eq_false c12
  clear c12
  as_aux_lemma =>
   have H' := Aside0.mk H; clear H
   go_wp2_with (first | ((with_reducible refine gate_callee (f := 25) rfl ?_); refine goesL_ (some 11) rfl rfl Try.func25 (by kernel_rfl) rfl #[.int .i64 a0] rfl ga_ ?_; (with_reducible refine (sternpostref01_Check.calls a0 t229 _ A6.out).mono ?_); rintro e w' ⟨rfl, ⟨nd, rfl⟩⟩; refine ⟨_, rfl, ?_⟩) | (go_at_call 25; (with_reducible refine (sternpostref01_Check.calls a1 t230 _ A8.out).mono ?_); rintro e w' ⟨rfl, ⟨nd, rfl⟩⟩))
   go_meet
   case rel => exact ⟨_, (decide (a3 > 65535)), (by first | rfl | (simp; done) | (simp [*]; done)), H', ⟨by first | omega | exact Nat.le_refl _⟩, ⟨by repeat (first | (with_reducible first | exact HB.out | apply below_alloc | apply pw_below_drewN | apply below_drew1) | exact HB.out)⟩⟩
 case rest =>
  clear HC5; (try clear c1); (try clear c2); (try clear p2); (try clear c3); (try clear p6); (try clear c7); (try clear c7b0); (try clear c7b1); (try clear c9); (try clear c9b0); (try clear c9b1); (try clear c10); (try clear c10b0); (try clear c11); (try clear c11b0); (try clear c12); (try clear c12b0)
  obtain ⟨kq, x33_4, rfl, HA, HJ4, HB⟩ := hcut
  cases kq with
  | zero => exact absurd HA.out (by simp [sternpostref02_Pseudo.j0])
  | succ kj4 =>
   have H := HA.out
   clear HA
   simp only [sternpostref02_Pseudo.j0] at H
   by_cases c13 : x33_4 = true
   · subst c13
     have H1 : (some ((⟨#[]⟩ : ByteArray), 1)) = some (r1, r2) := by rw [if_pos rfl] at H; exact H
     clear H; have H := H1; clear H1
     as_aux_lemma =>
      simp only [Option.some.injEq, Prod.mk.injEq] at H
      obtain ⟨rfl, rfl⟩ := H
      go_wp2
      go_ret2
      exact ⟨ra_, (be0_ HB)⟩
   replace c13 := Bool.eq_false_iff.mpr c13; subst c13
   have H1 : ((sternpostref02_Text.f kj4 a0 4).bind fun t231 => ((sternpostref02_Text.f kj4 a1 4).bind fun t232 => (if t231.size + t232.size ≤ 9223372036854775807 then ((sternpostref02_Text.f kj4 a2 2).bind fun t233 => (if (t231 ++ t232).size + t233.size ≤ 9223372036854775807 then ((sternpostref02_Text.f kj4 a3 2).bind fun t234 => (if ((t231 ++ t232) ++ t233).size + t234.size ≤ 9223372036854775807 then (some (((t231 ++ t232) ++ t233) ++ t234, 0)) else (none))) else (none))) else (none)))) = some (r1, r2) := by rw [if_neg (show ¬ (false = true) by decide)] at H; exact H
   clear H; have H := H1; clear H1; replace H := Option.bind_eq_some_iff.mp H; obtain ⟨t231, A140, H⟩ := H; (try dsimp only at H); have A14 := Aside0.mk A140; clear A140; replace H := Option.bind_eq_some_iff.mp H; obtain ⟨t232, A150, H⟩ := H; (try dsimp only at H); have A15 := Aside0.mk A150; clear A150
   by_cases c16 : t231.size + t232.size ≤ 9223372036854775807
   rotate_left
   · rw [if_neg c16] at H
     exact absurd H (by simp)
   rw [if_pos c16] at H; have c16b0 := eq_true c16
   have c16b1 : decide (t231.size + t232.size ≤ 9223372036854775807) = true := decide_eq_true c16
   try have c16b2 : (9223372036854775807 < t231.size + t232.size) = False := eq_false (Nat.not_lt.2 c16)
   replace H := Option.bind_eq_some_iff.mp H; obtain ⟨t233, A170, H⟩ := H; (try dsimp only at H); have A17 := Aside0.mk A170; clear A170
   by_cases c18 : (t231 ++ t232).size + t233.size ≤ 9223372036854775807
   rotate_left
   · rw [if_neg c18] at H
     exact absurd H (by simp)
   rw [if_pos c18] at H; have c18b0 := eq_true c18
   have c18b1 : decide ((t231 ++ t232).size + t233.size ≤ 9223372036854775807) = true := decide_eq_true c18
   try have c18b2 : (9223372036854775807 < (t231 ++ t232).size + t233.size) = False := eq_false (Nat.not_lt.2 c18)
   (try (have c18b3 : (9223372036854775807 < t231.size + t232.size + t233.size) = False := by have h_ := c18b2; simp only [ByteArray.size_append, ByteArray.size_extract, Nat.min_self, Nat.sub_zero] at h_; with_reducible exact h_))
   replace H := Option.bind_eq_some_iff.mp H; obtain ⟨t234, A190, H⟩ := H; (try dsimp only at H); have A19 := Aside0.mk A190; clear A190
   by_cases c20 : ((t231 ++ t232) ++ t233).size + t234.size ≤ 9223372036854775807
   rotate_left
   · rw [if_neg c20] at H
     exact absurd H (by simp)
   rw [if_pos c20] at H; have c20b0 := eq_true c20
   have c20b1 : decide (((t231 ++ t232) ++ t233).size + t234.size ≤ 9223372036854775807) = true := decide_eq_true c20
   try have c20b2 : (9223372036854775807 < ((t231 ++ t232) ++ t233).size + t234.size) = False := eq_false (Nat.not_lt.2 c20)
   (try (have c20b3 : (9223372036854775807 < t231.size + t232.size + t233.size + t234.size) = False := by have h_ := c20b2; simp only [ByteArray.size_append, ByteArray.size_extract, Nat.min_self, Nat.sub_zero] at h_; with_reducible exact h_))
   as_aux_lemma =>
    simp only [Option.some.injEq, Prod.mk.injEq] at H
    obtain ⟨rfl, rfl⟩ := H
    go_wp2_with (first | ((with_reducible refine gate_callee (f := 45) rfl ?_); refine goesL_ (some 35) rfl rfl Try.func45 (by kernel_rfl) rfl #[.int .i64 a0, .int .i64 4] rfl ga_ ?_; (with_reducible refine (sternpostref02_Text.calls kj4 a0 4 t231 _ A14.out).mono ?_); rintro e w21 ⟨rfl, hb⟩; refine ⟨_, rfl, ?_⟩; replace HB := bs0_ HB hb; (try clear hb)) | ((with_reducible refine gate_callee (f := 45) rfl ?_); refine goesL_ (some 37) rfl rfl Try.func45 (by kernel_rfl) rfl #[.int .i64 a1, .int .i64 4] rfl ga_ ?_; (with_reducible refine (sternpostref02_Text.calls kj4 a1 4 t232 _ A15.out).mono ?_); rintro e w22 ⟨rfl, hb⟩; refine ⟨_, rfl, ?_⟩; replace HB := bs0_ HB hb; (try clear hb)) | ((with_reducible refine gate_callee (f := 45) rfl ?_); refine goesL_ (some 40) rfl rfl Try.func45 (by kernel_rfl) rfl #[.int .i64 a2, .int .i64 2] rfl ga_ ?_; (with_reducible refine (sternpostref02_Text.calls kj4 a2 2 t233 _ A17.out).mono ?_); rintro e w23 ⟨rfl, hb⟩; refine ⟨_, rfl, ?_⟩; replace HB := bs0_ HB hb; (try clear hb)) | ((with_reducible refine gate_callee (f := 45) rfl ?_); refine goesL_ (some 43) rfl rfl Try.func45 (by kernel_rfl) rfl #[.int .i64 a3, .int .i64 2] rfl ga_ ?_; (with_reducible refine (sternpostref02_Text.calls kj4 a3 2 t234 _ A19.out).mono ?_); rintro e w24 ⟨rfl, hb⟩; refine ⟨_, rfl, ?_⟩; replace HB := bs0_ HB hb; (try clear hb)))
    go_ret2
    exact ⟨ra_, (be0_ HB)⟩

/-! ### sternpostref02_fold: function 59 -/
def sternpostref02_fold.l0 : Nat → Int → Option (Int)
 | 0, _ => none
 | k + 1, x0 => if x0 > 65535 then (sternpostref02_fold.l0 k (wrap64 ((wrap64 (Int.tdiv x0 65536)) + (Int.tmod x0 65536)))) else (some x0)
def sternpostref02_fold.f (k : Nat) (a0 : Int) : Option (Int) := sternpostref02_fold.l0 k a0
theorem sternpostref02_fold.mono_l : ∀ k, (∀ y0, LeO (sternpostref02_fold.l0 k y0) (sternpostref02_fold.l0 (k + 1) y0))
 | 0 => fun _ r h => by simp [sternpostref02_fold.l0] at h
 | k + 1 => by
  have ih0 := sternpostref02_fold.mono_l k
  ·
   intro y0
   unfold sternpostref02_fold.l0
   repeat' first
   | (with_reducible exact ih0 _)
   | (with_reducible exact LeO.refl _)
   | (with_reducible exact LeO.none _)
   | (with_reducible refine LeO.ite ?_ ?_)
   | (with_reducible refine LeO.bind ?_ (fun _ => ?_))
   | exact ih0 _
   | exact LeO.none _
   | refine LeO.ite ?_ ?_
   | refine LeO.bind ?_ (fun _ => ?_)
theorem sternpostref02_fold.mono : ∀ a0 k, LeO (sternpostref02_fold.f k a0) (sternpostref02_fold.f (k + 1) a0) := by
 intro a0 k
 have ih0 := sternpostref02_fold.mono_l k
 unfold sternpostref02_fold.f
 repeat' first
  | (with_reducible exact ih0 _)
  | (with_reducible exact LeO.refl _)
  | (with_reducible exact LeO.none _)
  | (with_reducible refine LeO.ite ?_ ?_)
  | (with_reducible refine LeO.bind ?_ (fun _ => ?_))
  | exact ih0 _
  | exact LeO.none _
  | refine LeO.ite ?_ ?_
  | refine LeO.bind ?_ (fun _ => ?_)
set_option maxHeartbeats 8000000 in
set_option maxRecDepth 100000 in
theorem sternpostref02_fold.calls (k : Nat) (a0 : Int) (r : Int) (w : World) (h : sternpostref02_fold.f k a0 = some r) :
 Calls Try.prog 59 #[.int .i64 a0] w fun e w' => e = .returned (.int .i64 r) ∧ Drawn0 w w' := by
 have H : (sternpostref02_fold.l0 k a0) = some r := h
 clear h; have H' := Aside0.mk H; clear H
 go_enter Try.func59, Try.ntmps59
 go_wp2
 go_loopg [0] k (fun kq v0 w' => ∃ (x0_1 : Int), v0 = .int .i64 x0_1 ∧ Aside0 (sternpostref02_fold.l0 kq x0_1 = some r) ∧ Aside0 (kq ≤ k) ∧ Drawn0 w w')
 case atStart => exact ⟨(a0), (by first | rfl | (simp; done) | (simp [*]; done)), H', ⟨Nat.le_refl _⟩, by repeat (first | exact Drawn0.refl _ | apply Drawn0.step)⟩
 case round =>
  clear H'
  obtain ⟨x0_1, rfl, HA, HK1, ⟨m1, rfl⟩⟩ := hrel
  cases gk with
  | zero => exact absurd HA.out (by simp [sternpostref02_fold.l0])
  | succ k1 =>
   have H := HA.out
   clear HA
   simp only [sternpostref02_fold.l0] at H
   by_cases c2 : x0_1 > 65535
   rotate_left
   · rw [if_neg c2] at H
     have c2b0 : decide (65535 < x0_1) = false := decide_eq_false c2
     clear c2
     as_aux_lemma =>
      obtain rfl := Option.some.inj H
      go_wp2
      go_ret
      exact ⟨by first | rfl | (simp; done) | (simp [*]; done), by repeat (first | exact Drawn0.refl _ | apply Drawn0.step)⟩
   rw [if_pos c2] at H
   have c2b0 : decide (65535 < x0_1) = true := decide_eq_true c2
   clear c2
   as_aux_lemma =>
    have H' := Aside0.mk H; clear H
    go_wp2
    go_roundg k1
    case measure => have := HK1.out; omega
    case rel => exact ⟨(wrap64 ((wrap64 (Int.tdiv x0_1 65536)) + (Int.tmod x0_1 65536))), (by first | rfl | (simp; done) | (simp [*]; done)), H', ⟨by have := HK1.out; omega⟩, by repeat (first | exact Drawn0.refl _ | apply Drawn0.step)⟩

/-! ### sternpostref02_Sum: function 46 -/
def sternpostref02_Sum.l0 : Nat → ByteArray → Int → Int → Option (Int)
 | 0, _, _, _ => none
 | k + 1, x0, x3, x4 => if x4 < (x0.size : Int) then (if (Int.tmod x4 2) = 0 then (if 0 ≤ x4 then ((sternpostref02_fold.f k (wrap64 (x3 + (wrap64 (256 * (wrap64 (bt x0 x4))))))).bind fun t235 => (sternpostref02_Sum.l0 k x0 t235 (wrap64 (x4 + 1)))) else (none)) else (if 0 ≤ x4 then ((sternpostref02_fold.f k (wrap64 (x3 + (wrap64 (bt x0 x4))))).bind fun t236 => (sternpostref02_Sum.l0 k x0 t236 (wrap64 (x4 + 1)))) else (none))) else (some (wrap64 (65535 - x3)))
def sternpostref02_Sum.f (k : Nat) (a0 : ByteArray) : Option (Int) := sternpostref02_Sum.l0 k a0 0 0
theorem sternpostref02_Sum.mono_l : ∀ k, (∀ y0 y1 y2, LeO (sternpostref02_Sum.l0 k y0 y1 y2) (sternpostref02_Sum.l0 (k + 1) y0 y1 y2))
 | 0 => fun _ _ _ r h => by simp [sternpostref02_Sum.l0] at h
 | k + 1 => by
  have ih0 := sternpostref02_Sum.mono_l k
  ·
   intro y0 y1 y2
   unfold sternpostref02_Sum.l0
   repeat' first
   | (with_reducible exact ih0 _ _ _)
   | (with_reducible exact sternpostref02_fold.mono _ _)
   | (with_reducible exact LeO.refl _)
   | (with_reducible exact LeO.none _)
   | (with_reducible refine LeO.ite ?_ ?_)
   | (with_reducible refine LeO.bind ?_ (fun _ => ?_))
   | exact ih0 _ _ _
   | exact sternpostref02_fold.mono _ _
   | exact LeO.none _
   | refine LeO.ite ?_ ?_
   | refine LeO.bind ?_ (fun _ => ?_)
theorem sternpostref02_Sum.mono : ∀ a0 k, LeO (sternpostref02_Sum.f k a0) (sternpostref02_Sum.f (k + 1) a0) := by
 intro a0 k
 have ih0 := sternpostref02_Sum.mono_l k
 unfold sternpostref02_Sum.f
 repeat' first
  | (with_reducible exact ih0 _ _ _)
  | (with_reducible exact sternpostref02_fold.mono _ _)
  | (with_reducible exact LeO.refl _)
  | (with_reducible exact LeO.none _)
  | (with_reducible refine LeO.ite ?_ ?_)
  | (with_reducible refine LeO.bind ?_ (fun _ => ?_))
  | exact ih0 _ _ _
  | exact sternpostref02_fold.mono _ _
  | exact LeO.none _
  | refine LeO.ite ?_ ?_
  | refine LeO.bind ?_ (fun _ => ?_)
set_option maxHeartbeats 8000000 in
set_option maxRecDepth 100000 in
theorem sternpostref02_Sum.calls (k : Nat) (a0 : ByteArray) (r : Int) (w : World) (h : sternpostref02_Sum.f k a0 = some r) :
 Calls Try.prog 46 #[.string a0] w fun e w' => e = .returned (.int .i64 r) ∧ Drawn0 w w' := by
 have H : (sternpostref02_Sum.l0 k a0 0 0) = some r := h
 clear h; have H' := Aside0.mk H; clear H
 go_enter Try.func46, Try.ntmps46
 go_wp2
 go_loopg [3, 4] k (fun kq v3 v4 w' => ∃ (x3_1 : Int) (x4_1 : Int), v3 = .int .i64 x3_1 ∧ v4 = .int .i64 x4_1 ∧ Aside0 (sternpostref02_Sum.l0 kq a0 x3_1 x4_1 = some r) ∧ Aside0 (kq ≤ k) ∧ Drawn0 w w')
 case atStart => exact ⟨(0), (0), (by first | rfl | (simp; done) | (simp [*]; done)), (by first | rfl | (simp; done) | (simp [*]; done)), H', ⟨Nat.le_refl _⟩, by repeat (first | exact Drawn0.refl _ | apply Drawn0.step)⟩
 case round =>
  clear H'
  obtain ⟨x3_1, x4_1, rfl, rfl, HA, HK1, ⟨m1, rfl⟩⟩ := hrel
  cases gk with
  | zero => exact absurd HA.out (by simp [sternpostref02_Sum.l0])
  | succ k1 =>
   have H := HA.out
   clear HA
   simp only [sternpostref02_Sum.l0] at H
   by_cases c2 : x4_1 < (a0.size : Int)
   rotate_left
   · rw [if_neg c2] at H
     have c2b0 : decide (x4_1 < (a0.size : Int)) = false := decide_eq_false c2
     clear c2
     as_aux_lemma =>
      obtain rfl := Option.some.inj H
      go_wp2
      go_ret
      exact ⟨by first | rfl | (simp; done) | (simp [*]; done), by repeat (first | exact Drawn0.refl _ | apply Drawn0.step)⟩
   rw [if_pos c2] at H
   have c2b0 : decide (x4_1 < (a0.size : Int)) = true := decide_eq_true c2
   clear c2
   by_cases c3 : (Int.tmod x4_1 2) = 0
   rotate_left
   · rw [if_neg c3] at H
     have c3b0 : ((Int.tmod x4_1 2) == 0) = false := beq_eq_false_iff_ne.mpr c3
     have c3b1 : ((Int.tmod x4_1 2) != 0) = true := bne_iff_ne.mpr c3
     by_cases c7 : 0 ≤ x4_1
     rotate_left
     · rw [if_neg c7] at H
       exact absurd H (by simp)
     rw [if_pos c7] at H
     have c7b0 : decide (0 ≤ x4_1) = true := decide_eq_true c7
     clear c7; replace H := Option.bind_eq_some_iff.mp H; obtain ⟨t236, A90, H⟩ := H; (try dsimp only at H); have A9 := Aside0.mk A90; clear A90
     as_aux_lemma =>
      have H' := Aside0.mk H; clear H
      have p8 : 0 ≤ (x4_1 : Int) := of_decide_eq_true (by first | (with_reducible assumption) | assumption)
      have q8 : x4_1 < (a0.size : Int) := of_decide_eq_true (by first | (with_reducible assumption) | assumption)
      have hx8 := bt_at a0 x4_1
      replace p8 := eq_true p8; replace q8 := eq_true q8
      go_wp2_with (first | ((with_reducible refine gate_callee (f := 59) rfl ?_); refine goesL_ (some 28) rfl rfl Try.func59 (by kernel_rfl) rfl #[.int .i64 (wrap64 (x3_1 + (wrap64 (bt a0 x4_1))))] rfl ga_ ?_; (with_reducible refine (sternpostref02_fold.calls k1 (wrap64 (x3_1 + (wrap64 (bt a0 x4_1)))) t236 _ A9.out).mono ?_); rintro e w' ⟨rfl, ⟨nd, rfl⟩⟩; refine ⟨_, rfl, ?_⟩))
      go_roundg k1
      case measure => have := HK1.out; omega
      case rel => exact ⟨(t236), (wrap64 (x4_1 + 1)), (by first | rfl | (simp; done) | (simp [*]; done)), (by first | rfl | (simp; done) | (simp [*]; done)), H', ⟨by have := HK1.out; omega⟩, by repeat (first | exact Drawn0.refl _ | apply Drawn0.step)⟩
   rw [if_pos c3] at H
   have c3b0 : ((Int.tmod x4_1 2) == 0) = true := beq_iff_eq.mpr c3
   have c3b1 : ((Int.tmod x4_1 2) != 0) = false := bne_eq_false_iff_eq.mpr c3
   clear c3
   by_cases c4 : 0 ≤ x4_1
   rotate_left
   · rw [if_neg c4] at H
     exact absurd H (by simp)
   rw [if_pos c4] at H
   have c4b0 : decide (0 ≤ x4_1) = true := decide_eq_true c4
   clear c4; replace H := Option.bind_eq_some_iff.mp H; obtain ⟨t235, A60, H⟩ := H; (try dsimp only at H); have A6 := Aside0.mk A60; clear A60
   as_aux_lemma =>
    have H' := Aside0.mk H; clear H
    have p5 : 0 ≤ (x4_1 : Int) := of_decide_eq_true (by first | (with_reducible assumption) | assumption)
    have q5 : x4_1 < (a0.size : Int) := of_decide_eq_true (by first | (with_reducible assumption) | assumption)
    have hx5 := bt_at a0 x4_1
    replace p5 := eq_true p5; replace q5 := eq_true q5
    go_wp2_with (first | ((with_reducible refine gate_callee (f := 59) rfl ?_); refine goesL_ (some 28) rfl rfl Try.func59 (by kernel_rfl) rfl #[.int .i64 (wrap64 (x3_1 + (wrap64 (256 * (wrap64 (bt a0 x4_1))))))] rfl ga_ ?_; (with_reducible refine (sternpostref02_fold.calls k1 (wrap64 (x3_1 + (wrap64 (256 * (wrap64 (bt a0 x4_1)))))) t235 _ A6.out).mono ?_); rintro e w' ⟨rfl, ⟨nd, rfl⟩⟩; refine ⟨_, rfl, ?_⟩))
    go_roundg k1
    case measure => have := HK1.out; omega
    case rel => exact ⟨(t235), (wrap64 (x4_1 + 1)), (by first | rfl | (simp; done) | (simp [*]; done)), (by first | rfl | (simp; done) | (simp [*]; done)), H', ⟨by have := HK1.out; omega⟩, by repeat (first | exact Drawn0.refl _ | apply Drawn0.step)⟩

end Go.Proofs.Ytnhoadmgoaenpaa.PSegWrites
