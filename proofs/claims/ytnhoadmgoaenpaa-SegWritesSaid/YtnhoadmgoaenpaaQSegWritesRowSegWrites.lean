/- The row of the law SegWrites: its arguments laid open, the walk, and what they read as afterwards. -/
import Derived.Test.YtnhoadmgoaenpaaRows
import Derived.Test.YtnhoadmgoaenpaaQSegWritesOpen
import Derived.Test.YtnhoadmgoaenpaaQSegWritesSegT
import Derived.WalkKit
import Derived.ProofKit
import Derived.OpenShut
import Derived.ShutString
import Derived.ChangeOld
import Derived.Below
import Derived.SizedLaws
namespace Go.Proofs.Ytnhoadmgoaenpaa.segWrites
open Go.ChangeShapes Go.WideShapes Go.ChangeAt Go.RowKit Go.Proofs.YtnhoadmgoaenpaaW.PrintWords Go.Proofs.Ytnhoadmgoaenpaa.Open Go.Proofs.Ytnhoadmgoaenpaa.PSegWrites
set_option linter.unusedVariables false
theorem own : ownKnob Try.prog.godebug = none := by kernel_rfl
theorem laidOut : laidOutB Try.prog = true := by kernel_rfl
def kOpts : Kd (Int × Int × Int × Int × Bool × Bool × Bool × List S68) := Kd.pair (Kd.int .i64) (Kd.pair (Kd.int .i64) (Kd.pair (Kd.int .i64) (Kd.pair (Kd.int .i64) (Kd.pair Kd.bool (Kd.pair Kd.bool (Kd.pair Kd.bool (Kd.slice 68 k68)))))))
def kSeg : Kd (Int × Int × Int × Int × Int × Int × Int × (Int × Int × Int × Int × Bool × Bool × Bool × List S68) × ByteArray) := Kd.pair (Kd.int .i64) (Kd.pair (Kd.int .i64) (Kd.pair (Kd.int .i64) (Kd.pair (Kd.int .i64) (Kd.pair (Kd.int .i64) (Kd.pair (Kd.int .i64) (Kd.pair (Kd.int .i64) (Kd.pair kOpts Kd.string)))))))
set_option maxRecDepth 100000 in
theorem lifted (os : Os) (started : os.Started) (H : Type) (enc : TypeId × Value → H) :
    ReturnsInHanded {} Try.checked os 3 .any (Rows.segWritesSpec.pre6 enc Try.prog Try.f3 Rows.segWritesRow.domain false) (Rows.segWritesSpec.post enc Try.prog Try.f3 false true false false) := by
  have o68 := opens_iso (f := fun x : S68 => (x.f0, x.f1)) (fun p : Int × Int => (⟨p.1, p.2⟩ : S68)) (fun _ => rfl) (opens_struct (P := Try.prog) Try.underlying68 (d := Kd.pair (Kd.int .i64) (Kd.int .i64)) (by kernel_rfl) (fs_cons (by kernel_rfl) (opens_int Try.underlying3) (fs_last (by kernel_rfl) (opens_int Try.underlying3))))
  have o23 := opens_struct (P := Try.prog) Try.underlying23 (d := Kd.pair (Kd.int .i64) (Kd.int .i64)) (by kernel_rfl) (fs_cons (by kernel_rfl) (opens_int Try.underlying3) (fs_last (by kernel_rfl) (opens_int Try.underlying3)))
  have o26 := opens_struct (P := Try.prog) Try.underlying26 (d := kOpts) (by kernel_rfl) (fs_cons (by kernel_rfl) (opens_int Try.underlying3) (fs_cons (by kernel_rfl) (opens_int Try.underlying3) (fs_cons (by kernel_rfl) (opens_int Try.underlying3) (fs_cons (by kernel_rfl) (opens_int Try.underlying3)
    (fs_cons (by kernel_rfl) (opens_bool Try.underlying4) (fs_cons (by kernel_rfl) (opens_bool Try.underlying4) (fs_cons (by kernel_rfl) (opens_bool Try.underlying4) (fs_last (by kernel_rfl) (opens_slice (b := 16) Try.underlying24 (by kernel_rfl) (by kernel_rfl) o68)))))))))
  have o28 := opens_struct (P := Try.prog) Try.underlying28 (d := kSeg) (by kernel_rfl) (fs_cons (by kernel_rfl) (opens_int Try.underlying3) (fs_cons (by kernel_rfl) (opens_int Try.underlying3) (fs_cons (by kernel_rfl) (opens_int Try.underlying3) (fs_cons (by kernel_rfl) (opens_int Try.underlying3)
    (fs_cons (by kernel_rfl) (opens_int Try.underlying3) (fs_cons (by kernel_rfl) (opens_int Try.underlying3) (fs_cons (by kernel_rfl) (opens_int Try.underlying3) (fs_cons (by kernel_rfl) o26 (fs_last (by kernel_rfl) (opens_string Try.underlying9))))))))))
  refine returnsInHanded_of_change_sized (C := Try.checked) own started (by kernel_rfl) Try.func3
    (ChangeSpec.witness6 (enc := enc) (C := Try.checked) false ⟨#[], #[.agg #[.int .i64 0, .int .i64 0], .agg #[.int .i64 0, .int .i64 0, .int .i64 0, .int .i64 0, .int .i64 0, .int .i64 0, .int .i64 0, .int .i64 0, .int .i64 0, .int .i64 0, .int .i64 0, .bool false, .bool false, .bool false, .slice none 0 0, .string ByteArray.empty], .int .i64 0], []⟩ 8 (by kernel_rfl) (by kernel_rfl) (by kernel_rfl) (by kernel_rfl)) ?_
  intro W base args ds gs before hval0 hW hcnd hsz0 _
  have hsz : (DataW.weightsEach Try.prog (Try.f3.params.toList ++ Rows.segWritesSpec.plain.varTypes Try.prog) (ds ++ gs)).all (· ≤ reachBytes) = true := hsz0
  have hval : ∀ (j : Nat) t v, Try.f3.params[j]? = some t → args[j]? = some v → Value.okWide Try.prog W .any base t v := hval0
  have hW' := hW
  obtain ⟨p, q, hA0, hV, rfl, hfz, hnd⟩ := hW
  have hA : DataW.TrodAll enc Try.prog W 0 (fun _ => true) true Try.f3.params.toList args.toList ds p := hA0
  rw [Try.params3] at hA hval hsz
  obtain ⟨v0, vs0, d0, ds0, p0, q0, hargs, rfl, rfl, h0, r0⟩ := trodAll_cons hA
  obtain ⟨v1, vs1, d1, ds1, p1, q1, rfl, rfl, rfl, h1, r1⟩ := trodAll_cons r0
  obtain ⟨v2, vs2, d2, ds2, p2, q2, rfl, rfl, rfl, h2, r2⟩ := trodAll_cons r1
  obtain ⟨rfl, rfl, rfl⟩ := trodAll_nil r2
  obtain rfl : args = #[v0, v1, v2] := by cases args; simp_all
  obtain ⟨rfl, rfl⟩ := trodVars_none hV
  have all : ∀ m, m ∈ DataW.weightsEach Try.prog ([23, 28, 3] ++ Rows.segWritesSpec.plain.varTypes Try.prog) ([d0, d1, d2] ++ []) → m ≤ reachBytes := fun m hm => of_decide_eq_true (List.all_eq_true.1 hsz m hm)
  have k0 := h0
  have lt0 : ∀ x ∈ p0, x.block < W.heap.size := by obtain ⟨m, hm⟩ := k0; exact DataW.trod_lt m _ _ _ hm
  have k1 := h1
  have lt1 : ∀ x ∈ p1, x.block < W.heap.size := by obtain ⟨m, hm⟩ := k1; exact DataW.trod_lt m _ _ _ hm
  obtain ⟨c0, rfl, _⟩ := okWide_struct Try.underlying23 (hval 0 23 v0 rfl rfl)
  obtain ⟨c1, rfl, _⟩ := okWide_struct Try.underlying28 (hval 1 28 v1 rfl rfl)
  obtain ⟨a2, rfl, rfl, rfl, w2⟩ := open_int Try.underlying3 (hval 2 3 v2 rfl rfl) h2
  obtain ⟨f0, g0⟩ := h0
  obtain ⟨f1, g1⟩ := h1
  obtain ⟨⟨x0, x1⟩, hK0, _⟩ := o23 H enc W 0 _ _ _ _ _ g0 (fun m hm => all m (DataW.weights_mem_each (j := 0) rfl rfl m hm))
  obtain ⟨⟨y0, y1, y2, y3, y4, y5, y6, ⟨y7, y8, y9, y10, y11, y12, y13, l⟩, s⟩, hK1, ok1⟩ := o28 H enc W 0 _ _ _ _ _ g1 (fun m hm => all m (DataW.weights_mem_each (j := 1) rfl rfl m hm))
  obtain ⟨_, _, e0, rfl, rfl⟩ := hK0
  obtain ⟨_, _, e1, rfl, _, _, rfl, rfl, _, _, rfl, rfl, _, _, rfl, rfl, _, _, rfl, rfl, _, _, rfl, rfl, _, _, rfl, rfl, _, _, rfl, ⟨_, _, rfl, rfl, _, _, rfl, rfl, _, _, rfl, rfl, _, _, rfl, rfl, _, _, rfl, rfl, _, _, rfl, rfl, _, _, rfl, rfl, A, c, rfl, hc, hC⟩, rfl⟩ := hK1
  obtain rfl : c0 = #[.int .i64 x0, .int .i64 x1] := Array.ext' e0
  obtain rfl : c1 = #[.int .i64 y0, .int .i64 y1, .int .i64 y2, .int .i64 y3, .int .i64 y4, .int .i64 y5, .int .i64 y6, .int .i64 y7, .int .i64 y8, .int .i64 y9, .int .i64 y10, .bool y11, .bool y12, .bool y13, .slice A l.length c, .string s] := Array.ext' e1
  have hr : reachBytes = 140737488355328 - 4096 := by decide
  obtain ⟨_, _, _, _, _, _, _, ⟨_, _, _, _, _, _, _, _, _, hl⟩, hs⟩ := ok1
  dsimp only at hl hs hc hC
  clear hA0 hval0 hsz0 hsz
  obtain ⟨n, hn⟩ := Pure.segWrites_is x0 x1 y0 y1 y2 y3 y4 y5 y6 y7 y8 y9 y10 y11 y12 y13 l s a2 (by omega) (by omega)
  refine (sternpostlaw08_SegWrites.calls n x0 x1 y0 y1 y2 y3 y4 y5 y6 y7 y8 y9 y10 y11 y12 y13 A c l s a2 true W hC hc (hn n (Nat.le_refl _)) rfl).mono fun e W' ⟨he, bel⟩ => ?_
  subst he
  exact ⟨_, rfl, _, _, _, [], _, [], hW', trodAll_mk1 (shut_bool Try.underlying4 _), (trodAll_cons_mk (Below.trod laidOut (by kernel_rfl) (of_decide_eq_true (by kernel_rfl)) k0 bel lt0) (trodAll_cons_mk (Below.trod laidOut (by kernel_rfl) (of_decide_eq_true (by kernel_rfl)) k1 bel lt1) (trodAll_cons_mk (shut_int Try.underlying3 w2) trodAll_mk0))), rfl, bel.frame _, fun h => by cases h⟩
theorem over : Rows.segWritesRow.holds Try.pinned (OpenSpec.ofChange Rows.segWritesSpec) :=
  OpenClaim.holds_of_wide 3 Try.f3 rfl rfl rfl rfl rfl rfl rfl ⟨rfl, rfl, rfl, rfl, rfl⟩ rfl rfl rfl rfl rfl (by kernel_rfl) Try.func3 (by kernel_rfl)
    (of_decide_eq_true (by kernel_rfl)) (by unfold Func.isWrapper; first | (rw [if_pos (by decide +kernel)]; kernel_rfl) | (rw [if_neg (by decide +kernel)]; exact ⟨rfl, rfl⟩))
    (fun os started H enc _ => lifted os started H enc)
theorem proved : Rows.SegWritesSaid := over
#print axioms proved
end Go.Proofs.Ytnhoadmgoaenpaa.segWrites
namespace Go.Proofs.Ytnhoadmgoaenpaa
theorem segWrites_holds : Rows.SegWritesSaid := segWrites.proved
end Go.Proofs.Ytnhoadmgoaenpaa
