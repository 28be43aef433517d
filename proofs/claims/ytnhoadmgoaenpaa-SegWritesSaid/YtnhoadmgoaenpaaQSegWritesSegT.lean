/- Plain laws of segments: lengths, flags, and the whole law; no condition. -/
import Derived.Test.YtnhoadmgoaenpaaQSegWritesSegE
namespace Go.Proofs.Ytnhoadmgoaenpaa.Pure
open Go.RowKit Go.Proofs.Ytnhoadmgoaenpaa.PSegWrites Go.Proofs.YtnhoadmgoaenpaaW.PrintWords Go.Proofs.YtnhoadmgoaenpaaW.PrintLast Go.Proofs.YtnhoadmgoaenpaaW.PrintMore
set_option linter.unusedVariables false
set_option linter.unusedSimpArgs false

theorem and_bit (i : Nat) (M : Int) (hM : (BitVec.ofInt 64 M).toNat = 2 ^ i) (hw : IntKind.i64.wrap ((2 ^ i : Nat) : Int) = M) (n : Int) : Go.bits .and .i64 n M = 0 ∨ Go.bits .and .i64 n M = M := by
  have key : (BitVec.ofInt 64 n &&& BitVec.ofInt 64 M).toNat = ((BitVec.ofInt 64 n).toNat.testBit i).toNat * 2 ^ i := by
    rw [BitVec.toNat_and, hM]
    apply Nat.eq_of_testBit_eq
    intro j
    rw [Nat.testBit_and, Nat.testBit_two_pow]
    by_cases h : i = j
    · subst h
      cases (BitVec.ofInt 64 n).toNat.testBit i <;> simp
    · cases (BitVec.ofInt 64 n).toNat.testBit i <;> simp [h]
  change IntKind.i64.wrap ((BitVec.ofInt 64 n &&& BitVec.ofInt 64 M).toNat : Nat) = 0 ∨ IntKind.i64.wrap ((BitVec.ofInt 64 n &&& BitVec.ofInt 64 M).toNat : Nat) = M
  rw [key]
  cases (BitVec.ofInt 64 n).toNat.testBit i
  · exact .inl (by simp; decide)
  · exact .inr (by rw [Bool.toNat_true, Nat.one_mul]; exact hw)
theorem and1 (n : Int) : Go.bits .and .i64 n 1 = 0 ∨ Go.bits .and .i64 n 1 = 1 := and_bit 0 1 (by decide) (by decide) n
theorem andb2 (n : Int) : Go.bits .and .i64 n 2 = 0 ∨ Go.bits .and .i64 n 2 = 2 := and_bit 1 2 (by decide) (by decide) n
section
variable (fr dst sq ak fl wi ur mss scale stamp echo : Int) (scaled ok st : Bool) (l : List S68) (d : ByteArray)
theorem length_is (hd : (d.size : Int) ≤ 1152921504606846976) : ∃ n : Int, seg_Length.f fr dst sq ak fl wi ur mss scale stamp echo scaled ok st l d = some n ∧ sternpostref08_Length.f fr dst sq ak fl wi ur mss scale stamp echo scaled ok st l d = some n := by
  simp only [seg_Length.f, sternpostref08_Length.f, sternpostref08_Has.f, Option.bind_some]
  rcases and1 fl with h1 | h1 <;> rcases andb2 fl with h2 | h2 <;> simp only [h1, h2] <;> refine ⟨_, rfl, ?_⟩
  · rw [if_neg (by decide), if_neg (by decide), show wrap64 (Int.tdiv 0 2) = 0 from by kernel_rfl, w64 (n := (d.size : Int) + 0) (by omega) (by omega), w64 (by omega) (by omega)]
    simp
  · rw [if_pos (by decide), if_neg (by decide), show wrap64 (Int.tdiv 2 2) = 1 from by kernel_rfl, w64 (n := (d.size : Int) + 1) (by omega) (by omega), w64 (by omega) (by omega)]
    simp
  · rw [if_neg (by decide), if_pos (by decide), show wrap64 (Int.tdiv 0 2) = 0 from by kernel_rfl, w64 (n := (d.size : Int) + 0) (by omega) (by omega)]
    simp
  · rw [if_pos (by decide), if_pos (by decide), show wrap64 (Int.tdiv 2 2) = 1 from by kernel_rfl]
end
theorem works_is : Ev (fun k => sternpostlaw08_works.f k) true := by
  refine ⟨40, fun k hk => ?_⟩
  obtain ⟨j, rfl⟩ : ∃ j, k = j + 40 := ⟨k - 40, by omega⟩
  kernel_rfl
theorem segWrites_is (a b : Int) (fr dst sq ak fl wi ur mss scale stamp echo : Int) (scaled ok st : Bool) (l : List S68) (d : ByteArray) (m : Int) (hl : l.length ≤ 1152921504606846976) (hd : (d.size : Int) ≤ 1152921504606846976) :
    Ev (fun k => sternpostlaw08_SegWrites.f k a b fr dst sq ak fl wi ur mss scale stamp echo scaled ok st l d m) true := by
  simp only [sternpostlaw08_SegWrites.f]
  refine Ev.bind (segEnc_is hl hd) (Ev.bind refEnc_is (evp rfl (evp rfl ?_)))
  refine Ev.bind (segCheck_is _ _ _ _ _ _ _ _ _ _ _ _ _ _ _ _ hl hd) (Ev.bind (refCheck_is _ _ _ _ _ _ _ _ _ _ _ _ _ _ _ _) (evp rfl ?_))
  obtain ⟨n, h1, h2⟩ := length_is fr dst sq ak fl wi ur mss scale stamp echo scaled ok st l d hd
  refine evc h1 (evc h2 (evp rfl ?_))
  simp only [seg_Has.f, sternpostref08_Has.f, Option.bind_some]
  refine evp (by simp) ?_
  exact Ev.bind works_is (Ev.now _)
end Go.Proofs.Ytnhoadmgoaenpaa.Pure
