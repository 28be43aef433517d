/- Plain laws of the sum and of numbers' bytes: what the printed functions of the packages seq, sum and the references 01 and 02 come to; no condition. -/
import Derived.Test.YtnhoadmgoaenpaaPSegWritesx
namespace Go.Proofs.Ytnhoadmgoaenpaa.Pure
open Go.RowKit Go.Proofs.Ytnhoadmgoaenpaa.PSegWrites Go.Proofs.YtnhoadmgoaenpaaW.PrintWords Go.Proofs.YtnhoadmgoaenpaaW.PrintLast Go.Proofs.YtnhoadmgoaenpaaW.PrintMore
set_option linter.unusedVariables false
set_option linter.unusedSimpArgs false

theorem w64 {n : Int} (h : -9223372036854775808 ≤ n) (h2 : n ≤ 9223372036854775807) : wrap64 n = n := by unfold wrap64; omega
def chk (a : Int) : Int := if 0 ≤ a ∧ a ≤ 4294967295 then 0 else 1
theorem and_mask (m : Nat) (M : Int) (hM : (BitVec.ofInt 64 M).toNat = 2 ^ m - 1) (hm : m ≤ 62) (n : Int) : Go.bits .and .i64 n M = n % 2 ^ m := by
  have key : (BitVec.ofInt 64 n &&& BitVec.ofInt 64 M).toNat = (n % ((2 ^ 64 : Nat) : Int)).toNat % 2 ^ m := by
    rw [BitVec.toNat_and, BitVec.toNat_ofInt, hM, Nat.and_two_pow_sub_one_eq_mod]
  show IntKind.i64.wrap ((BitVec.ofInt 64 n &&& BitVec.ofInt 64 M).toNat : Nat) = n % 2 ^ m
  rw [key, IntKind.wrap_i64]
  have h1 : ((n % ((2 ^ 64 : Nat) : Int)).toNat : Int) = n % 18446744073709551616 := by omega
  have hp : 0 < 2 ^ m := Nat.two_pow_pos m
  have hlt : (n % ((2 ^ 64 : Nat) : Int)).toNat % 2 ^ m < 2 ^ m := Nat.mod_lt _ hp
  have hle : 2 ^ m ≤ 2 ^ 62 := Nat.pow_le_pow_right (by decide) hm
  have e : (((n % ((2 ^ 64 : Nat) : Int)).toNat % 2 ^ m : Nat) : Int) = n % 2 ^ m := by
    rw [Int.natCast_emod, h1]
    have hd : ((2 ^ m : Nat) : Int) ∣ 18446744073709551616 := by
      have h64 : (18446744073709551616 : Int) = ((2 ^ 64 : Nat) : Int) := by decide
      rw [h64]
      exact Int.natCast_dvd_natCast.2 (Nat.pow_dvd_pow 2 (by omega))
    have := Int.emod_emod_of_dvd n hd
    rw [this]
    norm_cast
  rw [e]
  have b0 : 0 ≤ n % 2 ^ m := Int.emod_nonneg _ (by have : (0 : Int) < 2 ^ m := Int.pow_pos (by decide); omega)
  have b1 : n % 2 ^ m < 4611686018427387905 := by
    have := Int.emod_lt_of_pos n (show (0 : Int) < 2 ^ m from Int.pow_pos (by decide))
    have h62 : ((2 ^ m : Nat) : Int) ≤ ((2 ^ 62 : Nat) : Int) := Int.ofNat_le.2 hle
    have h3 : ((2 ^ m : Nat) : Int) = 2 ^ m := by norm_cast
    have h4 : ((2 ^ 62 : Nat) : Int) = 4611686018427387904 := by decide
    omega
  omega
theorem and32 (n : Int) : Go.bits .and .i64 n 4294967295 = n % 4294967296 := and_mask 32 _ (by decide) (by decide) n
theorem and16 (n : Int) : Go.bits .and .i64 n 65535 = n % 65536 := and_mask 16 _ (by decide) (by decide) n
theorem and2 (n : Int) : Go.bits .and .i64 n 3 = n % 4 := and_mask 2 _ (by decide) (by decide) n
theorem seq_Check_is (a : Int) : seq_Check.f a = some (chk a) := by
  unfold seq_Check.f chk
  rw [and32]
  by_cases h : 0 ≤ a ∧ a ≤ 4294967295
  · rw [if_pos (by omega), if_pos h]
  · rw [if_neg (by omega), if_neg h]
theorem ref01_Check_is (a : Int) : sternpostref01_Check.f a = some (chk a) := by
  unfold sternpostref01_Check.f chk
  by_cases h : a < 0
  · rw [if_pos h, if_neg (by omega)]
  · rw [if_neg h]
    by_cases h2 : a > 4294967295
    · rw [if_pos h2, if_neg (by omega)]
    · rw [if_neg h2, if_pos (by omega)]

/-! the end-around carry -/
def oc (n : Int) : Int := if n = 0 then 0 else (n - 1) % 65535 + 1
theorem oc_small {n : Int} (h : 0 ≤ n) (h2 : n ≤ 65535) : oc n = n := by unfold oc; split <;> omega
theorem oc_le (n : Int) : oc n ≤ 65535 := by unfold oc; split <;> omega
theorem oc_ge (n : Int) : 0 ≤ oc n := by unfold oc; split <;> omega
theorem oc_add {a b : Int} (ha : 0 ≤ a) (hb : 0 ≤ b) : oc (oc a + b) = oc (a + b) := by unfold oc; split <;> (repeat' split) <;> omega
theorem oc_step {n : Int} (h : 65535 < n) : oc (n / 65536 + n % 65536) = oc n := by unfold oc; (repeat' split) <;> omega
theorem carry_is (n : Int) (h : 0 ≤ n) (h2 : n ≤ 4611686018427387904) : Ev (fun k => sum_carry.f k n) (oc n) := by
  have key : ∀ (d : Nat) (n : Int), 0 ≤ n → n ≤ 4611686018427387904 → n.toNat ≤ d → Ev (fun k => sum_carry.l0 k n) (oc n) := by
    intro d
    induction d with
    | zero =>
      intro n h h2 hd
      obtain rfl : n = 0 := by omega
      exact Ev.step (f := fun _ => some 0) (fun k => by simp only [sum_carry.l0]; rw [if_neg (by omega)]) (Ev.now _)
    | succ d ih =>
      intro n h h2 hd
      by_cases hc : n > 65535
      · rw [← oc_step (by omega : 65535 < n)]
        refine Ev.step (fun k => ?_) (ih (n / 65536 + n % 65536) (by omega) (by omega) (by omega))
        simp only [sum_carry.l0]
        rw [if_pos hc, and16, w64 (by omega) (by omega)]
      · rw [oc_small h (by omega)]
        exact Ev.step (f := fun _ => some n) (fun k => by simp only [sum_carry.l0]; rw [if_neg hc]) (Ev.now _)
  exact key n.toNat n h h2 (Nat.le_refl _)
theorem fold_is (n : Int) (h : 0 ≤ n) (h2 : n ≤ 4611686018427387904) : Ev (fun k => sternpostref02_fold.f k n) (oc n) := by
  have key : ∀ (d : Nat) (n : Int), 0 ≤ n → n ≤ 4611686018427387904 → n.toNat ≤ d → Ev (fun k => sternpostref02_fold.l0 k n) (oc n) := by
    intro d
    induction d with
    | zero =>
      intro n h h2 hd
      obtain rfl : n = 0 := by omega
      exact Ev.step (f := fun _ => some 0) (fun k => by simp only [sternpostref02_fold.l0]; rw [if_neg (by omega)]) (Ev.now _)
    | succ d ih =>
      intro n h h2 hd
      by_cases hc : n > 65535
      · rw [← oc_step (by omega : 65535 < n)]
        refine Ev.step (fun k => ?_) (ih (n / 65536 + n % 65536) (by omega) (by omega) (by omega))
        simp only [sternpostref02_fold.l0]
        rw [if_pos hc, Int.tdiv_eq_ediv_of_nonneg h, Int.tmod_eq_emod_of_nonneg h, w64 (n := n / 65536) (by omega) (by omega), w64 (by omega) (by omega)]
      · rw [oc_small h (by omega)]
        exact Ev.step (f := fun _ => some n) (fun k => by simp only [sternpostref02_fold.l0]; rw [if_neg hc]) (Ev.now _)
  exact key n.toNat n h h2 (Nat.le_refl _)

/-! the weighted sum of bytes -/
def tw : Nat → List Int → Int
  | _, [] => 0
  | p, b :: bs => (if p % 2 = 0 then 256 * b else b) + tw (p + 1) bs
theorem tw_append (a b : List Int) : ∀ p, tw p (a ++ b) = tw p a + tw (p + a.length) b := by
  induction a with
  | nil => intro p; simp [tw]
  | cons x a ih =>
    intro p
    simp only [List.cons_append, tw, ih, List.length_cons]
    rw [show p + 1 + a.length = p + (a.length + 1) from by omega]
    omega
def isBytes (l : List Int) : Prop := ∀ b ∈ l, 0 ≤ b ∧ b ≤ 255
theorem tw_bound (l : List Int) (h : isBytes l) : ∀ p, 0 ≤ tw p l ∧ tw p l ≤ 65280 * l.length := by
  induction l with
  | nil => intro p; simp [tw]
  | cons x l ih =>
    intro p
    have h1 := ih (fun b hb => h b (List.mem_cons_of_mem _ hb)) (p + 1)
    have h2 := h x List.mem_cons_self
    simp only [tw, List.length_cons]
    split <;> omega
theorem bytes_is (s : ByteArray) : isBytes (bytesOf s) := by
  intro b hb
  unfold bytesOf at hb
  obtain ⟨u, _, rfl⟩ := List.mem_map.1 hb
  have := u.toNat_lt
  omega
theorem bt_drop (s : ByteArray) (i : Nat) (h : i < s.size) : (bytesOf s).drop i = bt s i :: (bytesOf s).drop (i + 1) := by
  have hl : i < (bytesOf s).length := by rw [bytesOf_length]; exact h
  have e : (bytesOf s)[i] = ((s[i]'h).toNat : Int) := by simp only [bytesOf, List.getElem_map]; rfl
  rw [List.drop_eq_getElem_cons hl, e]
  congr 1
  have hi : ((i : Int)).toNat = i := by omega
  unfold bt
  simp only [hi, h, dite_true]
theorem bt_byte (s : ByteArray) (i : Int) : 0 ≤ bt s i ∧ bt s i ≤ 255 := bt_range s i
theorem shl8 {x : Int} (h : 0 ≤ x) (h2 : x ≤ 255) : shl .i64 x 8 = 256 * x := by
  show IntKind.i64.wrap (x * 2 ^ 8) = 256 * x
  rw [IntKind.wrap_i64]
  omega
theorem shl0 {x : Int} (h : 0 ≤ x) (h2 : x ≤ 255) : shl .i64 x 0 = x := by
  show IntKind.i64.wrap (x * 2 ^ 0) = x
  rw [IntKind.wrap_i64]
  omega
theorem total_l1 (s : ByteArray) (hs : (s.size : Int) ≤ 1152921504606846976) (L : List ByteArray) (N j : Int) (r : Int) : ∀ (d i : Nat) (n : Int) (p : Nat), i + d = s.size → 0 ≤ n → n + 65280 * d ≤ 1152921504606846976 → p + d ≤ 1152921504606846976 →
    Ev (fun k => sum_total.l0 k (n + tw p ((bytesOf s).drop i)) ((p + d : Nat) : Int) L N (wrap64 (j + 1))) r → Ev (fun k => sum_total.l1 k n p s L N j s.size i) r := by
  intro d
  induction d with
  | zero =>
    intro i n p hi h0 h1 h2 H
    refine Ev.step (fun k => ?_) H
    have hdrop : (bytesOf s).drop i = [] := List.drop_eq_nil_of_le (by rw [bytesOf_length]; omega)
    simp only [sum_total.l1]
    rw [if_neg (by omega), hdrop]
    simp [tw]
  | succ d ih =>
    intro i n p hi h0 h1 h2 H
    have hlt : i < s.size := by omega
    have hb := bt_byte s i
    have hnext := ih (i + 1) (n + (if p % 2 = 0 then 256 * bt s i else bt s i)) (p + 1) (by omega) (by split <;> omega) (by split <;> omega) (by omega) (by
      have e : n + (if p % 2 = 0 then 256 * bt s i else bt s i) + tw (p + 1) ((bytesOf s).drop (i + 1)) = n + tw p ((bytesOf s).drop i) := by
        rw [bt_drop s i hlt]
        simp only [tw]
        omega
      rw [e, show p + 1 + d = p + (d + 1) from by omega]
      exact H)
    refine Ev.step (fun k => ?_) hnext
    simp only [sum_total.l1]
    have htm : Int.tmod (p : Int) 2 = (p : Int) % 2 := Int.tmod_eq_emod_of_nonneg (by omega)
    rw [if_pos (by omega), if_pos (by omega), if_pos (by omega), htm, w64 (n := bt s i) (by omega) (by omega), w64 (n := (p : Int) % 2 * 8) (by omega) (by omega), w64 (n := 8 - (p : Int) % 2 * 8) (by omega) (by omega), if_pos (by omega)]
    rw [w64 (n := (i : Int) + 1) (by omega) (by omega), w64 (n := (p : Int) + 1) (by omega) (by omega)]
    by_cases hp : p % 2 = 0
    · rw [if_pos hp, show (8 - (p : Int) % 2 * 8) = 8 from by omega, shl8 hb.1 hb.2, w64 (by omega) (by omega)]
      rfl
    · rw [if_neg hp, show (8 - (p : Int) % 2 * 8) = 0 from by omega, shl0 hb.1 hb.2, w64 (by omega) (by omega)]
      rfl
def flat (L : List ByteArray) : List Int := L.flatMap bytesOf
theorem flat_bytes (L : List ByteArray) : isBytes (flat L) := by
  intro b hb
  obtain ⟨s, _, hb⟩ := List.mem_flatMap.1 hb
  exact bytes_is s b hb
theorem rdOf_at (L : List ByteArray) (j : Nat) (h : j < L.length) : rdOf ByteArray.empty L j = L[j] := by
  unfold rdOf
  simp [List.getD_eq_getElem?_getD, h]
theorem total_l0 (L : List ByteArray) (hL : (L.length : Int) ≤ 4611686018427387904) : ∀ (d j : Nat) (n : Int) (p : Nat), j + d = L.length → 0 ≤ n → n + 65280 * (flat (L.drop j)).length ≤ 1152921504606846976 → p + (flat (L.drop j)).length ≤ 1152921504606846976 →
    Ev (fun k => sum_total.l0 k n p L L.length j) (oc (n + tw p (flat (L.drop j)))) := by
  intro d
  induction d with
  | zero =>
    intro j n p hj h0 h1 h2
    have hdrop : L.drop j = [] := List.drop_eq_nil_of_le (by omega)
    rw [hdrop] at h1 h2 ⊢
    simp only [flat, List.flatMap_nil, tw, Int.add_zero, List.length_nil] at h1 h2 ⊢
    refine Ev.step (fun k => ?_) (Ev.bind (carry_is n h0 (by omega)) (Ev.now _))
    simp only [sum_total.l0]
    rw [if_neg (by omega)]
  | succ d ih =>
    intro j n p hj h0 h1 h2
    have hlt : j < L.length := by omega
    have hdrop : L.drop j = L[j] :: L.drop (j + 1) := List.drop_eq_getElem_cons hlt
    have hfl : flat (L.drop j) = bytesOf L[j] ++ flat (L.drop (j + 1)) := by rw [hdrop]; simp only [flat, List.flatMap_cons]
    have hlen : (flat (L.drop j)).length = L[j].size + (flat (L.drop (j + 1))).length := by rw [hfl, List.length_append, bytesOf_length]
    have htb := tw_bound (bytesOf L[j]) (bytes_is _) p
    rw [bytesOf_length] at htb
    have e : n + tw p (flat (L.drop j)) = n + tw p (bytesOf L[j]) + tw (p + L[j].size) (flat (L.drop (j + 1))) := by
      rw [hfl, tw_append, bytesOf_length]
      omega
    have hnext := ih (j + 1) (n + tw p (bytesOf L[j])) (p + L[j].size) (by omega) (by omega) (by omega) (by omega)
    rw [← e] at hnext
    have h3 := total_l1 L[j] (by omega) L L.length j _ L[j].size 0 n p (by omega) h0 (by omega) (by omega) (by
      rw [w64 (n := (j : Int) + 1) (by omega) (by omega)]
      exact hnext)
    refine Ev.step (fun k => ?_) h3
    simp only [sum_total.l0]
    rw [if_pos (by omega), if_pos (by omega), if_pos (by omega), rdOf_at L j hlt]
    rfl
theorem total_is (L : List ByteArray) (h : (flat L).length ≤ 1073741824) (hL : L.length ≤ 1073741824) : Ev (fun k => sum_total.f k L) (oc (tw 0 (flat L))) := by
  have := total_l0 L (by omega) L.length 0 0 0 (by omega) (by omega) (by simp; omega) (by simp; omega)
  rw [List.drop_zero, Int.zero_add] at this
  exact this
theorem Of_is (L : List ByteArray) (h : (flat L).length ≤ 65536) (hL : L.length ≤ 1024) : Ev (fun k => sum_Of.f k L) (65535 - oc (tw 0 (flat L)), 0) := by
  have key : ∀ (d j : Nat) (left : Int), j + d = L.length → (flat (L.drop j)).length ≤ left → left ≤ 65536 → Ev (fun k => sum_Of.l0 k L left L L.length j) (65535 - oc (tw 0 (flat L)), 0) := by
    intro d
    induction d with
    | zero =>
      intro j left hj h1 h2
      have hoc := oc_le (tw 0 (flat L))
      have hoc0 := oc_ge (tw 0 (flat L))
      refine Ev.step (fun k => ?_) (Ev.bind (total_is L (by omega) (by omega)) (f := fun _ t => some (wrap64 (65535 - t), 0)) ?_)
      · simp only [sum_Of.l0]
        rw [if_neg (by omega)]
      · rw [w64 (by omega) (by omega)]
        exact Ev.now _
    | succ d ih =>
      intro j left hj h1 h2
      have hlt : j < L.length := by omega
      have hdrop : L.drop j = L[j] :: L.drop (j + 1) := List.drop_eq_getElem_cons hlt
      have hlen : (flat (L.drop j)).length = L[j].size + (flat (L.drop (j + 1))).length := by rw [hdrop]; simp only [flat, List.flatMap_cons, List.length_append, bytesOf_length]
      refine Ev.step (fun k => ?_) (ih (j + 1) (left - L[j].size) (by omega) (by omega) (by omega))
      simp only [sum_Of.l0]
      rw [if_pos (by omega), if_pos (by omega), if_pos (by omega), rdOf_at L j hlt, w64 (n := left - L[j].size) (by omega) (by omega), if_neg (by omega), w64 (n := (j : Int) + 1) (by omega) (by omega)]
      rfl
  have h0 := key L.length 0 65536 (by omega) (by rw [List.drop_zero]; omega) (by omega)
  refine Ev.congr (fun k => ?_) h0
  unfold sum_Of.f
  rw [if_neg (by omega)]
  rfl
theorem Sum_is (s : ByteArray) (hs : s.size ≤ 1073741824) : Ev (fun k => sternpostref02_Sum.f k s) (65535 - oc (tw 0 (bytesOf s))) := by
  have key : ∀ (d i : Nat) (n : Int), i + d = s.size → 0 ≤ n → n ≤ 65535 → Ev (fun k => sternpostref02_Sum.l0 k s n i) (65535 - oc (n + tw i ((bytesOf s).drop i))) := by
    intro d
    induction d with
    | zero =>
      intro i n hi h0 h1
      have hdrop : (bytesOf s).drop i = [] := List.drop_eq_nil_of_le (by rw [bytesOf_length]; omega)
      rw [hdrop]
      simp only [tw, Int.add_zero]
      rw [oc_small h0 h1]
      refine Ev.step (f := fun _ => some (65535 - n)) (fun k => ?_) (Ev.now _)
      simp only [sternpostref02_Sum.l0]
      rw [if_neg (by omega), w64 (by omega) (by omega)]
    | succ d ih =>
      intro i n hi h0 h1
      have hlt : i < s.size := by omega
      have hb := bt_byte s i
      have hT := tw_bound ((bytesOf s).drop (i + 1)) (fun b hb => bytes_is s b (List.mem_of_mem_drop hb)) (i + 1)
      have htm : Int.tmod (i : Int) 2 = (i : Int) % 2 := Int.tmod_eq_emod_of_nonneg (by omega)
      have hnext : ∀ m : Int, 0 ≤ m → Ev (fun k => sternpostref02_Sum.l0 k s (oc m) ((i + 1 : Nat) : Int)) (65535 - oc (m + tw (i + 1) ((bytesOf s).drop (i + 1)))) := fun m hm => by
        have := ih (i + 1) (oc m) (by omega) (oc_ge m) (oc_le m)
        rwa [oc_add hm hT.1] at this
      rw [bt_drop s i hlt]
      simp only [tw]
      by_cases hp : i % 2 = 0
      · rw [if_pos hp, show n + (256 * bt s i + tw (i + 1) ((bytesOf s).drop (i + 1))) = n + 256 * bt s i + tw (i + 1) ((bytesOf s).drop (i + 1)) from by omega]
        refine Ev.step (fun k => ?_) (Ev.bind (fold_is (n + 256 * bt s i) (by omega) (by omega)) (hnext (n + 256 * bt s i) (by omega)) (f := fun k t => sternpostref02_Sum.l0 k s t ((i + 1 : Nat) : Int)))
        simp only [sternpostref02_Sum.l0]
        rw [if_pos (by omega), htm, if_pos (by omega), if_pos (by omega), w64 (n := bt s i) (by omega) (by omega), w64 (n := 256 * bt s i) (by omega) (by omega), w64 (n := n + 256 * bt s i) (by omega) (by omega), w64 (n := (i : Int) + 1) (by omega) (by omega)]
        rfl
      · rw [if_neg hp, show n + (bt s i + tw (i + 1) ((bytesOf s).drop (i + 1))) = n + bt s i + tw (i + 1) ((bytesOf s).drop (i + 1)) from by omega]
        refine Ev.step (fun k => ?_) (Ev.bind (fold_is (n + bt s i) (by omega) (by omega)) (hnext (n + bt s i) (by omega)) (f := fun k t => sternpostref02_Sum.l0 k s t ((i + 1 : Nat) : Int)))
        simp only [sternpostref02_Sum.l0]
        rw [if_pos (by omega), htm, if_neg (by omega), if_pos (by omega), w64 (n := bt s i) (by omega) (by omega), w64 (n := n + bt s i) (by omega) (by omega), w64 (n := (i : Int) + 1) (by omega) (by omega)]
        rfl
  have := key s.size 0 0 (by omega) (by omega) (by omega)
  rw [List.drop_zero, Int.zero_add] at this
  exact this
/-! numbers' bytes -/
def be : Nat → Int → List Int
  | 0, _ => []
  | b + 1, n => (n / 2 ^ (8 * b)) % 256 :: be b n
theorem be_length (b : Nat) (n : Int) : (be b n).length = b := by induction b with
  | zero => rfl
  | succ b ih => simp only [be, List.length_cons, ih]
theorem be_bytes (b : Nat) (n : Int) : isBytes (be b n) := by
  induction b with
  | zero => intro x hx; cases hx
  | succ b ih =>
    intro x hx
    rcases List.mem_cons.1 hx with rfl | hx
    · omega
    · exact ih x hx
theorem shr8 (n : Int) (i : Nat) (h : i ≤ 7) : shr .i64 n (wrap64 (8 * (i : Int))) = n / 2 ^ (8 * i) := by
  rw [w64 (by omega) (by omega)]
  unfold shr
  rw [show (8 * (i : Int)).toNat = 8 * i from by omega, show min (8 * i) IntKind.i64.bits = 8 * i from Nat.min_eq_left (by show 8 * i ≤ 64; omega)]
theorem Text_l0 (n : Int) : ∀ (b : Nat) (x : List Int), b ≤ 8 → x.length + b ≤ 1000000 → Ev (fun k => sternpostref02_Text.l0 k n x ((b : Int) - 1)) (strOfNums (x ++ be b n)) := by
  intro b
  induction b with
  | zero =>
    intro x hb hx
    refine Ev.step (f := fun _ => some (strOfNums (x ++ be 0 n))) (fun k => ?_) (Ev.now _)
    simp only [sternpostref02_Text.l0]
    rw [if_neg (by omega)]
    simp [be]
  | succ b ih =>
    intro x hb hx
    have h0 := ih (x ++ [(n / 2 ^ (8 * b)) % 256]) (by omega) (by simp only [List.length_append, List.length_singleton]; omega)
    simp only [be]
    rw [List.append_assoc, List.singleton_append] at h0
    refine Ev.step (fun k => ?_) h0
    simp only [sternpostref02_Text.l0]
    rw [show (((b + 1 : Nat) : Int) - 1) = (b : Int) from by omega, if_pos (show (b : Int) ≥ 0 by omega), if_pos (show 0 ≤ wrap64 (8 * (b : Int)) by rw [w64 (by omega) (by omega)]; omega), if_pos (show x.length < 140737488355328 by omega), shr8 n b (by omega), w64 (n := (b : Int) - 1) (by omega) (by omega)]
theorem Text_is (n : Int) (b : Nat) (hb : b ≤ 8) : Ev (fun k => sternpostref02_Text.f k n b) (strOfNums (be b n)) := by
  have h := Text_l0 n b [] hb (by simp only [List.length_nil]; omega)
  refine Ev.congr (fun k => ?_) h
  unfold sternpostref02_Text.f
  rw [w64 (by omega) (by omega)]
theorem put_loop (n : Int) (b : Nat) (hb : b ≤ 6) : ∀ (d i : Nat) (x : List Int), i + d = b → x.length = b → (∀ j, j < i → x[j]? = (be b n)[j]?) →
    Ev (fun k => sum_Put.l0 k n b x b i) (strOfNums (be b n), 0) := by
  have bat : ∀ (b i : Nat), i < b → (be b n)[i]? = some ((n / 2 ^ (8 * (b - 1 - i))) % 256) := by
    intro b
    induction b with
    | zero => intro i hi; omega
    | succ b ih =>
      intro i hi
      cases i with
      | zero => simp [be]
      | succ i =>
        simp only [be, List.getElem?_cons_succ]
        rw [ih i (by omega), show b + 1 - 1 - (i + 1) = b - 1 - i from by omega]
  intro d
  induction d with
  | zero =>
    intro i x hi hx hj
    obtain rfl : x = be b n := by
      apply List.ext_getElem?
      intro j
      rcases Nat.lt_or_ge j b with h | h
      · exact hj j (by omega)
      · rw [List.getElem?_eq_none (by omega), List.getElem?_eq_none (by rw [be_length]; omega)]
    refine Ev.step (f := fun _ => some (strOfNums (be b n), 0)) (fun k => ?_) (Ev.now _)
    simp only [sum_Put.l0]
    rw [if_neg (by omega)]
  | succ d ih =>
    intro i x hi hx hj
    have h0 := ih (i + 1) (x.set i ((n / 2 ^ (8 * (b - 1 - i))) % 256)) (by omega) (by rw [List.length_set]; exact hx) (by
      intro j hlt
      rcases Nat.lt_or_ge j i with h | h
      · rw [List.getElem?_set_ne (by omega)]
        exact hj j h
      · obtain rfl : j = i := by omega
        rw [List.getElem?_set_self (by omega), bat b j (by omega)])
    refine Ev.step (fun k => ?_) h0
    simp only [sum_Put.l0]
    have e1 : wrap64 (wrap64 ((b : Int) - 1) - i) = ((b - 1 - i : Nat) : Int) := by
      rw [w64 (n := (b : Int) - 1) (by omega) (by omega), w64 (by omega) (by omega)]
      omega
    rw [e1, if_pos (by omega), if_pos (by rw [w64 (by omega) (by omega)]; omega), if_pos (by omega), if_pos (by omega), shr8 n _ (by omega), w64 (n := (i : Int) + 1) (by omega) (by omega)]
    rfl
theorem Put_is (n : Int) (b : Nat) (h1 : 1 ≤ b) (hb : b ≤ 6) (h0 : 0 ≤ n) (hn : n < 2 ^ (8 * b)) : Ev (fun k => sum_Put.f k n b) (strOfNums (be b n), 0) := by
  have hd : n / 2 ^ (8 * b) = 0 := Int.ediv_eq_zero_of_lt h0 hn
  have h := put_loop n b hb b 0 (List.replicate b 0) (by omega) (by simp) (fun j hj => by omega)
  have h2 : Ev (fun k => sum_Put.j0 k n b false) (strOfNums (be b n), 0) := by
    refine Ev.step (fun k => ?_) h
    simp only [sum_Put.j0]
    rw [if_neg (by simp), if_pos (by omega), if_pos (by omega)]
    simp only [Option.bind_some, Int.toNat_natCast, List.length_replicate]
    rfl
  refine Ev.congr (fun k => ?_) h2
  unfold sum_Put.f
  rw [if_neg (by omega), if_neg (by omega), if_neg (by omega), if_pos (by rw [w64 (by omega) (by omega)]; omega), shr8 n b (by omega), hd]
  rfl
end Go.Proofs.Ytnhoadmgoaenpaa.Pure
