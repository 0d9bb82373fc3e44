/-
  What the functions of octet, and of its reference, come to as plain functions of numbers and lists: putting, and taking a number.
-/
import Derived.Test.YtccjdefhieilpaaPBx3
import Derived.Test.YtccjdefhieilpaaPBx5
import Derived.Test.YtccjdefhieilpaaPBx6
import Derived.Test.YtccjdefhieilpaaSumPure
import Derived.Test.YtccjdefhieilpaaOct
import Derived.Laws.DeepNot64
import Derived.OpenShut
namespace Go.Proofs.Ytccjdefhieilpaa.Pure
open Go.RowKit Go.Proofs.Ytccjdefhieilpaa.PB Go.Proofs.YtccjdefhieilpaaW.PrintWords Go.Proofs.YtccjdefhieilpaaW.PrintLast Go.Proofs.YtccjdefhieilpaaW.PrintMore

theorem heads03_t : horariumlaw03_heads.f 100 = some true := by decide +kernel
theorem heads03_eq (k : Nat) (hk : 100 ≤ k) : horariumlaw03_heads.f k = some true := at_rounds horariumlaw03_heads.mono hk heads03_t

/-! ### Put -/
theorem or128 : ∀ x, x < 256 → x ||| 128 = x % 128 + 128 := by decide +kernel
theorem put_l0 (f : Nat) : ∀ (j n : Nat) (acc : List Int) (k : Nat), f + j = 9 → n < Spec.lim j → acc.length + f ≤ 1000 → f + 1 ≤ k →
    octet_Put.l0 k (n : Int) acc = some (acc ++ Spec.putF f n) ∧ horariumref03_Put.l0 k (n : Int) acc = some (acc ++ Spec.putF f n) := by
  induction f with
  | zero =>
    intro j n acc k hj hn ha hk
    obtain ⟨k, rfl⟩ : ∃ m, k = m + 1 := ⟨k - 1, by omega⟩
    obtain rfl : j = 9 := by omega
    rw [Spec.lim9] at hn
    have e : (n : Int) % 256 = (n : Int) := by omega
    rw [octet_Put.l0, if_neg (by omega), if_pos (by omega), horariumref03_Put.l0, if_neg (by omega), if_pos (by omega), e]
    exact ⟨rfl, rfl⟩
  | succ f ih =>
    intro j n acc k hj hn ha hk
    obtain ⟨k, rfl⟩ : ∃ m, k = m + 1 := ⟨k - 1, by omega⟩
    rw [octet_Put.l0, horariumref03_Put.l0, Spec.putF]
    by_cases h : n < 128
    · have e : (n : Int) % 256 = (n : Int) := by omega
      rw [if_neg (show ¬ ((n : Int) ≥ 128) from by omega), if_neg (show ¬ ((n : Int) ≥ 128) from by omega), if_pos (show acc.length < 140737488355328 from by omega), if_pos h, e]
      exact ⟨rfl, rfl⟩
    · have hl : n < 18446744073709551616 := by
        have h1 : Spec.lim j ≤ 18446744073709551616 := by
          rw [← Spec.lim0]
          unfold Spec.lim
          exact Nat.pow_le_pow_right (by decide) (by omega)
        omega
      have e1 : bits .or .u8 ((n : Int) % 256) 128 = ((n % 128 + 128 : Nat) : Int) := by
        rw [show (n : Int) % 256 = ((n % 256 : Nat) : Int) from by omega]
        have := u8_or_nat (n % 256) 128 (by omega) (by decide)
        rw [or128 _ (by omega)] at this
        rw [show n % 128 = n % 256 % 128 from by omega]
        exact this
      have e2 : IntKind.u64.wrap (Int.tdiv (n : Int) 128) = ((n / 128 : Nat) : Int) := by
        rw [Int.tdiv_eq_ediv_of_nonneg (by omega), IntKind.wrap_u64]; omega
      have e3 : IntKind.u64.wrap (Int.tmod (n : Int) 128 + 128) % 256 = ((n % 128 + 128 : Nat) : Int) := by
        rw [Int.tmod_eq_emod_of_nonneg (by omega), IntKind.wrap_u64]; omega
      have e4 : (n : Int) / 128 = ((n / 128 : Nat) : Int) := by omega
      rw [if_pos (show (n : Int) ≥ 128 from by omega), if_pos (show (n : Int) ≥ 128 from by omega), if_pos (show acc.length < 140737488355328 from by omega), if_pos (show acc.length < 140737488355328 from by omega), if_neg h, e1, e2, e3, e4]
      obtain ⟨i1, i2⟩ := ih (j + 1) (n / 128) (acc ++ [((n % 128 + 128 : Nat) : Int)]) k (by omega) (by rw [Spec.lim_step j (by omega)] at hn; omega) (by simp only [List.length_append, List.length_cons, List.length_nil]; omega) (by omega)
      rw [i1, i2, List.append_assoc]
      exact ⟨rfl, rfl⟩

theorem put_eq (k n : Nat) (h : n < 18446744073709551616) (hk : 10 ≤ k) : octet_Put.f k (n : Int) = some (Spec.putN n) :=
  (put_l0 9 0 n [] k rfl (by rw [Spec.lim0]; exact h) (by simp) (by omega)).1
theorem rput_eq (k n : Nat) (h : n < 18446744073709551616) (hk : 10 ≤ k) : horariumref03_Put.f k (n : Int) = some (Spec.putN n) :=
  (put_l0 9 0 n [] k rfl (by rw [Spec.lim0]; exact h) (by simp) (by omega)).2

/-! ### PutInt -/
theorem not_nat (x : Nat) (h : x < 18446744073709551616) : x ^^^ 18446744073709551615 = 18446744073709551615 - x := by
  have h1 : (BitVec.ofNat 64 x ^^^ BitVec.allOnes 64).toNat = x ^^^ 18446744073709551615 := by
    rw [BitVec.toNat_xor, BitVec.toNat_ofNat, Nat.mod_eq_of_lt h, BitVec.toNat_allOnes]
  rw [← h1, BitVec.xor_allOnes, BitVec.toNat_not, BitVec.toNat_ofNat, Nat.mod_eq_of_lt h]
theorem fold_prog (x : Int) (h0 : -9223372036854775808 ≤ x) (h1 : x ≤ 9223372036854775807) :
    bits .xor .u64 (IntKind.u64.wrap (IntKind.u64.wrap x * 2)) (IntKind.u64.wrap (x / 9223372036854775808)) = (Spec.foldZ x : Int) := by
  unfold Spec.foldZ
  rw [IntKind.wrap_u64, IntKind.wrap_u64, IntKind.wrap_u64]
  split
  · rename_i h
    have e1 : x % 18446744073709551616 * 2 % 18446744073709551616 = ((2 * x.toNat : Nat) : Int) := by omega
    have e2 : x / 9223372036854775808 % 18446744073709551616 = ((0 : Nat) : Int) := by omega
    rw [e1, e2, u64_xor_nat _ _ (by omega) (by decide), Nat.xor_zero]
  · rename_i h
    have e1 : x % 18446744073709551616 * 2 % 18446744073709551616 = ((18446744073709551616 - 2 * (-x).toNat : Nat) : Int) := by omega
    have e2 : x / 9223372036854775808 % 18446744073709551616 = ((18446744073709551615 : Nat) : Int) := by omega
    rw [e1, e2, u64_xor_nat _ _ (by omega) (by decide), not_nat _ (by omega)]
    omega
theorem fold_ref (x : Int) (h0 : -9223372036854775808 ≤ x) (h1 : x ≤ 9223372036854775807) : horariumref03_Fold.f x = some (Spec.foldZ x : Int) := by
  unfold horariumref03_Fold.f Spec.foldZ
  split
  · rename_i h
    rw [IntKind.wrap_u64, IntKind.wrap_u64]
    congr 1
    omega
  · rename_i h
    rw [IntKind.wrap_u64, IntKind.wrap_u64, IntKind.wrap_u64]
    congr 1
    unfold wrap64
    omega
theorem putInt_eq (k : Nat) (x : Int) (h0 : -9223372036854775808 ≤ x) (h1 : x ≤ 9223372036854775807) (hk : 10 ≤ k) : octet_PutInt.f k x = some (Spec.putN (Spec.foldZ x)) := by
  unfold octet_PutInt.f
  rw [fold_prog x h0 h1, put_eq k _ (Spec.foldZ_lt x h0 h1) hk]
  rfl
theorem rputInt_eq (k : Nat) (x : Int) (h0 : -9223372036854775808 ≤ x) (h1 : x ≤ 9223372036854775807) (hk : 10 ≤ k) : horariumref03_PutInt.f k x = some (Spec.putN (Spec.foldZ x)) := by
  unfold horariumref03_PutInt.f
  rw [fold_ref x h0 h1, Option.bind_some, rput_eq k _ (Spec.foldZ_lt x h0 h1) hk]
  rfl

/-! ### PutText, PutList -/
theorem putText_eq (k : Nat) (s : ByteArray) (hs : s.size ≤ 1000000) (hk : 10 ≤ k) : octet_PutText.f k s = some (Spec.putN s.size ++ bytesOf s) ∧ horariumref03_PutText.f k s = some (Spec.putN s.size ++ bytesOf s) := by
  have hw : IntKind.u64.wrap (s.size : Int) = (s.size : Int) := by rw [IntKind.wrap_u64]; omega
  have hl := Spec.putN_length s.size
  unfold octet_PutText.f horariumref03_PutText.f
  rw [hw, put_eq k _ (by omega) hk, rput_eq k _ (by omega) hk, Option.bind_some, if_pos (by omega)]
  exact ⟨rfl, rfl⟩
def Ints64 (l : List Int) : Prop := ∀ x ∈ l, -9223372036854775808 ≤ x ∧ x ≤ 9223372036854775807
theorem ints_of_wf {l : List Int} (h : ∀ x ∈ l, (Lit.int .i64 x).wf = true) : Ints64 l := fun x hx => by
  have := bounds_i64 (h x hx)
  omega
theorem Ints64.at {l : List Int} (h : Ints64 l) (i : Nat) : -9223372036854775808 ≤ rd l (i : Int) ∧ rd l (i : Int) ≤ 9223372036854775807 := by
  unfold rd
  rw [Int.toNat_natCast, List.getD_eq_getElem?_getD]
  rcases Nat.lt_or_ge i l.length with hi | hi
  · rw [List.getElem?_eq_getElem hi]
    exact h _ (List.getElem_mem hi)
  · rw [List.getElem?_eq_none hi]
    simp
def putInts (l : List Int) : List Int := l.flatMap fun x => Spec.putN (Spec.foldZ x)
theorem putInts_length : ∀ (l : List Int), (putInts l).length ≤ 10 * l.length
  | [] => by simp [putInts]
  | x :: l => by
    have h1 := putInts_length l
    have h2 := Spec.putN_length (Spec.foldZ x)
    unfold putInts at h1 ⊢
    rw [List.flatMap_cons, List.length_append, List.length_cons]
    omega
theorem putList_l0 (l : List Int) (hl : Ints64 l) (hn : l.length ≤ 1000000) (d : Nat) : ∀ (i : Nat) (acc : List Int) (k : Nat), i + d = l.length → acc.length + 10 * d ≤ 20000000 → d + 11 ≤ k →
    octet_PutList.l0 k acc l (l.length : Int) (i : Int) = some (acc ++ putInts (l.drop i)) ∧ horariumref03_PutList.l0 k l acc (i : Int) = some (acc ++ putInts (l.drop i)) := by
  induction d with
  | zero =>
    intro i acc k hi ha hk
    obtain ⟨k, rfl⟩ : ∃ m, k = m + 1 := ⟨k - 1, by omega⟩
    rw [octet_PutList.l0, if_neg (by omega), horariumref03_PutList.l0, if_neg (by omega), List.drop_eq_nil_of_le (by omega)]
    unfold putInts
    rw [List.flatMap_nil, List.append_nil]
    exact ⟨rfl, rfl⟩
  | succ d ih =>
    intro i acc k hi ha hk
    obtain ⟨k, rfl⟩ : ∃ m, k = m + 1 := ⟨k - 1, by omega⟩
    obtain ⟨b0, b1⟩ := hl.at i
    have hpl := Spec.putN_length (Spec.foldZ (rd l (i : Int)))
    have hf := wrap_succ (i := i) (n := l.length) (by omega) (by omega)
    obtain ⟨i1, i2⟩ := ih (i + 1) (acc ++ Spec.putN (Spec.foldZ (rd l (i : Int)))) k (by omega) (by rw [List.length_append]; omega) (by omega)
    rw [octet_PutList.l0, if_pos (by omega), if_pos (by omega), if_pos (by omega), putInt_eq k _ b0 b1 (by omega), Option.bind_some, if_pos (by omega), hf, i1,
      horariumref03_PutList.l0, if_pos (by omega), if_pos (by omega), rputInt_eq k _ b0 b1 (by omega), Option.bind_some, if_pos (by omega), hf, i2, drop_cons (l := l) (i := i) (by omega)]
    unfold putInts
    rw [List.flatMap_cons, List.append_assoc]
    exact ⟨rfl, rfl⟩
theorem putList_eq (k : Nat) (l : List Int) (hl : Ints64 l) (hn : l.length ≤ 1000000) (hk : l.length + 11 ≤ k) :
    octet_PutList.f k l = some (Spec.putN l.length ++ putInts l) ∧ horariumref03_PutList.f k l = some (Spec.putN l.length ++ putInts l) := by
  have hw : IntKind.u64.wrap (l.length : Int) = (l.length : Int) := by rw [IntKind.wrap_u64]; omega
  have hp := Spec.putN_length l.length
  obtain ⟨h1, h2⟩ := putList_l0 l hl hn l.length 0 (Spec.putN l.length) k (by omega) (by omega) hk
  unfold octet_PutList.f horariumref03_PutList.f
  rw [hw, put_eq k _ (by omega) (by omega), rput_eq k _ (by omega) (by omega)]
  exact ⟨h1, h2⟩
theorem short_eq (b : List Int) (s : ByteArray) (l : List Int) : horariumlaw03_short.f b s l = some (decide (b.length ≤ 2000 ∧ s.size ≤ 1000 ∧ l.length ≤ 300)) := by
  unfold horariumlaw03_short.f
  split
  · split
    · congr 1
      rw [decide_eq_decide]
      omega
    · rw [decide_eq_false (by omega)]
  · rw [decide_eq_false (by omega)]

end Go.Proofs.Ytccjdefhieilpaa.Pure
