/-
  What taking an int, a text and a list comes to, in octet and in its reference.
-/
import Derived.Test.YtccjdefhieilpaaTakePure
import Derived.Test.YtccjdefhieilpaaSealPure
namespace Go.Proofs.Ytccjdefhieilpaa.Spec
/-- TakeInt. -/
def takeInt (b : List Int) (a : Int) : Int × Int × Int := (zz (take b a).1.toNat, (take b a).2)
/-- A list's ints, m of them, from place a on; each takes a byte at the least. -/
def takeInts (b : List Int) : Nat → Nat → Int → List Int → List Int × Int × Int
  | 0, _, a, l => (l, a, 0)
  | f + 1, m, a, l => if m = 0 then (l, a, 0) else
    if (takeInt b a).2.2 = 0 then takeInts b f (m - 1) (takeInt b a).2.1 (l ++ [(takeInt b a).1]) else ([], 0, (takeInt b a).2.2)
def takeList (b : List Int) (a most : Int) : List Int × Int × Int :=
  if (take b a).2.2 = 0 then (if most < 0 ∨ (take b a).1 > most then ([], 0, 5) else takeInts b (b.length + 1) (take b a).1.toNat (take b a).2.1 []) else ([], 0, (take b a).2.2)
def takeText (b : List Int) (a most : Int) : ByteArray × Int × Int :=
  if (take b a).2.2 = 0 then
    (if most < 0 ∨ (take b a).1 > most then (⟨#[]⟩, 0, 5) else if (take b a).1 > b.length - (take b a).2.1 then (⟨#[]⟩, 0, 4)
      else (strOfNums ((b.take ((take b a).2.1 + (take b a).1).toNat).drop (take b a).2.1.toNat), (take b a).2.1 + (take b a).1, 0))
  else (⟨#[]⟩, 0, (take b a).2.2)
end Go.Proofs.Ytccjdefhieilpaa.Spec
namespace Go.Proofs.Ytccjdefhieilpaa.Pure
open Go.RowKit Go.Proofs.Ytccjdefhieilpaa.PB Go.Proofs.YtccjdefhieilpaaW.PrintWords Go.Proofs.YtccjdefhieilpaaW.PrintLast Go.Proofs.YtccjdefhieilpaaW.PrintMore

/-! ### TakeInt -/
theorem unzz_prog (n : Nat) (h : n < 18446744073709551616) : bits .xor .i64 (wrap64 ((n : Int) / 2)) (wrap64 (-(wrap64 (bits .and .u64 (n : Int) 1)))) = Spec.zz n := by
  have e1 : bits .and .u64 (n : Int) 1 = ((n % 2 : Nat) : Int) := by
    have := u64_and_nat n 1 h (by decide)
    rw [nat_mask1] at this
    exact this
  have e2 : wrap64 ((n : Int) / 2) = ((n / 2 : Nat) : Int) := by unfold wrap64; omega
  rw [e1, e2]
  unfold Spec.zz
  rcases Nat.mod_two_eq_zero_or_one n with h0 | h0
  · rw [h0, if_pos rfl, show wrap64 (-(wrap64 ((0 : Nat) : Int))) = 0 from by decide +kernel]
    have hc : bits .xor .i64 ((n / 2 : Nat) : Int) 0 = IntKind.i64.wrap (((BitVec.ofInt 64 ((n / 2 : Nat) : Int) ^^^ BitVec.ofInt 64 0).toNat : Nat) : Int) := rfl
    rw [hc, show BitVec.ofInt 64 0 = 0#64 from by decide, BitVec.xor_zero, BitVec.ofInt_natCast, BitVec.toNat_ofNat, Nat.mod_eq_of_lt (by omega), IntKind.wrap_i64]
    omega
  · rw [h0, if_neg (by decide), show wrap64 (-(wrap64 ((1 : Nat) : Int))) = -1 from by decide +kernel]
    have hc : bits .xor .i64 ((n / 2 : Nat) : Int) (-1) = bits .xor .i64 (-1) ((n / 2 : Nat) : Int) := by
      show IntKind.i64.wrap _ = IntKind.i64.wrap _
      rw [BitVec.xor_comm]
    rw [hc]
    exact i64_not (n / 2) (by omega)
theorem unzz_ref (n : Nat) (h : n < 18446744073709551616) : horariumref03_unfold.f (n : Int) = some (Spec.zz n) := by
  have e1 : Int.tmod (n : Int) 2 = ((n % 2 : Nat) : Int) := by rw [Int.tmod_eq_emod_of_nonneg (by omega)]; omega
  have e2 : wrap64 (IntKind.u64.wrap (Int.tdiv (n : Int) 2)) = ((n / 2 : Nat) : Int) := by
    rw [Int.tdiv_eq_ediv_of_nonneg (by omega), IntKind.wrap_u64]
    unfold wrap64
    omega
  unfold horariumref03_unfold.f Spec.zz
  rw [e1, e2]
  rcases Nat.mod_two_eq_zero_or_one n with h0 | h0
  · rw [h0, if_pos (show ((0 : Nat) : Int) = 0 from rfl), if_pos rfl]
  · rw [h0, if_neg (by decide), if_neg (by decide)]
    congr 1
    unfold wrap64
    omega
theorem take_nat (b : List Int) (a : Int) (hb : Bytes b) : ∃ n : Nat, (Spec.take b a).1 = (n : Int) ∧ n < 18446744073709551616 := by
  rcases Spec.take_cases b a hb with ⟨e, _, h⟩ | ⟨p, n, _, hn, _, h, _⟩
  · exact ⟨0, by rw [h]; rfl, by decide⟩
  · exact ⟨n, by rw [h], hn⟩
theorem takeInt_eq (k : Nat) (b : List Int) (a : Int) (hb : Bytes b) : octet_TakeInt.f k b a = some (Spec.takeInt b a) := by
  obtain ⟨n, hn, hl⟩ := take_nat b a hb
  unfold octet_TakeInt.f Spec.takeInt
  rw [take_eq k b a hb, Option.bind_some, hn, unzz_prog n hl, Int.toNat_natCast]
theorem rtakeInt_eq (k : Nat) (b : List Int) (a : Int) (hb : Bytes b) (hl : b.length ≤ 140737488351232) (hk : 40 ≤ k) : horariumref03_TakeInt.f k b a = some (Spec.takeInt b a) := by
  obtain ⟨n, hn, hl'⟩ := take_nat b a hb
  unfold horariumref03_TakeInt.f Spec.takeInt
  rw [rtake_eq k b a hb hl hk, Option.bind_some, hn, unzz_ref n hl', Option.bind_some, Int.toNat_natCast]
theorem takeInt_moves (b : List Int) (a : Int) (hb : Bytes b) (h : (Spec.takeInt b a).2.2 = 0) : ∃ p q : Nat, a = (p : Int) ∧ (Spec.takeInt b a).2.1 = (q : Int) ∧ p < q ∧ q ≤ b.length := by
  rcases Spec.take_cases b a hb with ⟨e, he, ht⟩ | ⟨p, n, hp, hn, hlen, ht, _⟩
  · have : (Spec.takeInt b a).2.2 = e := by unfold Spec.takeInt; rw [ht]
    exact absurd (this.symm.trans h) he
  · refine ⟨p, p + (Spec.putN n).length, hp, by unfold Spec.takeInt; rw [ht], ?_, hlen⟩
    have := Spec.putN_length n
    omega

/-! ### TakeList -/
theorem takeInts_eq (b : List Int) (hb : Bytes b) (hn : b.length ≤ 1000000) (f : Nat) : ∀ (m p k : Nat) (l : List Int) (tot : Nat), p ≤ b.length → b.length + 1 ≤ f + p → l.length ≤ p → tot = l.length + m → tot < 18446744073709551616 → f + 50 ≤ k →
    octet_TakeList.l0 k b (m : Int) (p : Int) l = some (Spec.takeInts b f m (p : Int) l) ∧ horariumref03_TakeList.l0 k b (tot : Int) (p : Int) l = some (Spec.takeInts b f m (p : Int) l) := by
  induction f with
  | zero =>
    intro m p k l tot hp hf hl htot hbig hk
    exact absurd hf (by omega)
  | succ f ih =>
    intro m p k l tot hp hf hl htot hbig hk
    obtain ⟨k, rfl⟩ : ∃ j, k = j + 1 := ⟨k - 1, by omega⟩
    have hw : IntKind.u64.wrap (l.length : Int) = (l.length : Int) := by rw [IntKind.wrap_u64]; omega
    rw [octet_TakeList.l0, horariumref03_TakeList.l0, hw, Spec.takeInts]
    by_cases hm : m = 0
    · rw [if_neg (show ¬ ((m : Int) > 0) from by omega), if_neg (show ¬ ((l.length : Int) < (tot : Int)) from by omega), if_pos hm]
      exact ⟨rfl, rfl⟩
    · rw [if_pos (show (m : Int) > 0 from by omega), if_pos (show (l.length : Int) < (tot : Int) from by omega), if_neg hm, takeInt_eq k b p hb, rtakeInt_eq k b p hb (by omega) (by omega), Option.bind_some]
      by_cases he : (Spec.takeInt b p).2.2 = 0
      · obtain ⟨p', q, hp', hq, hpq, hql⟩ := takeInt_moves b p hb he
        have hpp : p' = p := by omega
        subst hpp
        have hw2 : IntKind.u64.wrap ((m : Int) - 1) = ((m - 1 : Nat) : Int) := by rw [IntKind.wrap_u64]; omega
        obtain ⟨i1, i2⟩ := ih (m - 1) q k (l ++ [(Spec.takeInt b p').1]) tot hql (by omega) (by simp only [List.length_append, List.length_cons, List.length_nil]; omega) (by simp only [List.length_append, List.length_cons, List.length_nil]; omega) hbig (by omega)
        rw [if_pos he, if_pos (show l.length < 17592186044416 from by omega), if_pos he, hw2, hq, i1]
        refine ⟨rfl, ?_⟩
        rw [Option.bind_some, if_pos he, if_pos (show l.length < 17592186044416 from by omega), hq, i2]
      · rw [if_neg he, if_neg he]
        refine ⟨rfl, ?_⟩
        rw [Option.bind_some, if_neg he]

theorem list_guard (n : Nat) (most : Int) (hn : n < 18446744073709551616) (h0 : ¬ most < 0) (h1 : most ≤ 9223372036854775807) : ((n : Int) > IntKind.u64.wrap most) ↔ ((n : Int) > most) := by
  rw [IntKind.wrap_u64]
  omega
theorem takeList_eq (k : Nat) (b : List Int) (a most : Int) (hb : Bytes b) (hn : b.length ≤ 1000000) (hm : most ≤ 9223372036854775807) (hk : b.length + 60 ≤ k) :
    octet_TakeList.f k b a most = some (Spec.takeList b a most) ∧ horariumref03_TakeList.f k b a most = some (Spec.takeList b a most) := by
  obtain ⟨k, rfl⟩ : ∃ j, k = j + 1 := ⟨k - 1, by omega⟩
  unfold octet_TakeList.f horariumref03_TakeList.f Spec.takeList
  rw [take_eq _ b a hb, rtake_eq _ b a hb (by omega) (by omega)]
  simp only [Option.bind_some]
  rcases Spec.take_cases b a hb with ⟨e, he, ht⟩ | ⟨p, n, hp, hnn, hlen, ht, _⟩
  · rw [ht]
    rw [if_neg he, if_neg he, if_neg he]
    exact ⟨rfl, rfl⟩
  · rw [ht]
    simp only [if_true]
    by_cases h0 : most < 0
    · rw [if_pos h0, if_pos h0, if_pos (.inl h0), horariumref03_TakeList.j0, if_pos rfl]
      exact ⟨rfl, rfl⟩
    · have hg := list_guard n most hnn h0 hm
      have hpl := Spec.putN_length n
      rw [if_neg h0, if_neg h0]
      by_cases h1 : (n : Int) > most
      · rw [if_pos (hg.2 h1), decide_eq_true (hg.2 h1), if_pos (.inr h1), horariumref03_TakeList.j0, if_pos rfl]
        exact ⟨rfl, rfl⟩
      · rw [if_neg (fun h => h1 (hg.1 h)), decide_eq_false (fun h => h1 (hg.1 h)), if_neg (fun h => h.elim h0 h1), horariumref03_TakeList.j0, if_neg (by decide), Int.toNat_natCast]
        obtain ⟨i1, _⟩ := takeInts_eq b hb hn (b.length + 1) n (p + (Spec.putN n).length) (k + 1) [] n hlen (by omega) (by simp) (by simp) hnn (by omega)
        obtain ⟨_, i2⟩ := takeInts_eq b hb hn (b.length + 1) n (p + (Spec.putN n).length) k [] n hlen (by omega) (by simp) (by simp) hnn (by omega)
        exact ⟨i1, i2⟩

/-! ### TakeText -/
theorem takeText_eq (k : Nat) (b : List Int) (a most : Int) (hb : Bytes b) (hn : b.length ≤ 1000000) (hm : most ≤ 9223372036854775807) (hk : 60 ≤ k) :
    octet_TakeText.f k b a most = some (Spec.takeText b a most) ∧ horariumref03_TakeText.f k b a most = some (Spec.takeText b a most) := by
  obtain ⟨k, rfl⟩ : ∃ j, k = j + 1 := ⟨k - 1, by omega⟩
  unfold octet_TakeText.f horariumref03_TakeText.f Spec.takeText
  rw [take_eq _ b a hb, rtake_eq _ b a hb (by omega) (by omega)]
  simp only [Option.bind_some]
  rcases Spec.take_cases b a hb with ⟨e, he, ht⟩ | ⟨p, n, hp, hnn, hlen, ht, _⟩
  · rw [ht]
    rw [if_neg he, if_neg he, if_neg he]
    exact ⟨rfl, rfl⟩
  · rw [ht]
    simp only [if_true]
    generalize p + (Spec.putN n).length = q at hlen ⊢
    by_cases h0 : most < 0
    · rw [if_pos h0, if_pos h0, if_pos (.inl h0), horariumref03_TakeText.j0, if_pos rfl, octet_TakeText.j0, if_pos rfl]
      exact ⟨rfl, rfl⟩
    · have hg := list_guard n most hnn h0 hm
      rw [if_neg h0, if_neg h0]
      by_cases h1 : (n : Int) > most
      · rw [decide_eq_true (hg.2 h1), if_pos (.inr h1), horariumref03_TakeText.j0, if_pos rfl, octet_TakeText.j0, if_pos rfl]
        exact ⟨rfl, rfl⟩
      · rw [decide_eq_false (fun h => h1 (hg.1 h)), if_neg (fun h => h.elim h0 h1), horariumref03_TakeText.j0, if_neg Bool.false_ne_true, octet_TakeText.j0, if_neg Bool.false_ne_true]
        have e1 : IntKind.u64.wrap (wrap64 ((b.length : Int) - (q : Int))) = (b.length : Int) - (q : Int) := by rw [IntKind.wrap_u64]; unfold wrap64; omega
        rw [e1]
        by_cases h2 : (n : Int) > (b.length : Int) - (q : Int)
        · rw [if_pos h2, if_pos h2]
          exact ⟨rfl, rfl⟩
        · have e2 : wrap64 (n : Int) = (n : Int) := by unfold wrap64; omega
          have e3 : wrap64 ((q : Int) + (n : Int)) = (q : Int) + (n : Int) := by unfold wrap64; omega
          rw [if_neg h2, if_neg h2, e2, e3, if_pos (by omega), if_pos (by omega), if_pos (by omega)]
          exact ⟨rfl, rfl⟩

/-! ### the same ints -/
theorem ints_self (l : List Int) (hn : l.length ≤ 1000000) (k : Nat) (hk : l.length + 1 ≤ k) : horariumref03_Ints.f k l l = some true := by
  have key : ∀ (d i k : Nat), i + d = l.length → d + 1 ≤ k → horariumref03_Ints.l0 k l l (i : Int) = some true := by
    intro d
    induction d with
    | zero =>
      intro i k hi hk
      obtain ⟨k, rfl⟩ : ∃ j, k = j + 1 := ⟨k - 1, by omega⟩
      rw [horariumref03_Ints.l0, if_neg (by omega)]
    | succ d ih =>
      intro i k hi hk
      obtain ⟨k, rfl⟩ : ∃ j, k = j + 1 := ⟨k - 1, by omega⟩
      rw [horariumref03_Ints.l0, if_pos (by omega), if_pos (by omega), if_pos (by omega), if_pos rfl, wrap_succ (n := l.length) (by omega) (by omega)]
      exact ih (i + 1) k (by omega) (by omega)
  unfold horariumref03_Ints.f
  rw [if_pos rfl]
  exact key l.length 0 k (by omega) hk

end Go.Proofs.Ytccjdefhieilpaa.Pure
