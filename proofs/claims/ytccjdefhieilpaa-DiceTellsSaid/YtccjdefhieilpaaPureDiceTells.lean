/-
  Written by hand: each throw is the one that the document says, and the dice behind it.
-/
import Derived.Test.YtccjdefhieilpaaDiceTells
import Derived.Test.YtccjdefhieilpaaDicePure
namespace Go.Proofs.Ytccjdefhieilpaa.Pure
open Go.RowKit Go.Proofs.Ytccjdefhieilpaa.PB Go.Proofs.Ytccjdefhieilpaa.PD Go.Proofs.Ytccjdefhieilpaa.PT Go.Proofs.YtccjdefhieilpaaW.PrintWords Go.Proofs.YtccjdefhieilpaaW.PrintLast Go.Proofs.YtccjdefhieilpaaW.PrintMore

theorem rnext_eq (s : Nat) : horariumref08_Next.f (s : Int) = some ((Spec.mixN (Spec.nextS s) : Int), (Spec.nextS s : Int)) := by
  unfold horariumref08_Next.f
  rw [next_wrap, rmix_eq _ (nextS_lt s), Option.bind_some]
theorem rbelow_eq (s : Nat) (n : Int) : horariumref08_Below.f (s : Int) n = dice_Below.f (s : Int) n := by
  unfold horariumref08_Below.f dice_Below.f
  rw [rnext_eq, next_eq]
theorem rweight_eq (x : Int) : horariumref08_weight.f x = some (Spec.weight x : Int) := by
  unfold horariumref08_weight.f Spec.weight mx mn
  congr 1
  split <;> split <;> (try split) <;> (try split) <;> omega
theorem rpick_l1 (l : List Int) (hn : l.length ≤ 10000) (s : Int) (r : Nat) (hr : r ≤ 10000000000) (d : Nat) : ∀ (i a k : Nat), i + d = l.length → a ≤ r → d + 1 ≤ k →
    horariumref08_Pick.l1 k l (r : Int) (a : Int) (i : Int) s = some (Spec.pickL (l.drop i) (r - a) i, s) := by
  induction d with
  | zero =>
    intro i a k hi ha hk
    obtain ⟨k, rfl⟩ : ∃ j, k = j + 1 := ⟨k - 1, by omega⟩
    rw [horariumref08_Pick.l1, if_neg (by omega), List.drop_eq_nil_of_le (by omega)]
    unfold Spec.pickL
    rfl
  | succ d ih =>
    intro i a k hi ha hk
    obtain ⟨k, rfl⟩ : ∃ j, k = j + 1 := ⟨k - 1, by omega⟩
    have hw := Spec.weight_le (rd l (i : Int))
    have e : wrap64 ((a : Int) + (Spec.weight (rd l (i : Int)) : Int)) = ((a + Spec.weight (rd l (i : Int)) : Nat) : Int) := by unfold wrap64; omega
    rw [horariumref08_Pick.l1, if_pos (by omega), if_pos (by omega), rweight_eq, Option.bind_some, e, drop_cons (l := l) (i := i) (by omega), Spec.pickL]
    by_cases h : r - a < Spec.weight (rd l (i : Int))
    · rw [if_pos (by omega), if_pos h]
    · rw [if_neg (by omega), if_neg h, wrap_succ (n := l.length) (by omega) (by omega),
        show r - a - Spec.weight (rd l (i : Int)) = r - (a + Spec.weight (rd l (i : Int))) from by omega]
      exact ih (i + 1) _ k (by omega) (by omega) (by omega)
theorem rpick_j1 (l : List Int) (hn : l.length ≤ 10000) (s k : Nat) (hk : l.length + 2 ≤ k) :
    horariumref08_Pick.j1 k l (Spec.total l : Int) (s : Int) = some ((Spec.pick s l).1, ((Spec.pick s l).2 : Int)) := by
  have htl := Spec.total_le l
  obtain ⟨k, rfl⟩ : ∃ j, k = j + 1 := ⟨k - 1, by omega⟩
  rw [horariumref08_Pick.j1]
  unfold Spec.pick
  by_cases h0 : Spec.total l = 0
  · rw [if_pos (by omega), if_pos (.inr h0)]
  · have hb : Spec.belowV s (Spec.total l) < Spec.total l := Nat.mod_lt _ (by omega)
    rw [if_neg (by omega), if_neg (fun h => h.elim (by omega) h0), rbelow_eq, below_eq s _ (by omega) (by omega), Option.bind_some]
    have h := rpick_l1 l hn (Spec.nextS s : Int) (Spec.belowV s (Spec.total l)) (by omega) l.length 0 0 k (by omega) (by omega) (by omega)
    rw [Nat.sub_zero, List.drop_zero, Int.natCast_zero] at h
    exact h
theorem rpick_l0 (l : List Int) (hn : l.length ≤ 10000) (s : Nat) (d : Nat) : ∀ (i a k : Nat), i + d = l.length → a + Spec.total (l.drop i) = Spec.total l → d + l.length + 3 ≤ k →
    horariumref08_Pick.l0 k l (a : Int) (i : Int) (s : Int) = some ((Spec.pick s l).1, ((Spec.pick s l).2 : Int)) := by
  have htl := Spec.total_le l
  induction d with
  | zero =>
    intro i a k hi ha hk
    obtain ⟨k, rfl⟩ : ∃ j, k = j + 1 := ⟨k - 1, by omega⟩
    rw [List.drop_eq_nil_of_le (by omega)] at ha
    have ha' : a = Spec.total l := by simpa [Spec.total] using ha
    rw [horariumref08_Pick.l0, if_neg (by omega), ha']
    exact rpick_j1 l hn s k (by omega)
  | succ d ih =>
    intro i a k hi ha hk
    obtain ⟨k, rfl⟩ : ∃ j, k = j + 1 := ⟨k - 1, by omega⟩
    rw [drop_cons (l := l) (i := i) (by omega), Spec.total_cons] at ha
    have e : wrap64 ((a : Int) + (Spec.weight (rd l (i : Int)) : Int)) = ((a + Spec.weight (rd l (i : Int)) : Nat) : Int) := by unfold wrap64; omega
    rw [horariumref08_Pick.l0, if_pos (by omega), if_pos (by omega), if_pos (by omega), rweight_eq, Option.bind_some, e, wrap_succ (n := l.length) (by omega) (by omega)]
    exact ih (i + 1) _ k (by omega) (by omega) (by omega)
theorem rpick_eq (k s : Nat) (l : List Int) (hl : l.length ≤ 10000) (hk : 2 * l.length + 3 ≤ k) : horariumref08_Pick.f k (s : Int) l = some ((Spec.pick s l).1, ((Spec.pick s l).2 : Int)) := by
  unfold horariumref08_Pick.f
  have h := rpick_l0 l hl s l.length 0 0 k (by omega) (by simp) (by omega)
  rw [Int.natCast_zero] at h
  exact h
theorem DiceTells (s : Int) (n : Int) (l : List Int) (hs : (Lit.int .u64 s).wf = true) (hn : (Lit.int .i64 n).wf = true) :
    ∃ k, horariumlaw08_DiceTells.f k s n l = some true := by
  obtain ⟨s1, s2⟩ := bounds_u64 hs
  obtain ⟨a, rfl⟩ := Int.eq_ofNat_of_zero_le s1
  refine ⟨1000, ?_⟩
  have h8 := heads08_eq 1000 (by omega)
  unfold horariumlaw08_DiceTells.f
  by_cases hl : (l.length : Int) > 200
  · rw [if_pos hl, h8, Option.bind_some]
  · have e1 := next_eq a
    have e2 := rnext_eq a
    have e3 := rbelow_eq a n
    obtain ⟨⟨b, sb⟩, e4⟩ : ∃ x, dice_Below.f (a : Int) n = some x := by
      by_cases h : n < 1
      · exact ⟨_, below_out (a : Int) n h⟩
      · have hn2 : n ≤ 9223372036854775807 := by
          have := hn
          simp [Lit.wf, IntKind.min, IntKind.max, IntKind.signed, IntKind.bits] at this
          omega
        obtain ⟨b, rfl⟩ := Int.eq_ofNat_of_zero_le (show 0 ≤ n by omega)
        exact ⟨_, below_eq a b (by omega) (by omega)⟩
    have e5 := pick_eq 1000 a l (by omega)
    have e6 := rpick_eq 1000 a l (by omega) (by omega)
    generalize (Spec.pick a l).1 = p at e5 e6
    generalize (Spec.pick a l).2 = q at e5 e6
    generalize Spec.nextS a = t at e1 e2
    generalize Spec.mixN t = m at e1 e2
    generalize (1000 : Nat) = k at *
    have e7 : dice_New.f (a : Int) = some (a : Int) := rfl
    rw [if_neg hl, e1, Option.bind_some, e2, Option.bind_some, e3, e4, Option.bind_some, Option.bind_some, e5, Option.bind_some, e6, Option.bind_some,
      if_pos rfl, if_pos (beq_self_eq_true _), if_pos rfl, if_pos (beq_self_eq_true _), if_pos rfl, if_pos (beq_self_eq_true _), e7, Option.bind_some,
      if_pos (beq_self_eq_true _), h8, Option.bind_some]

end Go.Proofs.Ytccjdefhieilpaa.Pure
