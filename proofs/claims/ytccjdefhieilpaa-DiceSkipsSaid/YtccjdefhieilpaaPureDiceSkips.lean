/-
  Written by hand: dice that skip are where so many throws bring them.
-/
import Derived.Test.YtccjdefhieilpaaPDx6
import Derived.Test.YtccjdefhieilpaaPureDiceAgain
namespace Go.Proofs.Ytccjdefhieilpaa.Pure
open Go.RowKit Go.Proofs.Ytccjdefhieilpaa.PD Go.Proofs.YtccjdefhieilpaaW.PrintWords Go.Proofs.YtccjdefhieilpaaW.PrintLast

theorem skip_ref (s n : Int) (h1 : 0 ≤ s) (h2 : s < 18446744073709551616) (hn : 0 < n ∨ n = 0 ∨ n < 0) : dice_Skip.f s n = horariumref08_Skip.f s n := by
  unfold dice_Skip.f horariumref08_Skip.f
  rcases hn with h | h | h
  · rw [if_pos h, if_neg (by omega), Int.mul_comm]
  · subst h
    rw [if_neg (by omega), if_neg (by omega)]
    have : IntKind.u64.wrap (s + IntKind.u64.wrap (IntKind.u64.wrap 0 * 11400714819323198485)) = s := by
      rw [show IntKind.u64.wrap 0 = 0 from rfl, Int.zero_mul, show IntKind.u64.wrap 0 = 0 from rfl, Int.add_zero, IntKind.wrap_u64]
      omega
    rw [this]
  · rw [if_neg (by omega), if_pos h]
theorem gen_skip (M G a n : Nat) (M' G' : Int) (hM : M' = (M : Int)) (hG : G' = (G : Int)) : ((a : Int) + (G' * (n : Int)) % M') % M' = ((Spec.stG M G a n : Nat) : Int) := by
  subst hM hG
  unfold Spec.stG
  rw [Int.natCast_emod, Int.natCast_add, Int.natCast_mul, Int.add_emod_emod, Int.mul_comm]
theorem skip_few (a n : Nat) (ha : a < 18446744073709551616) (hn : n ≤ 255) : dice_Skip.f (a : Int) (n : Int) = some (Spec.stN a n : Int) := by
  unfold dice_Skip.f
  by_cases h : (n : Int) > 0
  · rw [if_pos h]
    have w1 : IntKind.u64.wrap (n : Int) = (n : Int) := by rw [IntKind.wrap_u64]; omega
    have e : IntKind.u64.wrap ((a : Int) + IntKind.u64.wrap (11400714819323198485 * (n : Int))) = (Spec.stN a n : Int) := by
      rw [IntKind.wrap_u64, IntKind.wrap_u64]
      unfold Spec.stN
      exact gen_skip _ _ a n _ _ rfl rfl
    rw [w1, e]
  · rw [if_neg h]
    obtain rfl : n = 0 := by omega
    rw [Spec.stN_zero a ha]
theorem skips_l0 (a b : Nat) (n : Int) (ha : a < 18446744073709551616) (hb : b ≤ 255) (d : Nat) : ∀ (i s k : Nat), s = Spec.stN a i → i + d = b → d + 101 ≤ k →
    horariumlaw08_DiceSkips.l0 k n (b : Int) (i : Int) (a : Int) (s : Int) = some true := by
  have wb : wrap64 (b : Int) = (b : Int) := by unfold wrap64; omega
  induction d with
  | zero =>
    intro i s k hs hi hk
    obtain ⟨k, rfl⟩ : ∃ j, k = j + 1 := ⟨k - 1, by omega⟩
    obtain rfl : i = b := by omega
    have e1 := skip_ref (a : Int) n (by omega) (by omega) (by omega)
    have e2 := skip_few a i ha hb
    obtain ⟨t, ht⟩ : ∃ t, horariumref08_Skip.f (a : Int) n = some t := by
      unfold horariumref08_Skip.f
      split <;> exact ⟨_, rfl⟩
    rw [← hs] at e2
    rw [horariumlaw08_DiceSkips.l0, wb, if_neg (by omega), e1, ht, Option.bind_some, Option.bind_some, if_pos (beq_self_eq_true t), e2, Option.bind_some,
      if_pos (beq_self_eq_true (s : Int)), heads08_eq k (by omega), Option.bind_some]
  | succ d ih =>
    intro i s k hs hi hk
    obtain ⟨k, rfl⟩ : ∃ j, k = j + 1 := ⟨k - 1, by omega⟩
    have hs' : Spec.nextS s = Spec.stN a (i + 1) := by rw [hs, Spec.stN_next]
    rw [horariumlaw08_DiceSkips.l0, wb, if_pos (by omega), next_eq, Option.bind_some, show wrap64 ((i : Int) + 1) = ((i + 1 : Nat) : Int) from by unfold wrap64; omega]
    exact ih (i + 1) (Spec.nextS s) k hs' (by omega) (by omega)
theorem DiceSkips (s n b : Int) (hs : (Lit.int .u64 s).wf = true) (hb : (Lit.int .u8 b).wf = true) : ∃ k, horariumlaw08_DiceSkips.f k s n b = some true := by
  obtain ⟨s1, s2⟩ := bounds_u64 hs
  obtain ⟨b1, b2⟩ := bounds_u8 hb
  obtain ⟨a, rfl⟩ := Int.eq_ofNat_of_zero_le s1
  obtain ⟨b, rfl⟩ := Int.eq_ofNat_of_zero_le b1
  have ha : a < 18446744073709551616 := by omega
  refine ⟨b + 101, ?_⟩
  unfold horariumlaw08_DiceSkips.f
  by_cases h : n > 1048576
  · rw [if_pos h, heads08_eq _ (by omega), Option.bind_some]
  · rw [if_neg h]
    have h := skips_l0 a b n ha (by omega) b 0 a (b + 101) (Spec.stN_zero a ha).symm (by omega) (by omega)
    rw [Int.natCast_zero] at h
    exact h

end Go.Proofs.Ytccjdefhieilpaa.Pure
