/-
  Written by hand: dice of one state tell the same, and never the same state again within 255 throws.
-/
import Derived.Test.YtccjdefhieilpaaPDx4
import Derived.Test.YtccjdefhieilpaaDicePure
namespace Go.Proofs.Ytccjdefhieilpaa.Spec
theorem addmul (M G a n : Nat) : ((a + n * G) % M + G) % M = (a + (n + 1) * G) % M := by
  rw [Nat.mod_add_mod, Nat.succ_mul, Nat.add_assoc]
theorem addmul_ne (M G a n : Nat) (ha : a < M) (h : (n * G) % M ≠ 0) : (a + n * G) % M ≠ a := by
  intro e
  refine h ?_
  have h1 : (a + n * G) % M = (a + 0) % M := by rw [e, Nat.add_zero, Nat.mod_eq_of_lt ha]
  have h2 : ((a + n * G) - (a + 0)) % M = 0 := Nat.sub_mod_eq_zero_of_mod_eq h1
  rwa [Nat.add_zero, Nat.add_sub_cancel_left] at h2
def stG (M G a n : Nat) : Nat := (a + n * G) % M
def nextG (M G s : Nat) : Nat := (s + G) % M
def farG (M G n : Nat) : Bool := decide ((n * G) % M ≠ 0)
theorem stG_next (M G a n : Nat) : nextG M G (stG M G a n) = stG M G a (n + 1) := addmul M G a n
theorem stG_zero (M G a : Nat) (ha : a < M) : stG M G a 0 = a := by
  unfold stG
  rw [Nat.zero_mul, Nat.add_zero, Nat.mod_eq_of_lt ha]
theorem stG_ne (M G a n : Nat) (ha : a < M) (h : farG M G n = true) : stG M G a n ≠ a := addmul_ne M G a n ha (of_decide_eq_true h)
/-- The state behind n throws. -/
def stN (a n : Nat) : Nat := stG 18446744073709551616 11400714819323198485 a n
theorem nextS_G (s : Nat) : nextS s = nextG 18446744073709551616 11400714819323198485 s := by
  unfold nextS nextG
  rfl
theorem stN_next (a n : Nat) : nextS (stN a n) = stN a (n + 1) := by
  rw [nextS_G]
  unfold stN
  exact stG_next _ _ a n
theorem stN_zero (a : Nat) (ha : a < 18446744073709551616) : stN a 0 = a := by
  unfold stN
  exact stG_zero _ _ a ha
theorem golden_far : ∀ n : Fin 256, n.val = 0 ∨ farG 18446744073709551616 11400714819323198485 n.val = true := by decide +kernel
theorem stN_ne (a n : Nat) (ha : a < 18446744073709551616) (h1 : 1 ≤ n) (h2 : n ≤ 255) : stN a n ≠ a := by
  have h := golden_far ⟨n, Nat.lt_succ_of_le h2⟩
  unfold stN
  refine stG_ne _ _ a n ha ?_
  rcases h with h | h
  · exact absurd (show n = 0 from h) (by omega)
  · exact h
end Go.Proofs.Ytccjdefhieilpaa.Spec
namespace Go.Proofs.Ytccjdefhieilpaa.Pure
open Go.RowKit Go.Proofs.Ytccjdefhieilpaa.PD Go.Proofs.YtccjdefhieilpaaW.PrintWords Go.Proofs.YtccjdefhieilpaaW.PrintLast

theorem again_l0 (a b : Nat) (ha : a < 18446744073709551616) (hb : b ≤ 255) (d : Nat) : ∀ (i s k : Nat), s = Spec.stN a i → i + d = b → d + 101 ≤ k →
    horariumlaw08_DiceAgain.l0 k (a : Int) (b : Int) (i : Int) (s : Int) (s : Int) = some true := by
  have wb : wrap64 (b : Int) = (b : Int) := by unfold wrap64; omega
  induction d with
  | zero =>
    intro i s k hs hi hk
    obtain ⟨k, rfl⟩ : ∃ j, k = j + 1 := ⟨k - 1, by omega⟩
    rw [horariumlaw08_DiceAgain.l0, wb, if_neg (by omega), heads08_eq k (by omega), Option.bind_some]
  | succ d ih =>
    intro i s k hs hi hk
    obtain ⟨k, rfl⟩ : ∃ j, k = j + 1 := ⟨k - 1, by omega⟩
    have hne := Spec.stN_ne a (i + 1) ha (by omega) (by omega)
    have hs' : Spec.nextS s = Spec.stN a (i + 1) := by rw [hs, Spec.stN_next]
    rw [← hs'] at hne
    rw [horariumlaw08_DiceAgain.l0, wb, if_pos (by omega), next_eq, Option.bind_some, Option.bind_some, if_pos rfl]
    have hh := ih (i + 1) (Spec.nextS s) k hs' (by omega) (by omega)
    generalize Spec.nextS s = s' at *
    have hne' : ¬ ((s' : Int) == (a : Int)) = true := by
      intro h
      exact hne (Int.ofNat.inj (beq_iff_eq.mp h))
    show (if (!((s' : Int) == (s' : Int))) = true then _ else _) = _
    rw [if_neg (by simp), show dice_New.f (a : Int) = some (a : Int) from rfl, Option.bind_some]
    rw [if_neg hne', show wrap64 ((i : Int) + 1) = ((i + 1 : Nat) : Int) from by unfold wrap64; omega]
    dsimp only
    exact hh
theorem bounds_u8 {x : Int} (h : (Lit.int .u8 x).wf = true) : 0 ≤ x ∧ x < 256 := by
  simp [Lit.wf, IntKind.min, IntKind.max, IntKind.signed, IntKind.bits] at h
  omega
theorem DiceAgain : horariumlaw08_DiceAgain.Pure := by
  intro a0 a1 w0 w1
  obtain ⟨a1', a2'⟩ := bounds_u64 w0
  obtain ⟨b1', b2'⟩ := bounds_u8 w1
  obtain ⟨a, rfl⟩ := Int.eq_ofNat_of_zero_le a1'
  obtain ⟨b, rfl⟩ := Int.eq_ofNat_of_zero_le b1'
  have ha : a < 18446744073709551616 := by omega
  refine ⟨b + 101, ?_⟩
  have h := again_l0 a b ha (by omega) b 0 a (b + 101) (Spec.stN_zero a ha).symm (by omega) (by omega)
  rw [Int.natCast_zero] at h
  generalize b + 101 = k at h ⊢
  unfold horariumlaw08_DiceAgain.f
  rw [show dice_New.f (a : Int) = some (a : Int) from rfl, Option.bind_some, Option.bind_some]
  exact h

end Go.Proofs.Ytccjdefhieilpaa.Pure
