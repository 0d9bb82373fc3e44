/-
  What the dice come to as plain functions of numbers and lists.
-/
import Derived.Test.YtccjdefhieilpaaPDx2
import Derived.Test.YtccjdefhieilpaaMixPure
import Derived.OpenShut
namespace Go.Proofs.Ytccjdefhieilpaa.Spec
/-- How far a state goes on, and a weight as it counts. -/
def nextS (s : Nat) : Nat := (s + 11400714819323198485) % 18446744073709551616
def weight (x : Int) : Nat := if x < 0 then 0 else if x > 1000000 then 1000000 else x.toNat
def total (l : List Int) : Nat := (l.map weight).sum
/-- The first index at which the weights so far are more than r. -/
def pickL : List Int → Nat → Nat → Int
  | [], _, _ => -1
  | x :: l, r, i => if r < weight x then (i : Int) else pickL l (r - weight x) (i + 1)
def belowV (s n : Nat) : Nat := mixN (nextS s) % n
/-- Pick: the index, and the state behind it. -/
def pick (s : Nat) (l : List Int) : Int × Nat :=
  if l.length > 10000 ∨ total l = 0 then (-1, s) else (pickL l (belowV s (total l)) 0, nextS s)
theorem weight_le (x : Int) : weight x ≤ 1000000 := by unfold weight; split <;> (try split) <;> omega
theorem total_le : ∀ l : List Int, total l ≤ 1000000 * l.length
  | [] => by simp [total]
  | x :: l => by
    have h1 := total_le l
    have h2 := weight_le x
    simp only [total, List.map_cons, List.sum_cons, List.length_cons] at h1 ⊢
    omega
theorem total_cons (x : Int) (l : List Int) : total (x :: l) = weight x + total l := by simp [total]
theorem pickL_range : ∀ (l : List Int) (r i : Nat), r < total l → ∃ j, pickL l r i = ((i + j : Nat) : Int) ∧ j < l.length ∧ 0 < l.getD j 0
  | [], r, i, h => by simp [total] at h
  | x :: l, r, i, h => by
    rw [total_cons] at h
    rw [pickL]
    split
    · rename_i h1
      refine ⟨0, rfl, by simp, ?_⟩
      show 0 < x
      unfold weight at h1
      split at h1
      · omega
      · split at h1 <;> omega
    · obtain ⟨j, hj, hl, hw⟩ := pickL_range l (r - weight x) (i + 1) (by omega)
      exact ⟨j + 1, by rw [hj]; omega, by simp only [List.length_cons]; omega, by simpa using hw⟩
end Go.Proofs.Ytccjdefhieilpaa.Spec
namespace Go.Proofs.Ytccjdefhieilpaa.Pure
open Go.RowKit Go.Proofs.Ytccjdefhieilpaa.PB Go.Proofs.Ytccjdefhieilpaa.PD Go.Proofs.YtccjdefhieilpaaW.PrintWords Go.Proofs.YtccjdefhieilpaaW.PrintLast Go.Proofs.YtccjdefhieilpaaW.PrintMore

theorem heads08_t : horariumlaw08_heads.f 100 = some true := by decide +kernel
theorem heads08_eq (k : Nat) (hk : 100 ≤ k) : horariumlaw08_heads.f k = some true := at_rounds horariumlaw08_heads.mono hk heads08_t
theorem nextS_lt (s : Nat) : Spec.nextS s < 18446744073709551616 := Nat.mod_lt _ (by decide)
theorem next_wrap (s : Nat) : IntKind.u64.wrap ((s : Int) + 11400714819323198485) = (Spec.nextS s : Int) := by
  rw [IntKind.wrap_u64]
  unfold Spec.nextS
  omega
theorem next_eq (s : Nat) : dice_Next.f (s : Int) = some ((Spec.mixN (Spec.nextS s) : Int), (Spec.nextS s : Int)) := by
  unfold dice_Next.f
  rw [next_wrap, mix_eq _ (nextS_lt s)]
  rfl
theorem below_eq (s n : Nat) (hn : 1 ≤ n) (hm : n < 9223372036854775808) : dice_Below.f (s : Int) (n : Int) = some ((Spec.belowV s n : Int), (Spec.nextS s : Int)) := by
  have hw : IntKind.u64.wrap (n : Int) = (n : Int) := by rw [IntKind.wrap_u64]; omega
  have hlt : Spec.mixN (Spec.nextS s) % n < n := Nat.mod_lt _ hn
  unfold dice_Below.f Spec.belowV
  rw [if_neg (by omega), next_eq, Option.bind_some, hw, if_neg (by omega)]
  have e : wrap64 (Int.tmod (Spec.mixN (Spec.nextS s) : Int) (n : Int)) = ((Spec.mixN (Spec.nextS s) % n : Nat) : Int) := by
    rw [Int.tmod_eq_emod_of_nonneg (by omega), ← Int.natCast_emod]
    unfold wrap64
    omega
  rw [e]
theorem below_out (s : Int) (n : Int) (hn : n < 1) : dice_Below.f s n = some (0, s) := by
  unfold dice_Below.f
  rw [if_pos hn]
theorem weight_eq (x : Int) : mx 0 (mn x 1000000) = (Spec.weight x : Int) := by
  unfold Spec.weight mx mn
  split <;> split <;> (try split) <;> (try split) <;> omega

theorem pick_l1 (l : List Int) (hn : l.length ≤ 10000) (s : Int) (d : Nat) : ∀ (i r k : Nat), i + d = l.length → r ≤ 10000000000 → d + 1 ≤ k →
    dice_Pick.l1 k (r : Int) l (l.length : Int) (i : Int) s = some (Spec.pickL (l.drop i) r i, s) := by
  induction d with
  | zero =>
    intro i r k hi hr hk
    obtain ⟨k, rfl⟩ : ∃ j, k = j + 1 := ⟨k - 1, by omega⟩
    rw [dice_Pick.l1, if_neg (by omega), List.drop_eq_nil_of_le (by omega)]
    rfl
  | succ d ih =>
    intro i r k hi hr hk
    obtain ⟨k, rfl⟩ : ∃ j, k = j + 1 := ⟨k - 1, by omega⟩
    have hw := Spec.weight_le (rd l (i : Int))
    have e : wrap64 ((r : Int) - (Spec.weight (rd l (i : Int)) : Int)) = (r : Int) - (Spec.weight (rd l (i : Int)) : Int) := by unfold wrap64; omega
    rw [dice_Pick.l1, if_pos (by omega), if_pos (by omega), if_pos (by omega), weight_eq, e, drop_cons (l := l) (i := i) (by omega), Spec.pickL]
    by_cases h : r < Spec.weight (rd l (i : Int))
    · rw [if_pos (by omega), if_pos h]
    · rw [if_neg (by omega), if_neg h, wrap_succ (n := l.length) (by omega) (by omega),
        show (r : Int) - (Spec.weight (rd l (i : Int)) : Int) = ((r - Spec.weight (rd l (i : Int)) : Nat) : Int) from by omega]
      exact ih (i + 1) _ k (by omega) (by omega) (by omega)
theorem pick_l0 (l : List Int) (hn : l.length ≤ 10000) (s : Nat) (d : Nat) : ∀ (i a k : Nat), i + d = l.length → a + Spec.total (l.drop i) = Spec.total l → d + l.length + 2 ≤ k →
    dice_Pick.l0 k l (a : Int) l (l.length : Int) (i : Int) (s : Int) = some ((Spec.pick s l).1, ((Spec.pick s l).2 : Int)) := by
  have htl := Spec.total_le l
  induction d with
  | zero =>
    intro i a k hi ha hk
    obtain ⟨k, rfl⟩ : ∃ j, k = j + 1 := ⟨k - 1, by omega⟩
    rw [List.drop_eq_nil_of_le (by omega)] at ha
    have ha' : a = Spec.total l := by simpa [Spec.total] using ha
    rw [dice_Pick.l0, if_neg (by omega), ha']
    unfold Spec.pick
    by_cases h0 : Spec.total l = 0
    · rw [if_pos (by omega), if_pos (.inr h0)]
    · have hb : Spec.belowV s (Spec.total l) < Spec.total l := Nat.mod_lt _ (by omega)
      rw [if_neg (by omega), if_neg (fun h => h.elim (by omega) h0), below_eq s _ (by omega) (by omega), Option.bind_some]
      have := pick_l1 l hn (Spec.nextS s : Int) l.length 0 (Spec.belowV s (Spec.total l)) k (by omega) (by omega) (by omega)
      exact this
  | succ d ih =>
    intro i a k hi ha hk
    obtain ⟨k, rfl⟩ : ∃ j, k = j + 1 := ⟨k - 1, by omega⟩
    rw [drop_cons (l := l) (i := i) (by omega), Spec.total_cons] at ha
    have e : wrap64 ((a : Int) + (Spec.weight (rd l (i : Int)) : Int)) = ((a + Spec.weight (rd l (i : Int)) : Nat) : Int) := by unfold wrap64; omega
    rw [dice_Pick.l0, if_pos (by omega), if_pos (by omega), if_pos (by omega), weight_eq, e, wrap_succ (n := l.length) (by omega) (by omega)]
    exact ih (i + 1) _ k (by omega) (by omega) (by omega)
theorem pick_eq (k s : Nat) (l : List Int) (hk : 2 * l.length + 2 ≤ k) : dice_Pick.f k (s : Int) l = some ((Spec.pick s l).1, ((Spec.pick s l).2 : Int)) := by
  unfold dice_Pick.f
  by_cases h : l.length > 10000
  · rw [if_pos (by omega)]
    unfold Spec.pick
    rw [if_pos (.inl h)]
  · rw [if_neg (by omega)]
    exact pick_l0 l (by omega) s l.length 0 0 k (by omega) (by simp) (by omega)

end Go.Proofs.Ytccjdefhieilpaa.Pure
