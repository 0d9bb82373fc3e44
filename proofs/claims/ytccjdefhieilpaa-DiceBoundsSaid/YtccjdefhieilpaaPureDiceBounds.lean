/-
  Written by hand: what is thrown is within its bounds, and no weight of nothing is picked.
-/
import Derived.Test.YtccjdefhieilpaaPDx5
import Derived.Test.YtccjdefhieilpaaDicePure
namespace Go.Proofs.Ytccjdefhieilpaa.Spec
theorem weight_pos (x : Int) : (0 < weight x) ↔ 0 < x := by unfold weight; split <;> (try split) <;> omega
theorem any_total : ∀ l : List Int, l.any (fun x => decide (x > 0)) = decide (0 < total l)
  | [] => by simp [total]
  | x :: l => by
    rw [List.any_cons, any_total l, total_cons]
    have h := weight_pos x
    by_cases h1 : 0 < x
    · have := h.2 h1
      rw [decide_eq_true (show x > 0 from h1), decide_eq_true (show 0 < weight x + total l by omega)]
      rfl
    · have h2 : ¬ 0 < weight x := fun h3 => h1 (h.1 h3)
      rw [decide_eq_false (show ¬ x > 0 from h1), Bool.false_or]
      congr 1
      exact propext ⟨fun h => by omega, fun h => by omega⟩
theorem addgen (M G s : Nat) (hG : 0 < G) (hM : G < M) (hs : s < M) : (s + G) % M ≠ s := by
  intro e
  have h1 := Nat.mod_add_div (s + G) M
  rw [e] at h1
  have h2 : G = M * ((s + G) / M) := by omega
  rcases Nat.eq_zero_or_pos ((s + G) / M) with h3 | h3
  · rw [h3, Nat.mul_zero] at h2
    omega
  · have : M * 1 ≤ M * ((s + G) / M) := Nat.mul_le_mul_left M h3
    omega
theorem nextS_ne (s : Nat) (hs : s < 18446744073709551616) : nextS s ≠ s := by
  unfold nextS
  exact addgen _ _ s (by decide) (by decide) hs
end Go.Proofs.Ytccjdefhieilpaa.Spec
namespace Go.Proofs.Ytccjdefhieilpaa.Pure
open Go.RowKit Go.Proofs.Ytccjdefhieilpaa.PD Go.Proofs.YtccjdefhieilpaaW.PrintWords Go.Proofs.YtccjdefhieilpaaW.PrintLast

theorem bounds_l0 (l : List Int) (v : Int) (hl : l.length ≤ 200) (h1 : v < (l.length : Int)) (h2 : 0 ≤ v → rd l v > 0) (d : Nat) :
    ∀ (i k : Nat) (x : Bool), i + d = l.length → d + 101 ≤ k → (x || (l.drop i).any (fun x => decide (x > 0))) = decide (v ≥ 0) →
    horariumlaw08_DiceBounds.l0 k l v x (i : Int) = some true := by
  induction d with
  | zero =>
    intro i k x hi hk hx
    obtain ⟨k, rfl⟩ : ∃ j, k = j + 1 := ⟨k - 1, by omega⟩
    rw [List.drop_eq_nil_of_le (by omega), List.any_nil, Bool.or_false] at hx
    rw [horariumlaw08_DiceBounds.l0, if_neg (by omega), if_pos (by rw [hx]; simp), if_pos h1, heads08_eq k (by omega)]
    by_cases h3 : v < 0
    · rw [if_pos h3]
      rfl
    · rw [if_neg h3, if_pos (by omega), if_pos (h2 (by omega))]
      rfl
  | succ d ih =>
    intro i k x hi hk hx
    obtain ⟨k, rfl⟩ : ∃ j, k = j + 1 := ⟨k - 1, by omega⟩
    rw [drop_cons (l := l) (i := i) (by omega), List.any_cons] at hx
    have e : wrap64 ((i : Int) + 1) = ((i + 1 : Nat) : Int) := by unfold wrap64; omega
    rw [horariumlaw08_DiceBounds.l0, if_pos (by omega), e]
    cases x with
    | true =>
      rw [if_pos rfl]
      exact ih (i + 1) k true (by omega) (by omega) (by rw [← hx, Bool.true_or, Bool.true_or])
    | false =>
      rw [if_neg (by simp), if_pos (by omega)]
      rw [Bool.false_or] at hx
      exact ih (i + 1) k _ (by omega) (by omega) hx
theorem bounds_j0 (l : List Int) (s k : Nat) (hl : l.length ≤ 200) (hk : 1000 ≤ k) : horariumlaw08_DiceBounds.j0 k l false (s : Int) = some true := by
  obtain ⟨k, rfl⟩ : ∃ j, k = j + 1 := ⟨k - 1, by omega⟩
  have ha := Spec.any_total l
  rw [horariumlaw08_DiceBounds.j0, if_neg (by simp), pick_eq k s l (by omega), Option.bind_some]
  show horariumlaw08_DiceBounds.l0 k l (Spec.pick s l).1 false ((0 : Nat) : Int) = _
  unfold Spec.pick
  by_cases h0 : Spec.total l = 0
  · rw [if_pos (.inr h0)]
    refine bounds_l0 l (-1) hl (by omega) (by omega) l.length 0 k false (by omega) (by omega) ?_
    rw [List.drop_zero, Bool.false_or, ha, decide_eq_false (by omega), decide_eq_false (by omega)]
  · rw [if_neg (fun h => h.elim (by omega) h0)]
    have hb : Spec.belowV s (Spec.total l) < Spec.total l := Nat.mod_lt _ (by omega)
    obtain ⟨j, hj, hjl, hjw⟩ := Spec.pickL_range l (Spec.belowV s (Spec.total l)) 0 hb
    rw [Nat.zero_add] at hj
    show horariumlaw08_DiceBounds.l0 k l (Spec.pickL l (Spec.belowV s (Spec.total l)) 0) false ((0 : Nat) : Int) = _
    rw [hj]
    refine bounds_l0 l (j : Int) hl (by omega) (fun _ => hjw) l.length 0 k false (by omega) (by omega) ?_
    rw [List.drop_zero, Bool.false_or, ha, decide_eq_true (by omega), decide_eq_true (by omega)]
theorem DiceBounds (s : Int) (n : Int) (l : List Int) (hs : (Lit.int .u64 s).wf = true) (hn : (Lit.int .i64 n).wf = true) :
    ∃ k, horariumlaw08_DiceBounds.f k s n l = some true := by
  obtain ⟨s1, s2⟩ := bounds_u64 hs
  obtain ⟨a, rfl⟩ := Int.eq_ofNat_of_zero_le s1
  refine ⟨1000, ?_⟩
  unfold horariumlaw08_DiceBounds.f
  by_cases hl : (l.length : Int) > 200
  · rw [if_pos hl, heads08_eq 1000 (by omega)]
    rfl
  · rw [if_neg hl]
    by_cases h : n < 1
    · rw [below_out (a : Int) n h, Option.bind_some, if_pos h, if_pos rfl, if_neg (by simp), if_neg (by omega)]
      exact bounds_j0 l a 1000 (by omega) (by omega)
    · have hn2 : n ≤ 9223372036854775807 := by
        have := hn
        simp [Lit.wf, IntKind.min, IntKind.max, IntKind.signed, IntKind.bits] at this
        omega
      obtain ⟨b, rfl⟩ := Int.eq_ofNat_of_zero_le (show 0 ≤ n by omega)
      have hv : Spec.belowV a b < b := Nat.mod_lt _ (by omega)
      have hne := Spec.nextS_ne a (by omega)
      rw [below_eq a b (by omega) (by omega)]
      generalize Spec.belowV a b = v at *
      generalize Spec.nextS a = t at *
      rw [Option.bind_some, if_neg h, if_pos (by omega), if_neg (by show ¬ (v : Int) < 0; omega), if_neg (by show ¬ (v : Int) ≥ (b : Int); omega)]
      have e : (((t : Int)) == (a : Int)) = false := beq_eq_false_iff_ne.mpr (fun h => hne (Int.ofNat.inj h))
      show horariumlaw08_DiceBounds.j0 1000 l ((t : Int) == (a : Int)) (a : Int) = _
      rw [e]
      exact bounds_j0 l a 1000 (by omega) (by omega)

end Go.Proofs.Ytccjdefhieilpaa.Pure
