/-
  few: it answers, and what it lets in has few entries.
-/
import Derived.Test.YtccjdefhieilpaaPLx2
import Derived.Test.YtccjdefhieilpaaPLx4
import Derived.Test.YtccjdefhieilpaaLogPure
namespace Go.Proofs.Ytccjdefhieilpaa.Pure
open Go.RowKit Go.Proofs.Ytccjdefhieilpaa.PB Go.Proofs.Ytccjdefhieilpaa.PL Go.Proofs.YtccjdefhieilpaaW.PrintWords Go.Proofs.YtccjdefhieilpaaW.PrintLast Go.Proofs.YtccjdefhieilpaaW.PrintMore

theorem mn_bounds (n : Nat) : 0 ≤ mn (n : Int) 130000 ∧ mn (n : Int) 130000 ≤ 130000 := by
  unfold mn
  split <;> omega
theorem wrap_small (x : Int) (h0 : 0 ≤ x) (h1 : x ≤ 1000000) : wrap64 x = x := by
  unfold wrap64
  omega
theorem few_end (l : List S68) (n : Int) : ∃ b, (if (l.length : Int) ≤ 40 then (some (decide (n ≤ 130000))) else (some false)) = some b ∧ (b = true → l.length ≤ 40) := by
  by_cases h : (l.length : Int) ≤ 40
  · exact ⟨_, if_pos h, fun _ => by omega⟩
  · exact ⟨false, if_neg h, fun hb => by cases hb⟩
theorem few_loop (l : List S68) (hn : l.length ≤ 9223372036854775807) (d : Nat) : ∀ (i k : Nat) (n : Int), i + d = l.length → 0 ≤ n → n ≤ 260000 → d + 1 ≤ k → ∃ b, horariumlaw47_few.l0 k l n (i : Int) = some b ∧ (b = true → l.length ≤ 40) := by
  induction d with
  | zero =>
    intro i k n hi h0 h1 hk
    obtain ⟨k, rfl⟩ : ∃ j, k = j + 1 := ⟨k - 1, by omega⟩
    rw [horariumlaw47_few.l0, if_neg (by omega)]
    exact few_end l n
  | succ d ih =>
    intro i k n hi h0 h1 hk
    obtain ⟨k, rfl⟩ : ∃ j, k = j + 1 := ⟨k - 1, by omega⟩
    rw [horariumlaw47_few.l0, if_pos (by omega)]
    by_cases hn' : n ≤ 130000
    · have hm := mn_bounds ((rd_T68 l (i : Int)).f1).length
      have hw : wrap64 ((i : Int) + 1) = ((i + 1 : Nat) : Int) := by unfold wrap64; omega
      rw [if_pos hn', if_pos (by omega), hw]
      generalize mn (((rd_T68 l (i : Int)).f1).length : Int) 130000 = z at *
      rw [wrap_small (n + z) (by omega) (by omega)]
      exact ih (i + 1) k (n + z) (by omega) (by omega) (by omega) (by omega)
    · rw [if_neg hn']
      exact few_end l n
theorem few_some (k : Nat) (l : List S68) (hn : l.length ≤ 9223372036854775807) (hk : l.length + 1 ≤ k) : ∃ b, horariumlaw47_few.f k l = some b ∧ (b = true → l.length ≤ 40) :=
  few_loop l hn l.length 0 k 0 (by omega) (by omega) (by omega) (by omega)
end Go.Proofs.Ytccjdefhieilpaa.Pure
