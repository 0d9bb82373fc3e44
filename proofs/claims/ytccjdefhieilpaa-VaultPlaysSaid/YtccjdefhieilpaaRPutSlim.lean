/-
 What the law VaultPlays needs of PutSlim (what it does not use is left out by a program of this session, wip/tools/dce.py).
-/
import Derived.Test.YtccjdefhieilpaaRSumSlim
import Derived.Test.YtccjdefhieilpaaROct
import Derived.OpenShut
namespace Go.Proofs.Ytccjdefhieilpaa.Pure
open Go.RowKit Go.Proofs.Ytccjdefhieilpaa.PB Go.Proofs.YtccjdefhieilpaaW.PrintWords Go.Proofs.YtccjdefhieilpaaW.PrintLast Go.Proofs.YtccjdefhieilpaaW.PrintMore
theorem or128 : ∀ x, x < 256 → x ||| 128 = x % 128 + 128 := by decide +kernel
theorem put_l0 (f : Nat) : ∀ (j n : Nat) (acc : List Int) (k : Nat), f + j = 9 → n < Spec.lim j → acc.length + f ≤ 1000 → f + 1 ≤ k →
  octet_Put.l0 k (n : Int) acc = some (acc ++ Spec.putF f n) ∧ horariumref03_Put.l0 k (n : Int) acc = some (acc ++ Spec.putF f n) := by
 induction f with
 | zero =>
  intro j n acc k hj hn ha hk
  obtain ⟨k, rfl⟩ : ∃ m, k = m + 1 := ⟨k - 1, by omega⟩
  obtain rfl : j = 9 := by omega
  rw [Spec.lim9] at hn
  have e : (n : Int) % 256 = (n : Int) := by omega
  rw [octet_Put.l0, if_neg (by omega), if_pos (by omega), horariumref03_Put.l0, if_neg (by omega), if_pos (by omega), e]
  exact ⟨rfl, rfl⟩
 | succ f ih =>
  intro j n acc k hj hn ha hk
  obtain ⟨k, rfl⟩ : ∃ m, k = m + 1 := ⟨k - 1, by omega⟩
  rw [octet_Put.l0, horariumref03_Put.l0, Spec.putF]
  by_cases h : n < 128
  ·have e : (n : Int) % 256 = (n : Int) := by omega
   rw [if_neg (show ¬ ((n : Int) ≥ 128) from by omega), if_neg (show ¬ ((n : Int) ≥ 128) from by omega), if_pos (show acc.length < 140737488355328 from by omega), if_pos h, e]
   exact ⟨rfl, rfl⟩
  ·have hl : n < 18446744073709551616 := by
    have h1 : Spec.lim j ≤ 18446744073709551616 := by
     rw [← Spec.lim0]
     unfold Spec.lim
     exact Nat.pow_le_pow_right (by decide) (by omega)
    omega
   have e1 : bits .or .u8 ((n : Int) % 256) 128 = ((n % 128 + 128 : Nat) : Int) := by
    rw [show (n : Int) % 256 = ((n % 256 : Nat) : Int) from by omega]
    have := u8_or_nat (n % 256) 128 (by omega) (by decide)
    rw [or128 _ (by omega)] at this
    rw [show n % 128 = n % 256 % 128 from by omega]
    exact this
   have e2 : IntKind.u64.wrap (Int.tdiv (n : Int) 128) = ((n / 128 : Nat) : Int) := by
    rw [Int.tdiv_eq_ediv_of_nonneg (by omega), IntKind.wrap_u64]; omega
   have e3 : IntKind.u64.wrap (Int.tmod (n : Int) 128 + 128) % 256 = ((n % 128 + 128 : Nat) : Int) := by
    rw [Int.tmod_eq_emod_of_nonneg (by omega), IntKind.wrap_u64]; omega
   have e4 : (n : Int) / 128 = ((n / 128 : Nat) : Int) := by omega
   rw [if_pos (show (n : Int) ≥ 128 from by omega), if_pos (show (n : Int) ≥ 128 from by omega), if_pos (show acc.length < 140737488355328 from by omega), if_pos (show acc.length < 140737488355328 from by omega), if_neg h, e1, e2, e3, e4]
   obtain ⟨i1, i2⟩ := ih (j + 1) (n / 128) (acc ++ [((n % 128 + 128 : Nat) : Int)]) k (by omega) (by rw [Spec.lim_step j (by omega)] at hn; omega) (by simp only [List.length_append, List.length_cons, List.length_nil]; omega) (by omega)
   rw [i1, i2, List.append_assoc]
   exact ⟨rfl, rfl⟩
theorem put_eq (k n : Nat) (h : n < 18446744073709551616) (hk : 10 ≤ k) : octet_Put.f k (n : Int) = some (Spec.putN n) :=
 (put_l0 9 0 n [] k rfl (by rw [Spec.lim0]; exact h) (by simp) (by omega)).1
theorem rput_eq (k n : Nat) (h : n < 18446744073709551616) (hk : 10 ≤ k) : horariumref03_Put.f k (n : Int) = some (Spec.putN n) :=
 (put_l0 9 0 n [] k rfl (by rw [Spec.lim0]; exact h) (by simp) (by omega)).2
end Go.Proofs.Ytccjdefhieilpaa.Pure
