/-
 What the law VaultPlays needs of Bits (what it does not use is left out by a program of this session, wip/tools/dce.py).
-/
import Derived.Laws.BitsAllLaws
import Derived.Laws.Bits64
namespace Go.Proofs.Ytccjdefhieilpaa.Spec
theorem pow128 (j : Nat) : (128 : Nat) ^ j = 2 ^ (7 * j) := by rw [Nat.pow_mul]
theorem pow_le8 (j : Nat) (h : j ≤ 8) : (2 : Nat) ^ (7 * j) ≤ 72057594037927936 := by
 have : (2 : Nat) ^ (7 * j) ≤ 2 ^ 56 := Nat.pow_le_pow_right (by decide) (by omega)
 simpa using this
theorem or_nat (a d j : Nat) (h1 : a < 128 ^ j) (hd : d < 128) (hj : j ≤ 9) (h9 : j = 9 → d ≤ 1) :
  d * 2 ^ (7 * j) < 18446744073709551616 ∧ (a ||| d * 2 ^ (7 * j)) = a + d * 128 ^ j ∧ a + d * 128 ^ j < 128 ^ (j + 1) ∧ a + d * 128 ^ j < 18446744073709551616 := by
 have hp := pow128 j
 have hlt : a + d * 2 ^ (7 * j) < (d + 1) * 2 ^ (7 * j) := by rw [Nat.add_mul, Nat.one_mul]; omega
 have hle : (d + 1) * 2 ^ (7 * j) ≤ 128 * 2 ^ (7 * j) := Nat.mul_le_mul_right _ (by omega)
 have hb : (d + 1) * 2 ^ (7 * j) ≤ 18446744073709551616 := by
  by_cases e : j = 9
  ·have := h9 e
   subst e
   have : (d + 1) * 2 ^ 63 ≤ 2 * 2 ^ 63 := Nat.mul_le_mul_right _ (by omega)
   simpa using this
  ·have := pow_le8 j (by omega)
   exact Nat.le_trans hle (by omega)
 rw [hp]
 refine ⟨by omega, ?_, by rw [Nat.pow_succ, hp]; omega, by omega⟩
 rw [Nat.or_comm, Nat.add_comm]
 exact nat_join (7 * j) _ _ (by simp) (by omega)
theorem or_step (acc d : Int) (j : Nat) (h0 : 0 ≤ acc) (h1 : acc < 128 ^ j) (hd0 : 0 ≤ d) (hd : d < 128) (hj : j ≤ 9) (h9 : j = 9 → d ≤ 1) :
  bits .or .u64 acc (IntKind.u64.wrap (d * 2 ^ (7 * j))) = acc + d * 128 ^ j ∧ acc + d * 128 ^ j < 128 ^ (j + 1) ∧ 0 ≤ acc + d * 128 ^ j ∧ acc + d * 128 ^ j < 18446744073709551616 := by
 obtain ⟨a, rfl⟩ := Int.eq_ofNat_of_zero_le h0
 obtain ⟨e, rfl⟩ := Int.eq_ofNat_of_zero_le hd0
 obtain ⟨k1, k2, k3, k4⟩ := or_nat a e j (by exact_mod_cast h1) (by omega) hj (by omega)
 have ha : a < 18446744073709551616 := by omega
 have hw : IntKind.u64.wrap ((e : Int) * 2 ^ (7 * j)) = ((e * 2 ^ (7 * j) : Nat) : Int) := by
  rw [IntKind.wrap_u64]
  have hc : ((e : Int) * 2 ^ (7 * j)) = ((e * 2 ^ (7 * j) : Nat) : Int) := by rw [Int.natCast_mul, Int.natCast_pow]; rfl
  rw [hc]
  omega
 rw [hw, u64_or_nat a _ ha k1, k2]
 have hc : ((a + e * 128 ^ j : Nat) : Int) = (a : Int) + (e : Int) * 128 ^ j := by rw [Int.natCast_add, Int.natCast_mul, Int.natCast_pow]; rfl
 have h128 : ((128 ^ (j + 1) : Nat) : Int) = 128 ^ (j + 1) := by rw [Int.natCast_pow]; rfl
 rw [← hc, ← h128]
 exact ⟨rfl, Int.ofNat_lt.2 k3, Int.natCast_nonneg _, Int.ofNat_lt.2 k4⟩
end Go.Proofs.Ytccjdefhieilpaa.Spec
