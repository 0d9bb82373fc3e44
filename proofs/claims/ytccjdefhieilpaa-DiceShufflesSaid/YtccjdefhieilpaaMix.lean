/-
  Stirring a number and finding it again, over natural numbers below 2^64. No program in it.
-/
import Derived.Test.YtccjdefhieilpaaBits
namespace Go.Proofs.Ytccjdefhieilpaa.Spec

def mixN (n : Nat) : Nat :=
  let a := (n ^^^ n / 4294967296) * 11400714819323198485 % 18446744073709551616
  let b := (a ^^^ a / 536870912) * 15485907386658061715 % 18446744073709551616
  b ^^^ b / 4294967296
/-- What 'lift' does in its two rounds. -/
def liftN (s n : Nat) : Nat := n ^^^ (n ^^^ n / s) / s
def unmixN (n : Nat) : Nat :=
  let a := liftN 4294967296 n * 14982988110149298331 % 18446744073709551616
  let b := liftN 536870912 a * 17428512612931826493 % 18446744073709551616
  liftN 4294967296 b

theorem xor_lt64 {a b : Nat} (ha : a < 18446744073709551616) (hb : b < 18446744073709551616) : a ^^^ b < 18446744073709551616 :=
  Nat.xor_lt_two_pow (n := 64) ha hb
theorem div32 (a b : Nat) : (a ^^^ b) / 4294967296 = a / 4294967296 ^^^ b / 4294967296 := Nat.xor_div_two_pow (n := 32)
theorem div29 (a b : Nat) : (a ^^^ b) / 536870912 = a / 536870912 ^^^ b / 536870912 := Nat.xor_div_two_pow (n := 29)
theorem xor_cancel (a b : Nat) : a ^^^ (a ^^^ b) = b := by rw [← Nat.xor_assoc, Nat.xor_self, Nat.zero_xor]

theorem lift32 (n : Nat) (h : n < 18446744073709551616) : liftN 4294967296 n = n ^^^ n / 4294967296 := by
  unfold liftN
  rw [div32, Nat.div_div_eq_div_mul, Nat.div_eq_of_lt (b := 4294967296 * 4294967296) (by omega), Nat.xor_zero]
theorem lift29 (n : Nat) : liftN 536870912 n = n ^^^ n / 536870912 ^^^ n / 536870912 / 536870912 := by
  unfold liftN
  rw [div29, ← Nat.xor_assoc]
theorem lift_lt {s n : Nat} (h : n < 18446744073709551616) : liftN s n < 18446744073709551616 := by
  unfold liftN
  exact xor_lt64 h (Nat.lt_of_le_of_lt (Nat.div_le_self _ _) (xor_lt64 h (Nat.lt_of_le_of_lt (Nat.div_le_self _ _) h)))
theorem xs_lt {s n : Nat} (h : n < 18446744073709551616) : n ^^^ n / s < 18446744073709551616 :=
  xor_lt64 h (Nat.lt_of_le_of_lt (Nat.div_le_self _ _) h)

/-- Shifted by 32: its own inverse. -/
theorem xs32_xs32 (n : Nat) (h : n < 18446744073709551616) : (n ^^^ n / 4294967296) ^^^ (n ^^^ n / 4294967296) / 4294967296 = n := by
  rw [div32, Nat.div_div_eq_div_mul, Nat.div_eq_of_lt (b := 4294967296 * 4294967296) (by omega), Nat.xor_zero, Nat.xor_assoc, Nat.xor_self, Nat.xor_zero]
theorem lift29_xs29 (n : Nat) (h : n < 18446744073709551616) : liftN 536870912 (n ^^^ n / 536870912) = n := by
  rw [lift29, div29, div29]
  have h3 : n / 536870912 / 536870912 / 536870912 = 0 := by omega
  rw [h3, Nat.xor_zero]
  generalize n / 536870912 / 536870912 = c
  generalize n / 536870912 = b
  rw [Nat.xor_assoc n b, xor_cancel b c, Nat.xor_assoc, Nat.xor_self, Nat.xor_zero]
theorem xs29_lift29 (n : Nat) (h : n < 18446744073709551616) : liftN 536870912 n ^^^ liftN 536870912 n / 536870912 = n := by
  rw [lift29, div29, div29]
  have h3 : n / 536870912 / 536870912 / 536870912 = 0 := by omega
  rw [h3, Nat.xor_zero]
  generalize n / 536870912 / 536870912 = c
  generalize n / 536870912 = b
  rw [Nat.xor_assoc n b c, Nat.xor_assoc, Nat.xor_self, Nat.xor_zero]
theorem mul_back (a c d : Nat) (ha : a < 18446744073709551616) (h : c * d % 18446744073709551616 = 1) : a * c % 18446744073709551616 * d % 18446744073709551616 = a := by
  rw [Nat.mod_mul_mod, Nat.mul_assoc, Nat.mul_mod, h, Nat.mul_one, Nat.mod_mod, Nat.mod_eq_of_lt ha]

theorem unmix_mix (n : Nat) (h : n < 18446744073709551616) : unmixN (mixN n) = n := by
  have hm : ∀ x, x % 18446744073709551616 < 18446744073709551616 := fun x => Nat.mod_lt _ (by decide)
  unfold unmixN mixN
  simp only []
  rw [lift32 _ (xs_lt (hm _)), xs32_xs32 _ (hm _), mul_back _ 15485907386658061715 14982988110149298331 (xs_lt (hm _)) (by decide), lift29_xs29 _ (hm _),
    mul_back _ 11400714819323198485 17428512612931826493 (xs_lt h) (by decide), lift32 _ (xs_lt h), xs32_xs32 _ h]
theorem mix_unmix (n : Nat) (h : n < 18446744073709551616) : mixN (unmixN n) = n := by
  have hm : ∀ x, x % 18446744073709551616 < 18446744073709551616 := fun x => Nat.mod_lt _ (by decide)
  unfold unmixN mixN
  simp only []
  rw [lift32 _ (hm _), xs32_xs32 _ (hm _), mul_back _ 17428512612931826493 11400714819323198485 (lift_lt (hm _)) (by decide), xs29_lift29 _ (hm _),
    mul_back _ 14982988110149298331 15485907386658061715 (lift_lt h) (by decide), lift32 _ h, xs32_xs32 _ h]
theorem mixN_lt (n : Nat) : mixN n < 18446744073709551616 := by
  unfold mixN
  exact xs_lt (Nat.mod_lt _ (by decide))
theorem unmixN_lt (n : Nat) : unmixN n < 18446744073709551616 := by
  unfold unmixN
  exact lift_lt (Nat.mod_lt _ (by decide))

def digestN (s : Nat) (bs : List Int) : Nat := bs.foldl (fun n b => mixN (((n + b.toNat) % 18446744073709551616 + 1) % 18446744073709551616)) s

end Go.Proofs.Ytccjdefhieilpaa.Spec
