/-
 What the law VaultPlays needs of Crc (what it does not use is left out by a program of this session, wip/tools/dce.py).
-/
import Derived.Test.YtccjdefhieilpaaRBits
namespace Go.Proofs.Ytccjdefhieilpaa.Spec
def stepN (c : Nat) : Nat := if c % 2 = 1 then c / 2 ^^^ 3988292384 else c / 2
def steps : Nat → Nat → Nat
 | 0, c => c
 | n + 1, c => steps n (stepN c)
def byteN (c : Nat) (b : Int) : Nat := steps 8 (c ^^^ b.toNat)
def regN (c : Nat) (bs : List Int) : Nat := bs.foldl byteN c
def moreN (s : Nat) (bs : List Int) : Nat := regN (s ^^^ 4294967295) bs ^^^ 4294967295
def crcN (bs : List Int) : Nat := moreN 0 bs
theorem xor_lt32 {a b : Nat} (ha : a < 4294967296) (hb : b < 4294967296) : a ^^^ b < 4294967296 :=
 Nat.xor_lt_two_pow (n := 32) ha hb
theorem stepN_lt {c : Nat} (h : c < 4294967296) : stepN c < 4294967296 := by
 unfold stepN
 split
 ·exact xor_lt32 (by omega) (by decide)
 ·omega
theorem steps_lt : ∀ (n : Nat) {c : Nat}, c < 4294967296 → steps n c < 4294967296
 | 0, _, h => h
 | n + 1, _, h => steps_lt n (stepN_lt h)
theorem byteN_lt {c : Nat} {b : Int} (h : c < 4294967296) (hb : b < 256) : byteN c b < 4294967296 :=
 steps_lt 8 (xor_lt32 h (by omega))
theorem regN_lt : ∀ (bs : List Int) {c : Nat}, c < 4294967296 → (∀ x ∈ bs, 0 ≤ x ∧ x < 256) → regN c bs < 4294967296
 | [], _, h, _ => h
 | b :: bs, _, h, hb => regN_lt bs (byteN_lt h (hb b (List.mem_cons_self ..)).2) (fun x hx => hb x (List.mem_cons_of_mem _ hx))
theorem moreN_lt {s : Nat} {bs : List Int} (h : s < 4294967296) (hb : ∀ x ∈ bs, 0 ≤ x ∧ x < 256) : moreN s bs < 4294967296 :=
 xor_lt32 (regN_lt bs (xor_lt32 h (by decide)) hb) (by decide)
theorem step_prog (c : Nat) (h : c < 4294967296) :
  bits .xor .u32 ((c : Int) / 2) (bits .and .u32 3988292384 ((-(bits .and .u32 (c : Int) 1)) % 4294967296)) = (stepN c : Int) := by
 have e1 : bits .and .u32 (c : Int) 1 = ((c % 2 : Nat) : Int) := by
  have := u32_and_nat c 1 h (by decide)
  rw [nat_mask1] at this
  exact this
 have e2 : (c : Int) / 2 = ((c / 2 : Nat) : Int) := by omega
 rw [e1, e2]
 unfold stepN
 rcases Nat.mod_two_eq_zero_or_one c with h0 | h0
 ·rw [h0, if_neg (by decide)]
  have e3 : bits .and .u32 3988292384 ((-((0 : Nat) : Int)) % 4294967296) = ((0 : Nat) : Int) := by decide
  rw [e3, u32_xor_nat _ _ (by omega) (by decide), Nat.xor_zero]
 ·rw [h0, if_pos rfl]
  have e3 : bits .and .u32 3988292384 ((-((1 : Nat) : Int)) % 4294967296) = ((3988292384 : Nat) : Int) := by decide
  rw [e3, u32_xor_nat _ _ (by omega) (by decide)]
theorem step_ref (c : Nat) (h : c < 4294967296) :
  (if Int.tmod (c : Int) 2 = 1 then bits .xor .u32 ((Int.tdiv (c : Int) 2) % 4294967296) 3988292384 else (Int.tdiv (c : Int) 2) % 4294967296) = (stepN c : Int) := by
 have e2 : Int.tdiv (c : Int) 2 % 4294967296 = ((c / 2 : Nat) : Int) := by rw [Int.tdiv_eq_ediv_of_nonneg (by omega)]; omega
 have e1 : Int.tmod (c : Int) 2 = ((c % 2 : Nat) : Int) := by rw [Int.tmod_eq_emod_of_nonneg (by omega)]; omega
 rw [e1, e2]
 unfold stepN
 rcases Nat.mod_two_eq_zero_or_one c with h0 | h0
 ·rw [h0, if_neg (by decide), if_neg (by decide)]
 ·rw [h0, if_pos (show (((1 : Nat) : Int) = 1) from rfl), if_pos rfl]
  exact u32_xor_nat _ _ (by omega) (by decide)
end Go.Proofs.Ytccjdefhieilpaa.Spec
