/-
 What the law VaultPlays needs of TakeSlim (what it does not use is left out by a program of this session, wip/tools/dce.py).
-/
import Derived.Test.YtccjdefhieilpaaRPutSlim
namespace Go.Proofs.Ytccjdefhieilpaa.Pure
open Go.RowKit Go.Proofs.Ytccjdefhieilpaa.PB Go.Proofs.YtccjdefhieilpaaW.PrintWords Go.Proofs.YtccjdefhieilpaaW.PrintLast Go.Proofs.YtccjdefhieilpaaW.PrintMore
theorem all_bytes {b : List Int} (h : Bytes b) : b.all (fun x => decide (0 ≤ x ∧ x < 256)) = true :=
 List.all_eq_true.2 fun x hx => decide_eq_true (h x hx)
theorem take_eq (k : Nat) (b : List Int) (a : Int) (h : Bytes b) : octet_Take.f k b a = some (Spec.take b a) := by
 unfold octet_Take.f
 rw [if_pos (all_bytes h)]
def low (b : List Int) (p : Nat) : Nat → Nat
 | 0 => 0
 | j + 1 => low b p j + (rd b ((p + j : Nat) : Int)).toNat % 128 * 128 ^ j
theorem low_lt (b : List Int) (p : Nat) : ∀ j, low b p j < 128 ^ j
 | 0 => by simp [low]
 | j + 1 => by
  have h1 := low_lt b p j
  have h2 : (rd b ((p + j : Nat) : Int)).toNat % 128 < 128 := Nat.mod_lt _ (by decide)
  have h3 : ((rd b ((p + j : Nat) : Int)).toNat % 128 + 1) * 128 ^ j ≤ 128 * 128 ^ j := Nat.mul_le_mul_right _ (by omega)
  rw [Nat.add_mul, Nat.one_mul] at h3
  rw [low, Nat.pow_succ]
  omega
theorem wrap_add (p j n : Nat) (h : p + j ≤ n) (hn : n ≤ 140737488351232) : wrap64 ((p : Int) + (j : Int)) = ((p + j : Nat) : Int) := by
 unfold wrap64
 omega
theorem horner (b : List Int) (hb : Bytes b) (hn : b.length ≤ 140737488351232) (p q : Nat) (hp : p + q < b.length) : ∀ (i X k : Nat), i ≤ q + 1 → X * 128 ^ i + low b p i < 18446744073709551616 → i + 1 ≤ k →
  horariumref03_Take.l1 k b (p : Int) (q : Int) (X : Int) ((i : Int) - 1) = some (((X * 128 ^ i + low b p i : Nat) : Int), ((p + q + 1 : Nat) : Int), 0)
 | 0, X, k, _, _, hk => by
  obtain ⟨k, rfl⟩ : ∃ m, k = m + 1 := ⟨k - 1, by omega⟩
  rw [horariumref03_Take.l1, if_neg (by omega), wrap_add p q b.length (by omega) hn, wrap_succ (i := p + q) (n := b.length) hp hn]
  simp [low]
 | i + 1, X, k, hi, hX, hk => by
  obtain ⟨k, rfl⟩ : ∃ m, k = m + 1 := ⟨k - 1, by omega⟩
  obtain ⟨c0, c1⟩ := hb.at (p + i)
  obtain ⟨c, hc⟩ := Int.eq_ofNat_of_zero_le c0
  have hc1 : c < 256 := by omega
  have hlow : low b p (i + 1) = low b p i + c % 128 * 128 ^ i := by rw [low, hc, Int.toNat_natCast]
  have hval : (128 * X + c % 128) * 128 ^ i + low b p i = X * 128 ^ (i + 1) + low b p (i + 1) := by
   rw [hlow, Nat.pow_succ, Nat.add_mul, Nat.mul_comm 128 X, Nat.mul_assoc, Nat.mul_comm 128 (128 ^ i)]
   omega
  have hpow : 1 ≤ 128 ^ i := Nat.pow_pos (by decide)
  have hsmall : 128 * X + c % 128 < 18446744073709551616 := by
   have : (128 * X + c % 128) * 1 ≤ (128 * X + c % 128) * 128 ^ i := Nat.mul_le_mul_left _ hpow
   omega
  have e1 : ((i + 1 : Nat) : Int) - 1 = (i : Int) := by omega
  have e2 : IntKind.u64.wrap (IntKind.u64.wrap (128 * (X : Int)) + IntKind.u64.wrap (Int.tmod (rd b ((p + i : Nat) : Int)) 128)) = ((128 * X + c % 128 : Nat) : Int) := by
   rw [hc, Int.tmod_eq_emod_of_nonneg (by omega), IntKind.wrap_u64, IntKind.wrap_u64, IntKind.wrap_u64]
   omega
  have e3 : wrap64 ((i : Int) - 1) = (i : Int) - 1 := by unfold wrap64; omega
  rw [e1, horariumref03_Take.l1, if_pos (by omega), wrap_add p i b.length (by omega) hn, if_pos (by omega), if_pos (by omega), e2, e3, horner b hb hn p q hp i (128 * X + c % 128) k (by omega) (by rw [hval]; exact hX) (by omega), hval]
def told (p : Nat) (r : Int × Int × Int) : Int × Int × Int := if r.2.2 = 0 then (r.1, (p : Int) + r.2.1, 0) else (0, 0, r.2.2)
theorem rtake_end (b : List Int) (hb : Bytes b) (hn : b.length ≤ 140737488351232) (p j k : Nat) (hp : p ≤ b.length) (hj : j ≤ 9) (hpj : p + j ≤ b.length) (hk : 20 ≤ k) (hc : p + j < b.length → rd b ((p + j : Nat) : Int) < 128) :
  horariumref03_Take.j2 k b (p : Int) (j : Int) = some (told p (Spec.takeL j (low b p j : Int) (b.drop (p + j)))) := by
 obtain ⟨k, rfl⟩ : ∃ m, k = m + 3 := ⟨k - 3, by omega⟩
 have hw := wrap_add p j b.length hpj hn
 have hl := low_lt b p j
 -- the last three questions
 have j4 : p + j < b.length → ¬ (j = 9 ∧ rd b ((p + j : Nat) : Int) > 1) → ∀ z, z = (decide (0 < j) && (rd b ((p + j : Nat) : Int) == 0)) →
   horariumref03_Take.j4 (k + 1) b (p : Int) (j : Int) z = some (told p (Spec.takeL j (low b p j : Int) (b.drop (p + j)))) := by
  intro hlt h91 z hz
  have hcc := hc hlt
  obtain ⟨c0, c1⟩ := hb.at (p + j)
  rw [drop_cons hlt, horariumref03_Take.j4]
  by_cases h0 : rd b ((p + j : Nat) : Int) = 0 ∧ 0 < j
  ·rw [hz, decide_eq_true h0.2, h0.1]
   rw [if_pos (by decide), Spec.takeL_zero j _ _ h0.2]
   rfl
  ·have hzf : z = false := by
    rw [hz, Bool.and_eq_false_iff]
    by_cases hj0 : 0 < j
    ·right
     exact beq_eq_false_iff_ne.2 fun h => h0 ⟨h, hj0⟩
    ·left
     exact decide_eq_false hj0
   obtain ⟨c, hcn⟩ := Int.eq_ofNat_of_zero_le c0
   rw [hzf, if_neg (by decide), Spec.takeL_end j _ _ _ (fun h => by have := h91; omega) hcc (fun h => by have := h0; omega)]
   have hlow : low b p (j + 1) = low b p j + c * 128 ^ j := by rw [low, hcn, Int.toNat_natCast, Nat.mod_eq_of_lt (by omega)]
   have hmax : low b p (j + 1) < 18446744073709551616 := by
    rw [hlow]
    exact (Spec.or_nat (low b p j) c j hl (by omega) hj (fun h => by have := h91; omega)).2.2.2
   have hh := horner b hb hn p j hlt (j + 1) 0 k (by omega) (by rw [Nat.zero_mul, Nat.zero_add]; exact hmax) (by omega)
   rw [show ((j + 1 : Nat) : Int) - 1 = (j : Int) from by omega, Nat.zero_mul, Nat.zero_add, hlow] at hh
   refine Eq.trans hh ?_
   unfold told
   rw [if_pos rfl]
   refine congrArg some (Prod.ext ?_ (Prod.ext ?_ rfl))
   ·show ((low b p j + c * 128 ^ j : Nat) : Int) = (low b p j : Int) + rd b ((p + j : Nat) : Int) * 128 ^ j
    rw [hcn, Int.natCast_add, Int.natCast_mul, Int.natCast_pow]
    rfl
   ·show ((p + j + 1 : Nat) : Int) = (p : Int) + ((j : Int) + 1)
    omega
 have j3 : ∀ z, z = decide (p + j < b.length ∧ j = 9 ∧ rd b ((p + j : Nat) : Int) > 1) →
   horariumref03_Take.j3 (k + 2) b (p : Int) (j : Int) z = some (told p (Spec.takeL j (low b p j : Int) (b.drop (p + j)))) := by
  intro z hz
  rw [horariumref03_Take.j3]
  by_cases h9 : p + j < b.length ∧ j = 9 ∧ rd b ((p + j : Nat) : Int) > 1
  ·rw [hz, decide_eq_true h9, if_pos rfl, drop_cons h9.1, Spec.takeL_stop j _ _ _ h9.2.1 h9.2.2]
   rfl
  ·rw [hz, decide_eq_false h9, if_neg (by decide), hw]
   by_cases he : p + j = b.length
   ·rw [if_pos (by omega), List.drop_eq_nil_of_le (by omega)]
    rfl
   ·rw [if_neg (by omega)]
    have hlt : p + j < b.length := by omega
    by_cases hj0 : 0 < j
    ·rw [if_pos (by omega), if_pos (by omega), if_pos (by omega)]
     exact j4 hlt (fun h => h9 ⟨hlt, h⟩) _ (by rw [decide_eq_true hj0, Bool.true_and])
    ·rw [if_neg (by omega)]
     exact j4 hlt (fun h => h9 ⟨hlt, h⟩) _ (by rw [decide_eq_false hj0, Bool.false_and])
 rw [horariumref03_Take.j2, if_neg (by omega), hw]
 by_cases h9 : j = 9
 ·rw [if_pos (by omega)]
  by_cases hlt : p + j < b.length
  ·rw [if_pos (by omega), if_pos (by omega)]
   refine j3 _ ?_
   rw [decide_eq_decide]
   exact ⟨fun h => ⟨hlt, h9, h⟩, fun h => h.2.2⟩
  ·rw [if_neg (by omega)]
   exact j3 _ (decide_eq_false fun h => hlt h.1).symm
 ·rw [if_neg (by omega)]
  exact j3 _ (decide_eq_false fun h => h9 h.2.1).symm
theorem rtake_l0 (b : List Int) (hb : Bytes b) (hn : b.length ≤ 140737488351232) (p : Nat) (hp : p ≤ b.length) (d : Nat) : ∀ (j k : Nat), j + d = 9 → p + j ≤ b.length → d + 22 ≤ k →
  horariumref03_Take.l0 k b (p : Int) (j : Int) = some (told p (Spec.takeL j (low b p j : Int) (b.drop (p + j)))) := by
 induction d with
 | zero =>
  intro j k hj hpj hk
  obtain rfl : j = 9 := by omega
  obtain ⟨k, rfl⟩ : ∃ m, k = m + 1 := ⟨k - 1, by omega⟩
  have hw := wrap_add p 9 b.length hpj hn
  rw [horariumref03_Take.l0, hw]
  by_cases hlt : p + 9 < b.length
  ·rw [if_pos (by omega), if_pos (by decide), if_pos (by omega)]
   by_cases h128 : rd b ((p + 9 : Nat) : Int) ≥ 128
   ·rw [if_pos h128, show wrap64 (((9 : Nat) : Int) + 1) = 10 from by decide +kernel]
    obtain ⟨k, rfl⟩ : ∃ m, k = m + 1 := ⟨k - 1, by omega⟩
    have h10 : horariumref03_Take.j2 k b (p : Int) 10 = some (0, 0, 3) := by
     obtain ⟨k, rfl⟩ : ∃ m, k = m + 2 := ⟨k - 2, by omega⟩
     rw [horariumref03_Take.j2, if_pos rfl, horariumref03_Take.j3, if_pos rfl]
    rw [horariumref03_Take.l0, drop_cons hlt, Spec.takeL_stop 9 _ _ _ rfl (by omega)]
    split
    ·rw [if_neg (by decide)]
     exact h10
    ·exact h10
   ·rw [if_neg h128]
    exact rtake_end b hb hn p 9 k hp (by omega) hpj (by omega) (fun _ => by omega)
  ·rw [if_neg (by omega)]
   exact rtake_end b hb hn p 9 k hp (by omega) hpj (by omega) (fun h => absurd h hlt)
 | succ d ih =>
  intro j k hj hpj hk
  obtain ⟨k, rfl⟩ : ∃ m, k = m + 1 := ⟨k - 1, by omega⟩
  have hw := wrap_add p j b.length hpj hn
  rw [horariumref03_Take.l0, hw]
  by_cases hlt : p + j < b.length
  ·rw [if_pos (by omega), if_pos (by omega), if_pos (by omega)]
   by_cases h128 : rd b ((p + j : Nat) : Int) ≥ 128
   ·obtain ⟨c0, c1⟩ := hb.at (p + j)
    obtain ⟨c, hc⟩ := Int.eq_ofNat_of_zero_le c0
    rw [if_pos h128, wrap_succ (i := j) (n := 10) (by omega) (by decide), ih (j + 1) k (by omega) (by omega) (by omega), drop_cons hlt, Spec.takeL_more j _ _ _ (by omega) h128]
    have hlow : (low b p (j + 1) : Int) = (low b p j : Int) + (rd b ((p + j : Nat) : Int) - 128) * 128 ^ j := by
     rw [low, hc, Int.toNat_natCast, Int.natCast_add, Int.natCast_mul, Int.natCast_pow, show c % 128 = c - 128 from by omega, show ((c - 128 : Nat) : Int) = (c : Int) - 128 from by omega]
     rfl
    rw [hlow]
    rfl
   ·rw [if_neg h128]
    exact rtake_end b hb hn p j k hp (by omega) hpj (by omega) (fun _ => by omega)
  ·rw [if_neg (by omega)]
   exact rtake_end b hb hn p j k hp (by omega) hpj (by omega) (fun h => absurd h hlt)
theorem rtake_eq (k : Nat) (b : List Int) (a : Int) (hb : Bytes b) (hn : b.length ≤ 140737488351232) (hk : 40 ≤ k) : horariumref03_Take.f k b a = some (Spec.take b a) := by
 obtain ⟨k, rfl⟩ : ∃ m, k = m + 1 := ⟨k - 1, by omega⟩
 unfold horariumref03_Take.f Spec.take
 by_cases h0 : a < 0
 ·rw [if_pos h0, horariumref03_Take.j0, if_pos rfl, if_pos (.inl h0)]
 ·rw [if_neg h0]
  by_cases h1 : a > b.length
  ·rw [decide_eq_true h1, horariumref03_Take.j0, if_pos rfl, if_pos (.inr h1)]
  ·obtain ⟨p, rfl⟩ := Int.eq_ofNat_of_zero_le (Int.not_lt.1 h0)
   rw [decide_eq_false h1, horariumref03_Take.j0, if_neg (by decide), if_neg (by omega)]
   have := rtake_l0 b hb hn p (by omega) 9 0 k rfl (by omega) (by omega)
   exact this
end Go.Proofs.Ytccjdefhieilpaa.Pure
