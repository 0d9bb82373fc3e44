/-
 What the law VaultPlays needs of Oct (what it does not use is left out by a program of this session, wip/tools/dce.py).
-/
import Derived.Test.YtccjdefhieilpaaRSpec
namespace Go.Proofs.Ytccjdefhieilpaa.Spec
def putF : Nat → Nat → List Int
 | 0, n => [(n : Int)]
 | f + 1, n => if n < 128 then [(n : Int)] else ((n % 128 + 128 : Nat) : Int) :: putF f (n / 128)
def putN (n : Nat) : List Int := putF 9 n
def lim (j : Nat) : Nat := 2 ^ (64 - 7 * j)
theorem lim0 : lim 0 = 18446744073709551616 := by unfold lim; decide
theorem lim9 : lim 9 = 2 := by unfold lim; decide
theorem lim_step (j : Nat) (h : j < 9) : lim j = 128 * lim (j + 1) := by
 unfold lim
 rw [show 64 - 7 * j = 7 + (64 - 7 * (j + 1)) from by omega, Nat.pow_add]
theorem lim_big (j : Nat) (h : j ≤ 8) : 256 ≤ lim j := by
 unfold lim
 have : (2 : Nat) ^ 8 ≤ 2 ^ (64 - 7 * j) := Nat.pow_le_pow_right (by decide) (by omega)
 exact this
theorem putF_bytes : ∀ (f j n : Nat), f + j = 9 → n < lim j → ∀ x ∈ putF f n, 0 ≤ x ∧ x < 256
 | 0, j, n, hj, hn, x, hx => by
  obtain rfl : j = 9 := by omega
  rw [lim9] at hn
  simp only [putF, List.mem_cons, List.not_mem_nil, or_false] at hx
  omega
 | f + 1, j, n, hj, hn, x, hx => by
  rw [putF] at hx
  split at hx
  ·simp only [List.mem_cons, List.not_mem_nil, or_false] at hx
   omega
  ·simp only [List.mem_cons] at hx
   rcases hx with rfl | hx
   ·omega
   ·exact putF_bytes f (j + 1) (n / 128) (by omega) (by rw [lim_step j (by omega)] at hn; omega) x hx
theorem putN_bytes (n : Nat) (h : n < 18446744073709551616) : ∀ x ∈ putN n, 0 ≤ x ∧ x < 256 := putF_bytes 9 0 n rfl (by rw [lim0]; exact h)
theorem putF_length : ∀ (f n : Nat), 1 ≤ (putF f n).length ∧ (putF f n).length ≤ f + 1
 | 0, n => by simp [putF]
 | f + 1, n => by
  rw [putF]
  split
  ·simp
  ·have := putF_length f (n / 128)
   simp only [List.length_cons]
   omega
theorem putN_length (n : Nat) : 1 ≤ (putN n).length ∧ (putN n).length ≤ 10 := putF_length 9 n
theorem takeL_put : ∀ (f j n : Nat) (acc : Int) (rest : List Int), f + j = 9 → n < lim j → (n = 0 → j = 0) →
  takeL j acc (putF f n ++ rest) = (acc + (n : Int) * 128 ^ j, ((j + (putF f n).length : Nat) : Int), 0)
 | 0, j, n, acc, rest, hj, hn, h0 => by
  obtain rfl : j = 9 := by omega
  rw [lim9] at hn
  show takeL 9 acc ((n : Int) :: rest) = _
  rw [takeL_end 9 acc n rest (fun _ => by omega) (by omega) (fun h => absurd (h0 (by omega)) (by decide))]
  rfl
 | f + 1, j, n, acc, rest, hj, hn, h0 => by
  rw [putF]
  split
  ·rename_i h
   show takeL j acc ((n : Int) :: rest) = _
   rw [takeL_end j acc n rest (fun _ => by omega) (by omega) (fun h => h0 (by omega))]
   rfl
  ·rename_i h
   show takeL j acc (((n % 128 + 128 : Nat) : Int) :: (putF f (n / 128) ++ rest)) = _
   rw [takeL_more j acc _ _ (by omega) (by omega), takeL_put f (j + 1) (n / 128) _ rest (by omega) (by rw [lim_step j (by omega)] at hn; omega) (fun h => by omega)]
   refine Prod.ext ?_ (Prod.ext ?_ rfl)
   ·show acc + (((n % 128 + 128 : Nat) : Int) - 128) * 128 ^ j + ((n / 128 : Nat) : Int) * 128 ^ (j + 1) = acc + (n : Int) * 128 ^ j
    have e1 : (((n % 128 + 128 : Nat) : Int) - 128) = ((n % 128 : Nat) : Int) := by omega
    have e2 : (n : Int) = ((n % 128 : Nat) : Int) + ((n / 128 : Nat) : Int) * 128 := by omega
    have e3 : ((n : Int)) * 128 ^ j = ((n % 128 : Nat) : Int) * 128 ^ j + ((n / 128 : Nat) : Int) * 128 ^ (j + 1) := by
     rw [Int.pow_succ]
     generalize ((128 : Int) ^ j) = p
     generalize ((n % 128 : Nat) : Int) = a at e2
     generalize ((n / 128 : Nat) : Int) = b at e2
     rw [e2, Int.add_mul, Int.mul_assoc, Int.mul_comm 128 p]
    rw [e1, e3, Int.add_assoc]
   ·show ((j + 1 + (putF f (n / 128)).length : Nat) : Int) = ((j + (putF f (n / 128)).length.succ : Nat) : Int)
    omega
theorem take_at {b : List Int} {n : Nat} (h : n ≤ b.length) {v m e : Int} (ht : takeL 0 0 (b.drop n) = (v, m, e)) : take b (n : Int) = if e = 0 then (v, (n : Int) + m, 0) else (0, 0, e) :=
 take_in b n h ht
theorem take_put (pre rest : List Int) (n : Nat) (h : n < 18446744073709551616) :
  take (pre ++ (putN n ++ rest)) (pre.length : Int) = ((n : Int), ((pre.length + (putN n).length : Nat) : Int), 0) := by
 have hd : (pre ++ (putN n ++ rest)).drop pre.length = putN n ++ rest := List.drop_left
 have ht := takeL_put 9 0 n 0 rest rfl (by rw [lim0]; exact h) (fun _ => rfl)
 have hl : pre.length ≤ (pre ++ (putN n ++ rest)).length := by rw [List.length_append]; omega
 rw [take_at hl ((congrArg (takeL 0 0) hd).trans ht), if_pos rfl]
 refine Prod.ext ?_ (Prod.ext ?_ rfl)
 ·show 0 + (n : Int) * 128 ^ 0 = (n : Int)
  rw [Int.pow_zero]; omega
 ·show (pre.length : Int) + ((0 + (putF 9 n).length : Nat) : Int) = ((pre.length + (putN n).length : Nat) : Int)
  unfold putN
  omega
theorem takeL_ok : ∀ (l : List Int) (j : Nat) (acc v m : Int), (∀ x ∈ l, 0 ≤ x ∧ x < 256) → j ≤ 9 → takeL j acc l = (v, m, 0) →
  ∃ n q : Nat, n < lim j ∧ (n = 0 → j = 0) ∧ v = acc + (n : Int) * 128 ^ j ∧ m = ((j + q : Nat) : Int) ∧ 1 ≤ q ∧ q ≤ l.length ∧ l.take q = putF (9 - j) n
 | [], j, acc, v, m, _, _, h => by simp [takeL] at h
 | c :: rest, j, acc, v, m, hb, hj, h => by
  obtain ⟨c0, c1⟩ := hb c (List.mem_cons_self ..)
  rw [takeL] at h
  split at h
  ·simp at h
  ·rename_i h9
   split at h
   ·rename_i h128
    have hj9 : j < 9 := by
     rcases Nat.lt_or_ge j 9 with h' | h'
     ·exact h'
     ·exact absurd ⟨by omega, by omega⟩ h9
    obtain ⟨n, q, hn, hn0, hv, hm, hq1, hq2, hl⟩ := takeL_ok rest (j + 1) _ v m (fun x hx => hb x (List.mem_cons_of_mem _ hx)) (by omega) h
    obtain ⟨d, hd⟩ := Int.eq_ofNat_of_zero_le (show 0 ≤ c - 128 by omega)
    have hnpos : n ≠ 0 := fun h0 => by have := hn0 h0; omega
    refine ⟨d + n * 128, q + 1, by rw [lim_step j hj9]; omega, fun h0 => by omega, ?_, by omega, by omega, by simp only [List.length_cons]; omega, ?_⟩
    ·rw [hv, hd, Int.pow_succ]
     have : ((d + n * 128 : Nat) : Int) = (d : Int) + (n : Int) * 128 := by omega
     rw [this]
     generalize ((128 : Int) ^ j) = p
     rw [Int.add_mul, Int.mul_assoc (n : Int), Int.mul_comm 128 p, Int.add_assoc]
    ·rw [List.take_succ_cons, hl, show 9 - j = (9 - (j + 1)) + 1 from by omega, putF, if_neg (by omega), show (d + n * 128) / 128 = n from by omega, show (d + n * 128) % 128 = d from by omega]
     congr 1
     omega
   ·rename_i h128
    split at h
    ·simp at h
    ·rename_i h0
     simp only [Prod.mk.injEq, and_true] at h
     obtain ⟨hv, hm⟩ := h
     obtain ⟨n, rfl⟩ := Int.eq_ofNat_of_zero_le c0
     refine ⟨n, 1, ?_, fun h' => ?_, hv.symm, by omega, by omega, by simp, ?_⟩
     ·rcases Nat.lt_or_ge j 9 with h' | h'
      ·have := lim_big j (by omega); omega
      ·obtain rfl : j = 9 := by omega
       rw [lim9]
       have : ¬ ((n : Int) > 1) := fun h' => h9 ⟨rfl, h'⟩
       omega
     ·have : ¬ 0 < j := fun h'' => h0 ⟨by omega, h''⟩
      omega
     ·rw [List.take_succ_cons, List.take_zero]
      rcases Nat.lt_or_ge j 9 with h' | h'
      ·rw [show 9 - j = (9 - (j + 1)) + 1 from by omega, putF, if_pos (by omega)]
      ·rw [show 9 - j = 0 from by omega, putF]
theorem take_cases (b : List Int) (a : Int) (hb : ∀ x ∈ b, 0 ≤ x ∧ x < 256) :
  (∃ e, e ≠ 0 ∧ take b a = (0, 0, e)) ∨ ∃ p n : Nat, a = (p : Int) ∧ n < 18446744073709551616 ∧ p + (putN n).length ≤ b.length ∧ take b a = ((n : Int), ((p + (putN n).length : Nat) : Int), 0) ∧ (b.drop p).take (putN n).length = putN n := by
 by_cases h : a < 0 ∨ a > b.length
 ·left
  refine ⟨2, by decide, ?_⟩
  unfold take
  rw [if_pos h]
 ·obtain ⟨p, rfl⟩ := Int.eq_ofNat_of_zero_le (show 0 ≤ a by omega)
  obtain ⟨r, hr⟩ : ∃ r, takeL 0 0 (b.drop p) = r := ⟨_, rfl⟩
  obtain ⟨v, m, e⟩ := r
  have ht := take_at (by omega) hr
  by_cases he : e = 0
  ·subst he
   right
   obtain ⟨n, q, hn, _, hv, hm, hq1, hq2, hl⟩ := takeL_ok _ 0 0 v m (fun x hx => hb x (List.mem_of_mem_drop hx)) (by decide) hr
   rw [lim0] at hn
   have hpq : (putN n).length = q := by
    show (putF 9 n).length = q
    rw [← show (b.drop p).take q = putF 9 n from hl, List.length_take]
    omega
   rw [List.length_drop] at hq2
   refine ⟨p, n, rfl, hn, by omega, ?_, by rw [hpq]; exact hl⟩
   rw [ht, if_pos rfl, hpq, hv, hm]
   refine Prod.ext ?_ (Prod.ext ?_ rfl)
   ·show 0 + (n : Int) * 128 ^ 0 = (n : Int)
    rw [Int.pow_zero]; omega
   ·show (p : Int) + ((0 + q : Nat) : Int) = ((p + q : Nat) : Int)
    omega
  ·left
   exact ⟨e, he, by rw [ht, if_neg he]⟩
end Go.Proofs.Ytccjdefhieilpaa.Spec
