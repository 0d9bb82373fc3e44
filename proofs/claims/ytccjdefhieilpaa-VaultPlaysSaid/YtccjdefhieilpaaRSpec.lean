/-
 What the law VaultPlays needs of Spec (what it does not use is left out by a program of this session, wip/tools/dce.py).
-/
namespace Go.Proofs.Ytccjdefhieilpaa.Spec
def takeL : Nat → Int → List Int → Int × Int × Int
 | _, _, [] => (0, 0, 4)
 | i, acc, c :: rest =>
  if i = 9 ∧ c > 1 then (0, 0, 3)
  else if c ≥ 128 then takeL (i + 1) (acc + (c - 128) * 128 ^ i) rest
  else if c = 0 ∧ 0 < i then (0, 0, 3)
  else (acc + c * 128 ^ i, (i : Int) + 1, 0)
def take (b : List Int) (a : Int) : Int × Int × Int :=
 if a < 0 ∨ a > b.length then (0, 0, 2)
 else
  let r := takeL 0 0 (b.drop a.toNat)
  if r.2.2 = 0 then (r.1, a + r.2.1, 0) else (0, 0, r.2.2)
theorem take_in (b : List Int) (n : Nat) (h : n ≤ b.length) {r : Int × Int × Int} (hr : takeL 0 0 (b.drop n) = r) :
  take b (n : Int) = if r.2.2 = 0 then (r.1, (n : Int) + r.2.1, 0) else (0, 0, r.2.2) := by
 unfold take
 rw [if_neg (by omega), Int.toNat_natCast, hr]
theorem takeL_stop (j : Nat) (acc : Int) (c : Int) (rest : List Int) (h9 : j = 9) (h : c > 1) : takeL j acc (c :: rest) = (0, 0, 3) := by
 rw [takeL, if_pos ⟨h9, h⟩]
theorem takeL_more (j : Nat) (acc c : Int) (rest : List Int) (h9 : j ≠ 9) (h : c ≥ 128) : takeL j acc (c :: rest) = takeL (j + 1) (acc + (c - 128) * 128 ^ j) rest := by
 rw [takeL, if_neg (fun h' => h9 h'.1), if_pos h]
theorem takeL_zero (j : Nat) (acc : Int) (rest : List Int) (h : 0 < j) : takeL j acc (0 :: rest) = (0, 0, 3) := by
 rw [takeL, if_neg (fun h' => absurd h'.2 (by omega)), if_neg (by omega), if_pos ⟨rfl, h⟩]
theorem takeL_end (j : Nat) (acc c : Int) (rest : List Int) (h9 : j = 9 → c ≤ 1) (h : c < 128) (h0 : c = 0 → j = 0) : takeL j acc (c :: rest) = (acc + c * 128 ^ j, (j : Int) + 1, 0) := by
 rw [takeL, if_neg (fun h' => by have := h9 h'.1; omega), if_neg (by omega), if_neg (fun h' => by have := h0 h'.1; omega)]
end Go.Proofs.Ytccjdefhieilpaa.Spec
