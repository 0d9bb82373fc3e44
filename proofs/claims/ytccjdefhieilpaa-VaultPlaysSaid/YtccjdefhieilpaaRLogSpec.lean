/-
 What the law VaultPlays needs of LogSpec (what it does not use is left out by a program of this session, wip/tools/dce.py).
-/
import Derived.Test.YtccjdefhieilpaaRTakeSlim
import Derived.Test.YtccjdefhieilpaaRSealSlim
import Derived.Test.YtccjdefhieilpaaRCrc
namespace Go.Proofs.Ytccjdefhieilpaa.Spec
open Go.RowKit Go.Proofs.Ytccjdefhieilpaa.PB Go.Proofs.Ytccjdefhieilpaa.Pure Go.Proofs.YtccjdefhieilpaaW.PrintWords
def rightE (e : Int × List Int) : Prop := 1 ≤ e.1 ∧ e.1 ≤ 255 ∧ e.2.length ≤ 1048576
instance (e : Int × List Int) : Decidable (rightE e) := by unfold rightE; infer_instance
def bodyL (e : Int × List Int) : List Int := [231, e.1] ++ (putN e.2.length ++ e.2)
def frameL (e : Int × List Int) : List Int := sealL (bodyL e)
def framesL (l : List (Int × List Int)) : List Int := l.flatMap frameL
def sizeL (f : List Int) : Int × Int × Int :=
 if (0 < f.length ∧ rd f 0 ≠ 231) ∨ (1 < f.length ∧ rd f 1 = 0) then (0, 0, 3)
 else if f.length < 2 then (0, 0, 4)
 else if (take f 2).2.2 ≠ 0 then (0, 0, (take f 2).2.2)
 else if (take f 2).1 > 1048576 then (0, 0, 3)
 else ((take f 2).1, (take f 2).2.1, 0)
def nextL (f : List Int) : (Int × List Int) × Nat × Int :=
 if (sizeL f).2.2 ≠ 0 then ((0, []), 0, (sizeL f).2.2)
 else if f.length < (sizeL f).2.1.toNat + (sizeL f).1.toNat + 4 then ((0, []), 0, 4)
 else if (openL (f.take ((sizeL f).2.1.toNat + (sizeL f).1.toNat + 4))).2 ≠ 0 then ((0, []), 0, 27)
 else ((rd f 1, (f.drop (sizeL f).2.1.toNat).take (sizeL f).1.toNat), (sizeL f).2.1.toNat + (sizeL f).1.toNat + 4, 0)
def next (b : List Int) (a : Int) : (Int × List Int) × Int × Int :=
 if a < 0 ∨ a > b.length then ((0, []), 0, 2)
 else if (nextL (b.drop a.toNat)).2.2 ≠ 0 then ((0, []), 0, (nextL (b.drop a.toNat)).2.2)
 else ((nextL (b.drop a.toNat)).1, a + ((nextL (b.drop a.toNat)).2.1 : Nat), 0)
def readL : Nat → List Int → List (Int × List Int) × Nat
 | 0, _ => ([], 0)
 | k + 1, f => if (nextL f).2.2 ≠ 0 then ([], 0) else ((nextL f).1 :: (readL k (f.drop (nextL f).2.1)).1, (nextL f).2.1 + (readL k (f.drop (nextL f).2.1)).2)
theorem rd_cons0 (x : Int) (r : List Int) : rd (x :: r) 0 = x := rfl
theorem bodyL_length (e : Int × List Int) : (bodyL e).length = 2 + (putN e.2.length).length + e.2.length := by
 unfold bodyL
 rw [List.length_append, List.length_append]
 simp only [List.length_cons, List.length_nil]
 omega
theorem frameL_length (e : Int × List Int) : (frameL e).length = 2 + (putN e.2.length).length + e.2.length + 4 := by
 unfold frameL
 rw [sealL_length, bodyL_length]
theorem frameL_pos (e : Int × List Int) : 7 ≤ (frameL e).length := by
 rw [frameL_length]
 have := putN_length e.2.length
 omega
theorem bodyL_bytes {e : Int × List Int} (h : rightE e) (hb : Bytes e.2) : Bytes (bodyL e) := by
 obtain ⟨h1, h2, h3⟩ := h
 refine Bytes.append (fun x hx => ?_) (Bytes.append (putN_bytes _ (by omega)) hb)
 simp only [List.mem_cons, List.not_mem_nil, or_false] at hx
 rcases hx with rfl | rfl <;> omega
theorem frameL_bytes {e : Int × List Int} (h : rightE e) (hb : Bytes e.2) : Bytes (frameL e) := sealL_bytes (bodyL_bytes h hb)
theorem takeL_err : ∀ (l : List Int) (j : Nat) (acc : Int), (takeL j acc l).2.2 = 0 ∨ ((takeL j acc l).2.2 = 3 ∨ (takeL j acc l).2.2 = 4)
 | [], _, _ => .inr (.inr rfl)
 | c :: rest, j, acc => by
  rw [takeL]
  split
  ·exact .inr (.inl rfl)
  ·split
   ·exact takeL_err rest _ _
   ·split
    ·exact .inr (.inl rfl)
    ·exact .inl rfl
theorem take_drop (b : List Int) (p j : Nat) (hj : p + j ≤ b.length) :
  take b ((p + j : Nat) : Int) = if (take (b.drop p) (j : Int)).2.2 = 0 then ((take (b.drop p) (j : Int)).1, (p : Int) + (take (b.drop p) (j : Int)).2.1, 0) else (0, 0, (take (b.drop p) (j : Int)).2.2) := by
 have e1 := take_in b (p + j) hj rfl
 have e2 := take_in (b.drop p) j (by rw [List.length_drop]; omega) rfl
 rw [List.drop_drop] at e2
 rw [e1, e2]
 by_cases h : (takeL 0 0 (b.drop (p + j))).2.2 = 0
 ·rw [if_pos h, if_pos h]
  simp only [if_true]
  refine Prod.ext rfl (Prod.ext ?_ rfl)
  show ((p + j : Nat) : Int) + _ = (p : Int) + ((j : Int) + _)
  omega
 ·rw [if_neg h, if_neg h]
  simp only [if_neg h]
theorem size_cases (f : List Int) (hb : Bytes f) :
  (∃ e, (e = 3 ∨ e = 4) ∧ sizeL f = (0, 0, e)) ∨
  ∃ n : Nat, n ≤ 1048576 ∧ 2 + (putN n).length ≤ f.length ∧ rd f 0 = 231 ∧ rd f 1 ≠ 0 ∧ (f.drop 2).take (putN n).length = putN n ∧ take f 2 = ((n : Int), ((2 + (putN n).length : Nat) : Int), 0) ∧ sizeL f = ((n : Int), ((2 + (putN n).length : Nat) : Int), 0) := by
 unfold sizeL
 by_cases h0 : (0 < f.length ∧ rd f 0 ≠ 231) ∨ (1 < f.length ∧ rd f 1 = 0)
 ·rw [if_pos h0]
  exact .inl ⟨3, .inl rfl, rfl⟩
 ·rw [if_neg h0]
  by_cases h2 : f.length < 2
  ·rw [if_pos h2]
   exact .inl ⟨4, .inr rfl, rfl⟩
  ·rw [if_neg h2]
   rcases take_cases f 2 hb with ⟨e, he, ht⟩ | ⟨p, n, hp, hn, hlen, ht, hseg⟩
   ·left
    have h34 : e = 3 ∨ e = 4 := by
     have e2 := take_in f 2 (by omega) rfl
     have e3 : ((2 : Nat) : Int) = 2 := rfl
     rw [e3, ht] at e2
     rcases takeL_err (f.drop 2) 0 0 with h | h
     ·rw [if_pos h] at e2
      exact absurd (congrArg (fun z : Int × Int × Int => z.2.2) e2) he
     ·rw [if_neg (by rcases h with h | h <;> rw [h] <;> decide)] at e2
      have := congrArg (fun z : Int × Int × Int => z.2.2) e2
      simp only at this
      omega
    rw [ht, if_pos he]
    exact ⟨e, h34, rfl⟩
   ·obtain rfl : p = 2 := by omega
    rw [ht]
    simp only [ne_eq, not_true_eq_false, if_false]
    by_cases hm : (n : Int) > 1048576
    ·rw [if_pos hm]
     exact .inl ⟨3, .inl rfl, rfl⟩
    ·rw [if_neg hm]
     refine .inr ⟨n, by omega, hlen, ?_, ?_, hseg, rfl, rfl⟩
     ·exact Classical.byContradiction fun h => h0 (.inl ⟨by omega, h⟩)
     ·exact fun h => h0 (.inr ⟨by omega, h⟩)
theorem next_cases (f : List Int) (hb : Bytes f) :
  (∃ e, (e = 3 ∨ e = 4 ∨ e = 27) ∧ nextL f = ((0, []), 0, e)) ∨
  ∃ n : Nat, n ≤ 1048576 ∧ 2 + (putN n).length + n + 4 ≤ f.length ∧ nextL f = ((rd f 1, (f.drop (2 + (putN n).length)).take n), 2 + (putN n).length + n + 4, 0) := by
 unfold nextL
 rcases size_cases f hb with ⟨e, he, hs⟩ | ⟨n, hn, hlen, h0, h1, hseg, ht, hs⟩
 ·rw [hs]
  rw [if_pos (by rcases he with rfl | rfl <;> decide)]
  exact .inl ⟨e, by rcases he with rfl | rfl <;> decide, rfl⟩
 ·rw [hs]
  simp only [ne_eq, not_true_eq_false, if_false, Int.toNat_natCast]
  by_cases hl : f.length < 2 + (putN n).length + n + 4
  ·rw [if_pos hl]
   exact .inl ⟨4, by decide, rfl⟩
  ·rw [if_neg hl]
   by_cases ho : (openL (f.take (2 + (putN n).length + n + 4))).2 = 0
   ·rw [if_neg (fun h => h ho)]
    exact .inr ⟨n, hn, by omega, rfl⟩
   ·rw [if_pos ho]
    exact .inl ⟨27, by decide, rfl⟩
theorem next_moves (f : List Int) (hb : Bytes f) (h : (nextL f).2.2 = 0) : 7 ≤ (nextL f).2.1 ∧ (nextL f).2.1 ≤ f.length := by
 rcases next_cases f hb with ⟨e, he, hs⟩ | ⟨n, hn, hlen, hs⟩
 ·rw [hs] at h
  rcases he with rfl | rfl | rfl <;> exact absurd h (by decide)
 ·rw [hs]
  have := putN_length n
  exact ⟨by show 7 ≤ 2 + (putN n).length + n + 4; omega, hlen⟩
theorem frame_split (e : Int × List Int) (rest : List Int) : frameL e ++ rest = [231, e.1] ++ (putN e.2.length ++ (e.2 ++ (le4 (crcN (bodyL e)) ++ rest))) := by
 unfold frameL sealL bodyL
 simp only [List.append_assoc]
theorem size_frame (e : Int × List Int) (rest : List Int) (h : rightE e) : sizeL (frameL e ++ rest) = ((e.2.length : Int), ((2 + (putN e.2.length).length : Nat) : Int), 0) := by
 obtain ⟨h1, h2, h3⟩ := h
 rw [frame_split]
 have ht := take_put [231, e.1] (e.2 ++ (le4 (crcN (bodyL e)) ++ rest)) e.2.length (by omega)
 have e2 : ((([231, e.1] : List Int).length : Nat) : Int) = 2 := rfl
 rw [e2] at ht
 unfold sizeL
 rw [ht]
 have r0 : rd ([231, e.1] ++ (putN e.2.length ++ (e.2 ++ (le4 (crcN (bodyL e)) ++ rest)))) 0 = 231 := rfl
 have r1 : rd ([231, e.1] ++ (putN e.2.length ++ (e.2 ++ (le4 (crcN (bodyL e)) ++ rest)))) 1 = e.1 := rfl
 rw [r0, r1, if_neg (by omega), if_neg (by rw [List.length_append]; simp only [List.length_cons, List.length_nil]; omega)]
 simp only [ne_eq, not_true_eq_false, if_false]
 rw [if_neg (by omega)]
 rfl
theorem take_frame (e : Int × List Int) (rest : List Int) : (frameL e ++ rest).take (2 + (putN e.2.length).length + e.2.length + 4) = frameL e := by
 rw [← frameL_length e]
 exact List.take_left ..
theorem data_frame (e : Int × List Int) (rest : List Int) : ((frameL e ++ rest).drop (2 + (putN e.2.length).length)).take e.2.length = e.2 := by
 rw [frame_split, ← List.append_assoc, show 2 + (putN e.2.length).length = ([231, e.1] ++ putN e.2.length).length from by rw [List.length_append]; rfl, List.drop_left]
 exact List.take_left ..
theorem next_frame (e : Int × List Int) (rest : List Int) (h : rightE e) : nextL (frameL e ++ rest) = (e, (frameL e).length, 0) := by
 unfold nextL
 rw [size_frame e rest h]
 simp only [ne_eq, not_true_eq_false, if_false, Int.toNat_natCast]
 rw [if_neg (by rw [List.length_append, frameL_length]; omega), take_frame, data_frame, frameL_length]
 have ho : openL (frameL e) = (bodyL e, 0) := open_seal _
 rw [ho, if_neg (by simp)]
 rfl
theorem framesL_nil : framesL [] = [] := rfl
theorem framesL_cons (e : Int × List Int) (l : List (Int × List Int)) : framesL (e :: l) = frameL e ++ framesL l := by unfold framesL; rw [List.flatMap_cons]
theorem framesL_append (l m : List (Int × List Int)) : framesL (l ++ m) = framesL l ++ framesL m := by unfold framesL; rw [List.flatMap_append]
theorem framesL_bytes : ∀ {l : List (Int × List Int)}, (∀ e ∈ l, rightE e ∧ Bytes e.2) → Bytes (framesL l)
 | [], _ => Bytes.nil
 | e :: l, h => by
  rw [framesL_cons]
  exact Bytes.append (frameL_bytes (h e (List.mem_cons_self ..)).1 (h e (List.mem_cons_self ..)).2) (framesL_bytes fun x hx => h x (List.mem_cons_of_mem _ hx))
theorem readL_ok (k : Nat) (f : List Int) (h : (nextL f).2.2 = 0) : readL (k + 1) f = ((nextL f).1 :: (readL k (f.drop (nextL f).2.1)).1, (nextL f).2.1 + (readL k (f.drop (nextL f).2.1)).2) := by
 rw [readL, if_neg (fun h' => h' h)]
theorem readL_err (k : Nat) (f : List Int) (h : (nextL f).2.2 ≠ 0) : readL k f = ([], 0) := by
 cases k with
 | zero => rfl
 | succ k => rw [readL, if_pos h]
theorem readL_more : ∀ (k : Nat) (f : List Int), Bytes f → f.length < k → readL (k + 1) f = readL k f
 | 0, f, _, h => by omega
 | k + 1, f, hb, h => by
  by_cases hz : (nextL f).2.2 = 0
  ·have hm := next_moves f hb hz
   rw [readL_ok (k + 1) f hz, readL_ok k f hz, readL_more k _ (hb.drop _) (by rw [List.length_drop]; omega)]
  ·rw [readL_err _ f hz, readL_err _ f hz]
theorem readL_at {f : List Int} (hb : Bytes f) {k : Nat} (h : f.length < k) : ∀ d, readL (k + d) f = readL k f
 | 0 => rfl
 | d + 1 => by rw [← Nat.add_assoc, readL_more (k + d) f hb (by omega), readL_at hb h d]
theorem readL_frames : ∀ (l : List (Int × List Int)) (rest : List Int) (k : Nat), (∀ e ∈ l, rightE e) →
  readL (k + l.length) (framesL l ++ rest) = (l ++ (readL k rest).1, (framesL l).length + (readL k rest).2)
 | [], rest, k, _ => by
  rw [framesL_nil]
  simp only [List.length_nil, Nat.add_zero, List.nil_append, Nat.zero_add]
 | e :: l, rest, k, h => by
  have hn := next_frame e (framesL l ++ rest) (h e (List.mem_cons_self ..))
  have ih := readL_frames l rest k (fun x hx => h x (List.mem_cons_of_mem _ hx))
  rw [framesL_cons, List.append_assoc, List.length_cons, ← Nat.add_assoc, readL, hn]
  simp only [ne_eq, not_true_eq_false, if_false]
  rw [List.drop_left, ih, List.length_append]
  simp only [List.cons_append, Nat.add_assoc]
end Go.Proofs.Ytccjdefhieilpaa.Spec
