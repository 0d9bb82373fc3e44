/-
 What the law VaultPlays needs of LogRead (what it does not use is left out by a program of this session, wip/tools/dce.py).
-/
import Derived.Test.YtccjdefhieilpaaRPLx6
import Derived.Test.YtccjdefhieilpaaRLogPure
namespace Go.Proofs.Ytccjdefhieilpaa.Pure
open Go.RowKit Go.Proofs.Ytccjdefhieilpaa.PB Go.Proofs.Ytccjdefhieilpaa.PL Go.Proofs.YtccjdefhieilpaaW.PrintWords Go.Proofs.YtccjdefhieilpaaW.PrintLast Go.Proofs.YtccjdefhieilpaaW.PrintMore
theorem rd_drop (b : List Int) (p i : Nat) : rd (b.drop p) (i : Int) = rd b ((p + i : Nat) : Int) := by
 unfold rd
 rw [Int.toNat_natCast, Int.toNat_natCast, List.getD_eq_getElem?_getD, List.getD_eq_getElem?_getD, List.getElem?_drop]
theorem rj1_err (k : Nat) (b : List Int) (a x8 z : Int) : horariumref47_Next.j1 (k + 1) b a x8 true z = some (z, [], 0, 3) := by rw [horariumref47_Next.j1, if_pos rfl]
theorem rj0_eq (k : Nat) (b : List Int) (p : Nat) (hp : p ≤ b.length) (hn : b.length ≤ 1000000000) :
  horariumref47_Next.j0 (k + 1) b (p : Int) false 0 = horariumref47_Next.j1 k b (p : Int) ((b.drop p).length : Int) (decide ((0 < (b.drop p).length ∧ rd (b.drop p) 0 ≠ 231) ∨ (1 < (b.drop p).length ∧ rd (b.drop p) 1 = 0))) 0 := by
 have hfl : (b.drop p).length = b.length - p := List.length_drop
 have e0 : rd (b.drop p) 0 = rd b (p : Int) := rd_drop b p 0
 have e1 : rd (b.drop p) 1 = rd b ((p + 1 : Nat) : Int) := rd_drop b p 1
 rw [e0, e1, hfl, horariumref47_Next.j0, if_neg Bool.false_ne_true]
 have w0 : wrap64 ((b.length : Int) - (p : Int)) = ((b.length - p : Nat) : Int) := by unfold wrap64; omega
 have w1 : wrap64 ((p : Int) + 1) = ((p + 1 : Nat) : Int) := by unfold wrap64; omega
 rw [w0, w1]
 by_cases h0 : b.length - p = 0
 ·rw [if_neg (by omega), if_neg (by omega), decide_eq_false (by omega)]
 ·rw [if_pos (by omega), if_pos (by omega), if_pos (by omega)]
  by_cases h231 : rd b (p : Int) = 231
  ·rw [if_pos h231]
   by_cases h1 : 1 < b.length - p
   ·rw [if_pos (by omega), if_pos (by omega), if_pos (by omega)]
    by_cases hz : rd b ((p + 1 : Nat) : Int) = 0
    ·rw [beq_iff_eq.2 hz, decide_eq_true (.inr ⟨h1, hz⟩)]
    ·rw [beq_eq_false_iff_ne.2 hz, decide_eq_false (fun h => h.elim (fun h => h.2 h231) (fun h => hz h.2))]
   ·rw [if_neg (by omega), decide_eq_false (fun h => h.elim (fun h => h.2 h231) (fun h => h1 h.1))]
  ·rw [if_neg h231, decide_eq_true (.inl ⟨by omega, h231⟩)]
theorem flat_err (b : List Int) (p : Nat) (hp : p ≤ b.length) {e : Int} (he : e ≠ 0) (h : Spec.nextL (b.drop p) = ((0, []), 0, e)) : flat (Spec.next b (p : Int)) = (0, [], 0, e) := by
 rw [next_at b p hp, h, if_pos he]
 rfl
theorem wr_id (n : Nat) (h : n ≤ 140737488351232) : wrap64 (n : Int) = (n : Int) := by
 unfold wrap64
 omega
theorem wr_add (a b : Nat) (h : a + b ≤ 140737488351232) : wrap64 ((a : Int) + (b : Int)) = ((a + b : Nat) : Int) := by
 unfold wrap64
 omega
theorem wr_sub (a b : Nat) (hb : b ≤ a) (h : a ≤ 140737488351232) : wrap64 ((a : Int) - (b : Int)) = ((a - b : Nat) : Int) := by
 unfold wrap64
 omega
theorem wr_add4 (a : Nat) (h : a + 4 ≤ 140737488351232) : wrap64 ((a : Int) + 4) = ((a + 4 : Nat) : Int) := wr_add a 4 h
theorem wr_add1 (a : Nat) (h : a + 1 ≤ 140737488351232) : wrap64 ((a : Int) + 1) = ((a + 1 : Nat) : Int) := wr_add a 1 h
theorem rj3_eq (k : Nat) (b : List Int) (p n q : Nat) (hb : Bytes b) (hn : b.length ≤ 1000000000) (hk : 10 * b.length + 60 ≤ k) (hpb : p + (2 + q) ≤ b.length) (hnn : n ≤ 1048576) (hs : Spec.sizeL (b.drop p) = ((n : Int), ((2 + q : Nat) : Int), 0)) :
  horariumref47_Next.j3 (k + 1) b (p : Int) (n : Int) ((p + (2 + q) : Nat) : Int) (decide (wrap64 ((b.length : Int) - ((p + (2 + q) : Nat) : Int)) < wrap64 (wrap64 (n : Int) + 4))) 0 = some (flat (Spec.next b (p : Int))) := by
 have hp : p ≤ b.length := by omega
 have hf : Bytes (b.drop p) := hb.drop p
 have hfl : (b.drop p).length = b.length - p := List.length_drop
 rw [wr_id n (by omega), wr_add4 n (by omega), wr_sub b.length (p + (2 + q)) hpb (by omega)]
 by_cases hl : (b.drop p).length < 2 + q + n + 4
 ·rw [decide_eq_true (by omega), horariumref47_Next.j3, if_pos rfl, flat_err b p hp (by decide) (nextL_short hs hl)]
 ·have hln : p + (2 + q) + n + 4 ≤ b.length := by omega
  have c1 : (b.take (p + (2 + q) + n + 4)).drop p = (b.drop p).take (2 + q + n + 4) := by rw [List.drop_take, show p + (2 + q) + n + 4 - p = 2 + q + n + 4 from by omega]
  have c2 : (b.take (p + (2 + q) + n)).drop (p + (2 + q)) = ((b.drop p).drop (2 + q)).take n := by rw [List.drop_take, List.drop_drop, show p + (2 + q) + n - (p + (2 + q)) = n from by omega]
  have hol : ((b.drop p).take (2 + q + n + 4)).length ≤ b.length := by rw [List.length_take]; omega
  rw [decide_eq_false (by omega), horariumref47_Next.j3, if_neg Bool.false_ne_true, wr_id n (by omega), wr_add (p + (2 + q)) n (by omega), wr_add4 (p + (2 + q) + n) (by omega), wr_add1 p (by omega), if_pos (by omega), if_pos (by omega), if_pos (by omega), Int.toNat_natCast, Int.toNat_natCast, Int.toNat_natCast, Int.toNat_natCast, c1,
   ropen_eq k _ (hf.take _) (by omega) (by omega), Option.bind_some]
  by_cases ho : (Spec.openL ((b.drop p).take (2 + q + n + 4))).2 = 0
  ·have hdl : (((b.drop p).drop (2 + q)).take n).length = n := by rw [List.length_take, List.length_drop]; omega
   have hr := Bytes.rd_le hf 1
   have hr1 : rd (b.drop p) ((1 : Nat) : Int) = rd b ((p + 1 : Nat) : Int) := rd_drop b p 1
   rw [hr1] at hr
   have w8 : wrap64 (rd b ((p + 1 : Nat) : Int)) = rd (b.drop p) 1 := by
    have h1 : rd (b.drop p) 1 = rd b ((p + 1 : Nat) : Int) := hr1
    rw [h1]
    generalize rd b ((p + 1 : Nat) : Int) = z at hr
    clear hs hb hf ho
    unfold wrap64
    omega
   have e := nextL_good hs hl ho
   rw [if_pos ho, if_pos (by omega), if_pos (by omega), Option.bind_some, if_pos (by omega), if_pos (by omega), if_pos (by omega), c2, if_pos (by rw [hdl]; simp only [List.length_nil]; omega), w8, List.nil_append, next_at b p hp, e]
   have e2 : ((p + (2 + q) + n + 4 : Nat) : Int) = ((p + (2 + q + n + 4) : Nat) : Int) := by omega
   rw [if_neg (by simp), e2]
   rfl
  ·rw [if_neg ho, flat_err b p hp (by decide) (nextL_sum hs hl ho)]
theorem rnext_eq (k : Nat) (b : List Int) (a : Int) (hb : Bytes b) (hn : b.length ≤ 1000000000) (hk : 10 * b.length + 70 ≤ k) : horariumref47_Next.f k b a = some (flat (Spec.next b a)) := by
 obtain ⟨k, rfl⟩ : ∃ m, k = m + 4 := ⟨k - 4, by omega⟩
 unfold horariumref47_Next.f
 by_cases h0 : a < 0
 ·rw [if_pos h0, horariumref47_Next.j0, if_pos rfl]
  unfold Spec.next
  rw [if_pos (.inl h0)]
  rfl
 ·rw [if_neg h0]
  by_cases h1 : a > b.length
  ·rw [decide_eq_true h1, horariumref47_Next.j0, if_pos rfl]
   unfold Spec.next
   rw [if_pos (.inr h1)]
   rfl
  ·obtain ⟨p, rfl⟩ := Int.eq_ofNat_of_zero_le (Int.not_lt.1 h0)
   have hp : p ≤ b.length := by omega
   have hf : Bytes (b.drop p) := hb.drop p
   have hfl : (b.drop p).length = b.length - p := List.length_drop
   rw [decide_eq_false h1, rj0_eq (k + 3) b p hp hn]
   by_cases hc : (0 < (b.drop p).length ∧ rd (b.drop p) 0 ≠ 231) ∨ (1 < (b.drop p).length ∧ rd (b.drop p) 1 = 0)
   ·have hs : Spec.sizeL (b.drop p) = (0, 0, 3) := by unfold Spec.sizeL; rw [if_pos hc]
    rw [decide_eq_true hc, rj1_err, flat_err b p hp (by decide) (nextL_err hs (by decide))]
   ·rw [decide_eq_false hc, horariumref47_Next.j1, if_neg Bool.false_ne_true]
    by_cases h2 : (b.drop p).length < 2
    ·have hs : Spec.sizeL (b.drop p) = (0, 0, 4) := by unfold Spec.sizeL; rw [if_neg hc, if_pos h2]
     rw [if_pos (by omega), flat_err b p hp (by decide) (nextL_err hs (by decide))]
    ·have w2 : wrap64 ((p : Int) + 2) = ((p + 2 : Nat) : Int) := by unfold wrap64; omega
     have htd := Spec.take_drop b p 2 (by omega)
     have e22 : ((2 : Nat) : Int) = 2 := rfl
     rw [e22] at htd
     rw [if_neg (by omega), w2, rtake_eq (k + 2) b _ hb (by omega) (by omega), Option.bind_some, htd]
     rcases Spec.size_cases (b.drop p) hf with ⟨e, he, hs⟩ | ⟨n, hnn, hlen, r0, r1, hseg, ht, hs⟩
     ·-- the size is refused
      rcases Spec.take_cases (b.drop p) 2 hf with ⟨e', he', ht⟩ | ⟨p', n, hp', hn', hlen, ht, hseg⟩
      ·have hse : Spec.sizeL (b.drop p) = (0, 0, e') := by unfold Spec.sizeL; rw [if_neg hc, if_neg h2, ht, if_pos he']
       obtain rfl : e = e' := by
        have := hs.symm.trans hse
        simp only [Prod.mk.injEq, true_and] at this
        exact this
       have he0 : e ≠ 0 := he'
       rw [ht, if_neg he0, flat_err b p hp he0 (nextL_err hs he0)]
       rcases he with rfl | rfl
       ·show (if (3 : Int) = 3 then _ else _) = _
        rw [if_pos rfl, horariumref47_Next.j2, if_pos rfl]
       ·show (if (4 : Int) = 3 then _ else if (4 : Int) = 0 then _ else _) = _
        rw [if_neg (by decide), if_neg (by decide), horariumref47_Next.j2, if_neg Bool.false_ne_true, if_neg (by decide), horariumref47_Next.j3, if_pos rfl]
      ·have hbig : (n : Int) > 1048576 := by
        refine Classical.byContradiction fun hm => ?_
        have hse : Spec.sizeL (b.drop p) = ((n : Int), ((p' + (Spec.putN n).length : Nat) : Int), 0) := by
         unfold Spec.sizeL
         rw [if_neg hc, if_neg h2, ht]
         simp only [ne_eq, not_true_eq_false, if_false]
         rw [if_neg hm]
        have := congrArg (fun z : Int × Int × Int => z.2.2) (hs.symm.trans hse)
        simp only at this
        rcases he with rfl | rfl <;> exact absurd this (by decide)
       have hs3 : Spec.sizeL (b.drop p) = (0, 0, 3) := by
        unfold Spec.sizeL
        rw [if_neg hc, if_neg h2, ht]
        simp only [ne_eq, not_true_eq_false, if_false]
        rw [if_pos hbig]
       rw [ht]
       simp only [if_true]
       rw [if_neg (by decide), decide_eq_true hbig, horariumref47_Next.j2, if_pos rfl, flat_err b p hp (by decide) (nextL_err hs3 (by decide))]
     ·have hq := Spec.putN_length n
      rw [ht]
      simp only [if_true]
      have hpq : (p : Int) + ((2 + (Spec.putN n).length : Nat) : Int) = ((p + (2 + (Spec.putN n).length) : Nat) : Int) := (Int.natCast_add ..).symm
      rw [if_neg (by decide), decide_eq_false (by omega), horariumref47_Next.j2, if_neg Bool.false_ne_true, if_pos rfl, hpq]
      exact rj3_eq k b p n (Spec.putN n).length hb hn (by omega) (by omega) hnn hs
theorem rread_eq (k : Nat) (b : List Int) (hb : Bytes b) (hn : b.length ≤ 1000000000) (hk : 11 * b.length + 80 ≤ k) : horariumref47_Read.f k b = some (readS b, (readN b : Int)) := by
 have h := next_steps (next := horariumref47_Next.f) (loop := horariumref47_Read.l0) b hb hn (10 * b.length + 70) (fun k p hk hp => rnext_eq k b _ hb hn hk) (fun k acc a => by rw [horariumref47_Read.l0]) (b.length + 1) 0 k [] (by omega) (by omega) (by simp) (by omega)
 unfold horariumref47_Read.f readS readN
 rw [List.drop_zero, List.nil_append, Nat.zero_add] at h
 exact h
end Go.Proofs.Ytccjdefhieilpaa.Pure
