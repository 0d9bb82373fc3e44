/-
 What the law VaultPlays needs of LogPure (what it does not use is left out by a program of this session, wip/tools/dce.py).
-/
import Derived.Test.YtccjdefhieilpaaRPLx3
import Derived.Test.YtccjdefhieilpaaRLogSpec
namespace Go.Proofs.Ytccjdefhieilpaa.Pure
open Go.RowKit Go.Proofs.Ytccjdefhieilpaa.PB Go.Proofs.Ytccjdefhieilpaa.PL Go.Proofs.YtccjdefhieilpaaW.PrintWords Go.Proofs.YtccjdefhieilpaaW.PrintLast Go.Proofs.YtccjdefhieilpaaW.PrintMore
def p68 (x : S68) : Int × List Int := (x.f0, x.f1)
def s68 (x : Int × List Int) : S68 := ⟨x.1, x.2⟩
def Datas (l : List S68) : Prop := ∀ x ∈ l, Bytes x.f1
def Rights (l : List S68) : Prop := ∀ x ∈ l, Spec.rightE (p68 x)
instance (l : List S68) : Decidable (Rights l) := by unfold Rights; infer_instance
theorem right_eq (a : Int) (l : List Int) : log_right.f a l = some (decide (Spec.rightE (a, l))) := by
 unfold log_right.f
 by_cases h1 : a ≥ 1
 ·rw [if_pos h1]
  by_cases h2 : a ≤ 255
  ·rw [if_pos h2]
   congr 1
   exact decide_eq_decide.2 ⟨fun h => ⟨h1, h2, by show l.length ≤ 1048576; omega⟩, fun h => by have h3 : l.length ≤ 1048576 := h.2.2; omega⟩
  ·rw [if_neg h2, decide_eq_false (fun h => h2 h.2.1)]
 ·rw [if_neg h1, decide_eq_false (fun h => h1 h.1)]
theorem body_eq (a : Int) (l : List Int) (h : Spec.rightE (a, l)) : (([231, a % 256] : List Int) ++ Spec.putN l.length) ++ l = Spec.bodyL (a, l) := by
 obtain ⟨h1, h2, h3⟩ := h
 have h1' : 1 ≤ a := h1
 have h2' : a ≤ 255 := h2
 have e : a % 256 = a := by omega
 rw [e, List.append_assoc]
 rfl
theorem frame_eq (k : Nat) (a : Int) (l : List Int) (hb : Bytes l) (hk : 10486000 ≤ k) :
  log_Frame.f k a l = some (if Spec.rightE (a, l) then (Spec.frameL (a, l), 0) else ([], 2)) := by
 unfold log_Frame.f
 rw [right_eq, Option.bind_some]
 by_cases h : Spec.rightE (a, l)
 ·have h3 : l.length ≤ 1048576 := h.2.2
  have hq := Spec.putN_length l.length
  have hw : IntKind.u64.wrap (l.length : Int) = (l.length : Int) := by rw [IntKind.wrap_u64]; omega
  have hbb := Spec.bodyL_bytes h hb
  have hbl := Spec.bodyL_length (a, l)
  have hbl' : (Spec.bodyL (a, l)).length = 2 + (Spec.putN l.length).length + l.length := hbl
  rw [decide_eq_true h, if_pos rfl, Option.bind_some, hw, put_eq k l.length (by omega) (by omega), Option.bind_some, if_pos (by simp only [List.length_cons, List.length_nil]; omega), Option.bind_some,
   if_pos (by rw [List.length_append]; simp only [List.length_cons, List.length_nil]; omega), body_eq a l h, seal_eq k _ hbb (by omega) (by omega), Option.bind_some, if_pos h]
  rfl
 ·rw [decide_eq_false h, if_neg Bool.false_ne_true, if_neg h]
theorem psize_eq (k : Nat) (a : Int) (l : List Int) (hk : 10 ≤ k) :
  log_Size.f k a l = some (if Spec.rightE (a, l) then ((Spec.frameL (a, l)).length : Int) else 0) := by
 unfold log_Size.f
 rw [right_eq, Option.bind_some]
 by_cases h : Spec.rightE (a, l)
 ·have h3 : l.length ≤ 1048576 := h.2.2
  have hq := Spec.putN_length l.length
  have hw : IntKind.u64.wrap (l.length : Int) = (l.length : Int) := by rw [IntKind.wrap_u64]; omega
  have hl : (Spec.frameL (a, l)).length = 2 + (Spec.putN l.length).length + l.length + 4 := Spec.frameL_length (a, l)
  rw [decide_eq_true h, if_pos rfl, hw, put_eq k l.length (by omega) hk, Option.bind_some, if_pos h, hl]
  congr 1
  unfold wrap64
  omega
 ·rw [decide_eq_false h, if_neg Bool.false_ne_true, if_neg h]
theorem T68_at (l : List S68) (i : Nat) (h : i < l.length) : l.drop i = rd_T68 l (i : Int) :: l.drop (i + 1) := by
 rw [List.drop_eq_getElem_cons h]
 unfold rd_T68
 rw [Int.toNat_natCast, List.getD_eq_getElem?_getD, List.getElem?_eq_getElem h]
 rfl
theorem T68_mem (l : List S68) (i : Nat) (h : i < l.length) : rd_T68 l (i : Int) ∈ l := by
 unfold rd_T68
 rw [Int.toNat_natCast, List.getD_eq_getElem?_getD, List.getElem?_eq_getElem h]
 exact List.getElem_mem h
theorem frame_small (a : Int) (l : List Int) (h : Spec.rightE (a, l)) : (Spec.frameL (a, l)).length ≤ 1048600 := by
 have h3 : l.length ≤ 1048576 := h.2.2
 have hq := Spec.putN_length l.length
 have hl : (Spec.frameL (a, l)).length = 2 + (Spec.putN l.length).length + l.length + 4 := Spec.frameL_length (a, l)
 omega
def framesS (l : List S68) : List Int := Spec.framesL (l.map p68)
theorem framesS_cons (x : S68) (l : List S68) : framesS (x :: l) = Spec.frameL (p68 x) ++ framesS l := by
 unfold framesS
 rw [List.map_cons, Spec.framesL_cons]
theorem framesS_append (l m : List S68) : framesS (l ++ m) = framesS l ++ framesS m := by
 unfold framesS
 rw [List.map_append, Spec.framesL_append]
theorem Rights_cons (x : S68) (l : List S68) : Rights (x :: l) ↔ Spec.rightE (p68 x) ∧ Rights l := by
 unfold Rights
 simp only [List.forall_mem_cons]
theorem lsize_eq (k : Nat) (f : List Int) (hb : Bytes f) (hk : 1 ≤ k) : log_size.f k f = some (Spec.sizeL f) := by
 obtain ⟨k, rfl⟩ : ∃ m, k = m + 1 := ⟨k - 1, by omega⟩
 have tail : ∀ z : Bool, z = true → log_size.j0 (k + 1) f z = some (0, 0, 3) := fun z hz => by rw [log_size.j0, if_pos hz]
 have rest : ¬ ((0 < f.length ∧ rd f 0 ≠ 231) ∨ (1 < f.length ∧ rd f 1 = 0)) → ∀ z : Bool, z = false → log_size.j0 (k + 1) f z = some (Spec.sizeL f) := by
  intro h0 z hz
  rw [log_size.j0, if_neg (by rw [hz]; decide)]
  unfold Spec.sizeL
  rw [if_neg h0]
  by_cases h2 : f.length < 2
  ·rw [if_pos (by omega), if_pos h2]
  ·rw [if_neg (by omega), if_neg h2, take_eq k f 2 hb, Option.bind_some]
   rcases Spec.take_cases f 2 hb with ⟨e, he, ht⟩ | ⟨p, n, hp, hn, hlen, ht, hseg⟩
   ·rw [ht, if_neg he, if_pos he]
   ·rw [ht]
    simp only [ne_eq, not_true_eq_false, if_false, if_true]
    by_cases hm : (n : Int) > 1048576
    ·rw [if_pos hm, if_pos hm]
    ·rw [if_neg hm, if_neg hm]
     have hw : wrap64 (n : Int) = (n : Int) := by unfold wrap64; omega
     rw [hw]
 unfold log_size.f
 by_cases h0 : f.length = 0
 ·rw [if_neg (by omega), if_neg (by omega)]
  exact rest (by omega) false rfl
 ·rw [if_pos (by omega), if_pos (by omega)]
  by_cases h231 : rd f 0 = 231
  ·rw [if_pos h231]
   by_cases h1 : 1 < f.length
   ·rw [if_pos (by omega), if_pos (by omega)]
    by_cases hz : rd f 1 = 0
    ·rw [tail _ (beq_iff_eq.2 hz)]
     unfold Spec.sizeL
     rw [if_pos (.inr ⟨h1, hz⟩)]
    ·exact rest (fun h => h.elim (fun h => h.2 h231) (fun h => hz h.2)) _ (beq_eq_false_iff_ne.2 hz)
   ·rw [if_neg (by omega)]
    exact rest (fun h => h.elim (fun h => h.2 h231) (fun h => h1 h.1)) false rfl
  ·rw [if_neg h231, tail true rfl]
   unfold Spec.sizeL
   rw [if_pos (.inl ⟨by omega, h231⟩)]
theorem Bytes.rd_le {f : List Int} (h : Bytes f) (i : Nat) : 0 ≤ rd f (i : Int) ∧ rd f (i : Int) < 256 := Bytes.at h i
def flat (r : (Int × List Int) × Int × Int) : Int × List Int × Int × Int := (r.1.1, r.1.2, r.2.1, r.2.2)
theorem nextL_err {f : List Int} {e : Int} (hs : Spec.sizeL f = (0, 0, e)) (he : e ≠ 0) : Spec.nextL f = ((0, []), 0, e) := by
 unfold Spec.nextL
 rw [hs]
 exact if_pos he
theorem nextL_short {f : List Int} {n q : Nat} (hs : Spec.sizeL f = ((n : Int), ((2 + q : Nat) : Int), 0)) (hl : f.length < 2 + q + n + 4) : Spec.nextL f = ((0, []), 0, 4) := by
 unfold Spec.nextL
 rw [hs]
 simp only [ne_eq, not_true_eq_false, if_false, Int.toNat_natCast]
 rw [if_pos hl]
theorem nextL_sum {f : List Int} {n q : Nat} (hs : Spec.sizeL f = ((n : Int), ((2 + q : Nat) : Int), 0)) (hl : ¬ f.length < 2 + q + n + 4) (ho : (Spec.openL (f.take (2 + q + n + 4))).2 ≠ 0) : Spec.nextL f = ((0, []), 0, 27) := by
 unfold Spec.nextL
 rw [hs]
 simp only [ne_eq, not_true_eq_false, if_false, Int.toNat_natCast]
 rw [if_neg hl, if_pos ho]
theorem nextL_good {f : List Int} {n q : Nat} (hs : Spec.sizeL f = ((n : Int), ((2 + q : Nat) : Int), 0)) (hl : ¬ f.length < 2 + q + n + 4) (ho : (Spec.openL (f.take (2 + q + n + 4))).2 = 0) : Spec.nextL f = ((rd f 1, (f.drop (2 + q)).take n), 2 + q + n + 4, 0) := by
 unfold Spec.nextL
 rw [hs]
 simp only [ne_eq, not_true_eq_false, if_false, Int.toNat_natCast]
 rw [if_neg hl, if_neg (fun h => h ho)]
theorem lnext_eq (k : Nat) (b : List Int) (a : Int) (hb : Bytes b) (hn : b.length ≤ 1000000000) (hk : 10 * b.length + 30 ≤ k) : log_Next.f k b a = some (flat (Spec.next b a)) := by
 obtain ⟨k, rfl⟩ : ∃ m, k = m + 1 := ⟨k - 1, by omega⟩
 unfold log_Next.f Spec.next
 by_cases h0 : a < 0
 ·rw [if_pos h0, if_pos (.inl h0), log_Next.j0, if_pos rfl]
  rfl
 ·rw [if_neg h0]
  by_cases h1 : a > b.length
  ·rw [if_pos (.inr h1), decide_eq_true h1, log_Next.j0, if_pos rfl]
   rfl
  ·obtain ⟨p, rfl⟩ := Int.eq_ofNat_of_zero_le (Int.not_lt.1 h0)
   have hp : p ≤ b.length := by omega
   rw [if_neg (fun h => h.elim h0 h1), decide_eq_false h1, log_Next.j0, if_neg Bool.false_ne_true, if_pos (by omega), if_pos (by omega), Int.toNat_natCast]
   have hf : Bytes (b.drop p) := hb.drop p
   have hfl : (b.drop p).length = b.length - p := List.length_drop
   generalize b.drop p = f at *
   rw [lsize_eq k f hf (by omega), Option.bind_some]
   rcases Spec.size_cases f hf with ⟨e, he, hs⟩ | ⟨n, hnn, hlen, r0, r1, hseg, ht, hs⟩
   ·have he0 : e ≠ 0 := by rcases he with rfl | rfl <;> decide
    rw [nextL_err hs he0, hs]
    show (if e = 0 then _ else some (0, ([] : List Int), 0, e)) = some (flat (if e ≠ 0 then ((0, []), 0, e) else _))
    rw [if_neg he0, if_pos he0]
    rfl
   ·have hq := Spec.putN_length n
    generalize (Spec.putN n).length = q at *
    have w1 : wrap64 (wrap64 (((2 + q : Nat) : Int) + (n : Int)) + 4) = ((2 + q + n + 4 : Nat) : Int) := by unfold wrap64; omega
    have w2 : wrap64 (((2 + q : Nat) : Int) + (n : Int)) = ((2 + q + n : Nat) : Int) := by unfold wrap64; omega
    have hsp := hs
    rw [hs]
    simp only [if_true]
    rw [w1, w2, Int.toNat_natCast, Int.toNat_natCast, Int.toNat_natCast]
    by_cases hl : f.length < 2 + q + n + 4
    ·rw [if_pos (by omega), nextL_short hsp hl]
     rfl
    ·rw [if_neg (by omega), if_pos (by omega), if_pos (by omega), open_eq k _ (hf.take _) (by rw [List.length_take]; omega) (by rw [List.length_take]; omega), Option.bind_some]
     rcases (show (Spec.openL (f.take (2 + q + n + 4))).2 = 0 ∨ (Spec.openL (f.take (2 + q + n + 4))).2 = 27 from by
       unfold Spec.openL
       rw [if_neg (by rw [List.length_take]; omega)]
       split
       ·exact .inl rfl
       ·exact .inr rfl) with ho | ho
     ·have hdl : ((f.take (2 + q + n)).drop (2 + q)).length = n := by rw [List.length_drop, List.length_take]; omega
      have hde : (f.take (2 + q + n)).drop (2 + q) = (f.drop (2 + q)).take n := by rw [List.drop_take, Nat.add_sub_cancel_left]
      have hr := Bytes.rd_le hf 1
      have hr' : 0 ≤ rd f 1 ∧ rd f 1 < 256 := hr
      have w3 : wrap64 (rd f 1) = rd f 1 := by unfold wrap64; omega
      have w4 : wrap64 ((p : Int) + ((2 + q + n + 4 : Nat) : Int)) = (p : Int) + ((2 + q + n + 4 : Nat) : Int) := by unfold wrap64; omega
      rw [if_pos ho, Option.bind_some, if_pos ⟨by omega, by omega, by omega, by omega⟩, if_pos (by omega), if_pos (by omega), if_pos (by rw [hdl]; simp only [List.length_nil]; omega), if_pos (by omega), w3, w4, List.nil_append, hde, nextL_good hsp hl ho]
      rfl
     ·have ho' : (Spec.openL (f.take (2 + q + n + 4))).2 ≠ 0 := by rw [ho]; decide
      rw [if_neg ho', ho, nextL_sum hsp hl ho']
      rfl
theorem next_at (b : List Int) (p : Nat) (hp : p ≤ b.length) : Spec.next b (p : Int) = if (Spec.nextL (b.drop p)).2.2 ≠ 0 then ((0, []), 0, (Spec.nextL (b.drop p)).2.2) else ((Spec.nextL (b.drop p)).1, ((p + (Spec.nextL (b.drop p)).2.1 : Nat) : Int), 0) := by
 unfold Spec.next
 rw [if_neg (by omega), Int.toNat_natCast, Int.natCast_add]
theorem next_steps {next : Nat → List Int → Int → Option (Int × List Int × Int × Int)} {loop : Nat → List Int → List S68 → Int → Option (List S68 × Int)} (b : List Int) (hb : Bytes b) (hn : b.length ≤ 1000000000) (K : Nat)
  (hnext : ∀ k p, K ≤ k → p ≤ b.length → next k b ((p : Nat) : Int) = some (flat (Spec.next b (p : Int))))
  (hloop : ∀ k acc a, loop (k + 1) b acc a = (next k b a).bind fun bt => (if bt.2.2.2 = 0 then (if acc.length < 4398046511104 then (loop k b (acc ++ [(⟨bt.1, bt.2.1⟩ : S68)]) bt.2.2.1) else (none)) else (some (acc, a)))) (f : Nat) :
  ∀ (p k : Nat) (acc : List S68), p ≤ b.length → b.length + 1 ≤ f + p → acc.length ≤ p → K + f ≤ k → loop k b acc (p : Int) = some (acc ++ (Spec.readL f (b.drop p)).1.map s68, ((p + (Spec.readL f (b.drop p)).2 : Nat) : Int)) := by
 induction f with
 | zero => intro p k acc hp hf; exact absurd hf (by omega)
 | succ f ih =>
  intro p k acc hp hf ha hk
  obtain ⟨k, rfl⟩ : ∃ m, k = m + 1 := ⟨k - 1, by omega⟩
  rw [hloop, hnext k p (by omega) hp, Option.bind_some]
  by_cases hz : (Spec.nextL (b.drop p)).2.2 = 0
  ·have hm := Spec.next_moves _ (hb.drop p) hz
   have hdl : (b.drop p).length = b.length - p := List.length_drop
   have en : Spec.next b (p : Int) = ((Spec.nextL (b.drop p)).1, ((p + (Spec.nextL (b.drop p)).2.1 : Nat) : Int), 0) := by rw [next_at b p hp, if_neg (fun h => h hz)]
   rw [en, Spec.readL_ok f _ hz]
   show (if (0 : Int) = 0 then (if acc.length < 4398046511104 then loop k b (acc ++ [s68 (Spec.nextL (b.drop p)).1]) ((p + (Spec.nextL (b.drop p)).2.1 : Nat) : Int) else none) else some (acc, (p : Int))) = _
   rw [if_pos rfl, if_pos (by omega), ih (p + (Spec.nextL (b.drop p)).2.1) k _ (by omega) (by omega) (by rw [List.length_append, List.length_singleton]; omega) (by omega), List.drop_drop, List.append_assoc, Nat.add_assoc]
   rfl
  ·have en : Spec.next b (p : Int) = ((0, []), 0, (Spec.nextL (b.drop p)).2.2) := by rw [next_at b p hp, if_pos hz]
   rw [en, Spec.readL_err (f + 1) _ hz]
   show (if (Spec.nextL (b.drop p)).2.2 = 0 then _ else some (acc, (p : Int))) = _
   rw [if_neg hz]
   simp only [List.map_nil, List.append_nil, Nat.add_zero]
def readS (b : List Int) : List S68 := (Spec.readL (b.length + 1) b).1.map s68
def readN (b : List Int) : Nat := (Spec.readL (b.length + 1) b).2
theorem lread_eq (k : Nat) (b : List Int) (hb : Bytes b) (hn : b.length ≤ 1000000000) (hk : 11 * b.length + 40 ≤ k) : log_Read.f k b = some (readS b, (readN b : Int)) := by
 have h := next_steps (next := log_Next.f) (loop := log_Read.l0) b hb hn (10 * b.length + 30) (fun k p hk hp => lnext_eq k b _ hb hn hk) (fun k acc a => by rw [log_Read.l0]) (b.length + 1) 0 k [] (by omega) (by omega) (by simp) (by omega)
 unfold log_Read.f readS readN
 rw [List.drop_zero, List.nil_append, Nat.zero_add] at h
 exact h
end Go.Proofs.Ytccjdefhieilpaa.Pure
