/-
  OctetBack: what was put is taken again, whatever stands ahead and behind, for every input of the statement.
-/
import Derived.Test.YtccjdefhieilpaaPWx4
import Derived.Test.YtccjdefhieilpaaReadPure
namespace Go.Proofs.Ytccjdefhieilpaa.Pure
open Go.RowKit Go.Proofs.Ytccjdefhieilpaa.PW Go.Proofs.Ytccjdefhieilpaa.PB Go.Proofs.YtccjdefhieilpaaW.PrintWords Go.Proofs.YtccjdefhieilpaaW.PrintLast

theorem bytesOf_bytes' (s : ByteArray) : Bytes (bytesOf s) := fun x hx => by
  unfold bytesOf at hx
  obtain ⟨c, _, rfl⟩ := List.mem_map.1 hx
  have := c.toNat_lt
  omega
theorem wrap_eq (t A B : List Int) (h : A.length + t.length + B.length < 100000) : horariumlaw03_OctetBack_1.f t A B = some (A ++ (t ++ B)) := by
  unfold horariumlaw03_OctetBack_1.f
  rw [Option.bind_some, if_pos (by simp only [List.length_nil]; omega), Option.bind_some, if_pos (by simp only [List.nil_append]; omega), Option.bind_some, if_pos (by simp only [List.nil_append, List.length_append]; omega), List.nil_append, List.append_assoc]
theorem takeInt_put (pre rest : List Int) (x : Int) (h : Spec.foldZ x < 18446744073709551616) :
    Spec.takeInt (pre ++ (Spec.putN (Spec.foldZ x) ++ rest)) (pre.length : Int) = (x, ((pre.length + (Spec.putN (Spec.foldZ x)).length : Nat) : Int), 0) := by
  unfold Spec.takeInt
  rw [Spec.take_put pre rest _ h]
  simp only [Int.toNat_natCast, Spec.zz_fold]
theorem takeInts_put (B : List Int) : ∀ (l pre acc : List Int) (f : Nat), Ints64 l → l.length + 1 ≤ f →
    Spec.takeInts (pre ++ (putInts l ++ B)) f l.length (pre.length : Int) acc = (acc ++ l, ((pre.length + (putInts l).length : Nat) : Int), 0)
  | [], pre, acc, f, _, hf => by
    obtain ⟨f, rfl⟩ : ∃ g, f = g + 1 := ⟨f - 1, by omega⟩
    rw [Spec.takeInts, if_pos (show ([] : List Int).length = 0 from rfl), List.append_nil]
    rfl
  | x :: l, pre, acc, f, hl, hf => by
    obtain ⟨f, rfl⟩ : ∃ g, f = g + 1 := ⟨f - 1, by omega⟩
    have hx := hl x (List.mem_cons_self ..)
    have ht := takeInt_put pre (putInts l ++ B) x (Spec.foldZ_lt x hx.1 hx.2)
    have e1 : putInts (x :: l) = Spec.putN (Spec.foldZ x) ++ putInts l := by unfold putInts; rw [List.flatMap_cons]
    have e : pre ++ (putInts (x :: l) ++ B) = pre ++ (Spec.putN (Spec.foldZ x) ++ (putInts l ++ B)) := by rw [e1, List.append_assoc]
    have e2 : pre ++ (Spec.putN (Spec.foldZ x) ++ (putInts l ++ B)) = (pre ++ Spec.putN (Spec.foldZ x)) ++ (putInts l ++ B) := (List.append_assoc ..).symm
    have ih := takeInts_put B l (pre ++ Spec.putN (Spec.foldZ x)) (acc ++ [x]) f (fun y hy => hl y (List.mem_cons_of_mem _ hy)) (by simp only [List.length_cons] at hf; omega)
    rw [List.length_append] at ih
    rw [e, Spec.takeInts, if_neg (by simp only [List.length_cons]; omega), ht]
    simp only [if_true, List.length_cons, Nat.add_sub_cancel]
    rw [e2, ih, e1, List.length_append, List.append_assoc, Nat.add_assoc]
    rfl

theorem strOf_bytesOf (s : ByteArray) : strOfNums (bytesOf s) = s := by
  apply ByteArray.ext
  apply Array.toList_inj.1
  rw [strOfNums_data]
  unfold bytesOf
  rw [List.map_map]
  conv => rhs; rw [← List.map_id s.data.toList]
  refine List.map_congr_left fun b _ => ?_
  simp
theorem putInts_ge : ∀ (l : List Int), l.length ≤ (putInts l).length
  | [] => by simp [putInts]
  | x :: l => by
    have h1 := putInts_ge l
    have h2 := Spec.putN_length (Spec.foldZ x)
    have e1 : putInts (x :: l) = Spec.putN (Spec.foldZ x) ++ putInts l := by unfold putInts; rw [List.flatMap_cons]
    rw [e1, List.length_append, List.length_cons]
    omega
theorem putInts_bytes (l : List Int) (hl : Ints64 l) : Bytes (putInts l) := fun y hy => by
  unfold putInts at hy
  obtain ⟨x, hx, hy⟩ := List.mem_flatMap.1 hy
  have hx' := hl x hx
  exact Spec.putN_bytes _ (Spec.foldZ_lt x hx'.1 hx'.2) y hy
theorem takeText_put (A B : List Int) (s : ByteArray) (hs : s.size ≤ 1000) :
    Spec.takeText (A ++ ((Spec.putN s.size ++ bytesOf s) ++ B)) (A.length : Int) (s.size : Int) = (s, ((A.length + (Spec.putN s.size ++ bytesOf s).length : Nat) : Int), 0) := by
  have ht := Spec.take_put A (bytesOf s ++ B) s.size (by omega)
  have e : A ++ ((Spec.putN s.size ++ bytesOf s) ++ B) = A ++ (Spec.putN s.size ++ (bytesOf s ++ B)) := by rw [List.append_assoc]
  have hl : (A ++ (Spec.putN s.size ++ (bytesOf s ++ B))).length = A.length + ((Spec.putN s.size).length + (s.size + B.length)) := by
    rw [List.length_append, List.length_append, List.length_append, bytesOf_length]
  have hc : ((A ++ (Spec.putN s.size ++ (bytesOf s ++ B))).take (A.length + (Spec.putN s.size).length + s.size)).drop (A.length + (Spec.putN s.size).length) = bytesOf s := by
    rw [List.drop_take, ← List.append_assoc, show A.length + (Spec.putN s.size).length = (A ++ Spec.putN s.size).length from (List.length_append ..).symm, List.drop_left, Nat.add_sub_cancel_left]
    have := List.take_left (l₁ := bytesOf s) (l₂ := B)
    rw [bytesOf_length] at this
    exact this
  unfold Spec.takeText
  rw [e, ht]
  simp only [if_true]
  rw [if_neg (by omega), hl, if_neg (by omega), Int.toNat_natCast, ← Int.natCast_add, Int.toNat_natCast, hc, List.length_append, bytesOf_length, Nat.add_assoc]
  rw [strOf_bytesOf]

theorem takeList_put (A B : List Int) (l : List Int) (hl : Ints64 l) (hn : l.length ≤ 300) :
    Spec.takeList (A ++ ((Spec.putN l.length ++ putInts l) ++ B)) (A.length : Int) (l.length : Int) = (l, ((A.length + (Spec.putN l.length ++ putInts l).length : Nat) : Int), 0) := by
  have ht := Spec.take_put A (putInts l ++ B) l.length (by omega)
  have e : A ++ ((Spec.putN l.length ++ putInts l) ++ B) = A ++ (Spec.putN l.length ++ (putInts l ++ B)) := by rw [List.append_assoc]
  have e2 : A ++ (Spec.putN l.length ++ (putInts l ++ B)) = (A ++ Spec.putN l.length) ++ (putInts l ++ B) := (List.append_assoc ..).symm
  have hge : l.length ≤ (putInts l).length := putInts_ge l
  have hi := takeInts_put B l (A ++ Spec.putN l.length) [] ((A ++ (Spec.putN l.length ++ (putInts l ++ B))).length + 1) hl (by rw [List.length_append, List.length_append, List.length_append]; omega)
  have hlA : (A ++ Spec.putN l.length).length = A.length + (Spec.putN l.length).length := List.length_append ..
  rw [hlA, List.nil_append, ← e2] at hi
  unfold Spec.takeList
  rw [e, ht]
  simp only [if_true]
  rw [if_neg (by omega), Int.toNat_natCast, hi, List.length_append, Nat.add_assoc]

theorem wrapSum (x y : Nat) (h : x + y < 100000) : wrap64 ((x : Int) + (y : Int)) = ((x + y : Nat) : Int) := by
  unfold wrap64
  omega

theorem j1_good (k : Nat) (s : ByteArray) (l A t u : List Int) (hn : l.length ≤ 300) (hA : A.length + t.length < 100000) (hA2 : A.length + u.length < 100000) (hk : 500 ≤ k) :
    horariumlaw03_OctetBack.j1 (k + 1) s l (A.length : Int) t u s ((A.length + t.length : Nat) : Int) 0 l ((A.length + u.length : Nat) : Int) 0 false = some true := by
  rw [horariumlaw03_OctetBack.j1, if_neg Bool.false_ne_true, if_pos rfl, wrapSum _ _ hA, if_pos rfl, if_pos rfl, ints_self l (by omega) k (by omega), Option.bind_some, if_pos rfl, wrapSum _ _ hA2, if_pos rfl, if_pos rfl, heads03_eq k (by omega), Option.bind_some]

theorem OctetBack (a0 a1 : Int) (a2 : ByteArray) (l3 l4 l5 : List Int) (w0 : (Lit.int .u64 a0).wf = true) (w1 : (Lit.int .i64 a1).wf = true)
    (w3 : ∀ x ∈ l3, (Lit.int .i64 x).wf = true) (w4 : ∀ x ∈ l4, (Lit.int .u8 x).wf = true) (w5 : ∀ x ∈ l5, (Lit.int .u8 x).wf = true) : ∃ k, horariumlaw03_OctetBack.f k a0 a1 a2 l3 l4 l5 = some true := by
  obtain ⟨b0, b0'⟩ := bounds_u64 w0
  obtain ⟨n, rfl⟩ := Int.eq_ofNat_of_zero_le b0
  have b1 := bounds_i64 w1
  have hl := ints_of_wf w3
  have hA := bytes_of_wf w4
  have hB := bytes_of_wf w5
  have hn : n < 18446744073709551616 := by omega
  have hz : Spec.foldZ a1 < 18446744073709551616 := Spec.foldZ_lt a1 (by omega) (by omega)
  refine ⟨9002, ?_⟩
  have out : horariumlaw03_OctetBack.j0 9002 (n : Int) a1 a2 l3 l4 l5 true = some true := by
    rw [horariumlaw03_OctetBack.j0, if_pos rfl, heads03_eq 9001 (by decide), Option.bind_some]
  unfold horariumlaw03_OctetBack.f
  rw [short_eq, Option.bind_some]
  by_cases hs : l4.length ≤ 2000 ∧ a2.size ≤ 1000 ∧ l3.length ≤ 300
  · rw [decide_eq_true hs, if_pos rfl, short_eq, Option.bind_some]
    by_cases hs' : l5.length ≤ 2000 ∧ a2.size ≤ 1000 ∧ l3.length ≤ 300
    · obtain ⟨hA1, hs2, hs3⟩ := hs
      have hB1 := hs'.1
      rw [decide_eq_true hs', Bool.not_true]
      obtain ⟨t1, _⟩ := putText_eq 9001 a2 (by omega) (by decide)
      obtain ⟨p1, _⟩ := putList_eq 9001 l3 hl (by omega) (by omega)
      have q0 := Spec.putN_length n
      have q1 := Spec.putN_length (Spec.foldZ a1)
      have q2 := Spec.putN_length a2.size
      have q3 := Spec.putN_length l3.length
      have q4 := putInts_length l3
      have q5 : (Spec.putN a2.size ++ bytesOf a2).length ≤ 1010 := by rw [List.length_append, bytesOf_length]; omega
      have q6 : (Spec.putN l3.length ++ putInts l3).length ≤ 3010 := by rw [List.length_append]; omega
      have z0 : Bytes (l4 ++ (Spec.putN n ++ l5)) := Bytes.append hA (Bytes.append (Spec.putN_bytes _ hn) hB)
      have z1 : Bytes (l4 ++ (Spec.putN (Spec.foldZ a1) ++ l5)) := Bytes.append hA (Bytes.append (Spec.putN_bytes _ hz) hB)
      have z2 : Bytes (l4 ++ ((Spec.putN a2.size ++ bytesOf a2) ++ l5)) := Bytes.append hA (Bytes.append (Bytes.append (Spec.putN_bytes _ (by omega)) (bytesOf_bytes' a2)) hB)
      have z3 : Bytes (l4 ++ ((Spec.putN l3.length ++ putInts l3) ++ l5)) := Bytes.append hA (Bytes.append (Bytes.append (Spec.putN_bytes _ (by omega)) (putInts_bytes l3 hl)) hB)
      have y2 : (l4 ++ ((Spec.putN a2.size ++ bytesOf a2) ++ l5)).length ≤ 5010 := by rw [List.length_append, List.length_append]; omega
      have y3 : (l4 ++ ((Spec.putN l3.length ++ putInts l3) ++ l5)).length ≤ 7010 := by rw [List.length_append, List.length_append]; omega
      obtain ⟨u2, _⟩ := takeText_eq 9001 _ (l4.length : Int) (a2.size : Int) z2 (by omega) (by omega) (by decide)
      obtain ⟨u3, _⟩ := takeList_eq 9001 _ (l4.length : Int) (l3.length : Int) z3 (by omega) (by omega) (by omega)
      have hj := j1_good 9000 a2 l3 l4 (Spec.putN a2.size ++ bytesOf a2) (Spec.putN l3.length ++ putInts l3) hs3 (by omega) (by omega) (by decide)
      rw [horariumlaw03_OctetBack.j0, if_neg Bool.false_ne_true, put_eq 9001 n hn (by decide), Option.bind_some, putInt_eq 9001 a1 (by omega) (by omega) (by decide), Option.bind_some, t1, Option.bind_some, p1, Option.bind_some]
      rw [wrap_eq _ _ _ (by omega), Option.bind_some, take_eq _ _ _ z0, Option.bind_some, wrap_eq _ _ _ (by omega), Option.bind_some, takeInt_eq _ _ _ z1, Option.bind_some, wrap_eq _ _ _ (by omega), Option.bind_some, u2, Option.bind_some, wrap_eq _ _ _ (by omega), Option.bind_some, u3, Option.bind_some]
      rw [Spec.take_put l4 l5 n hn, takeInt_put l4 l5 a1 hz, takeText_put l4 l5 a2 hs2, takeList_put l4 l5 l3 hl hs3]
      rw [if_pos rfl, wrapSum _ _ (by omega), if_pos rfl, if_pos rfl, if_pos rfl, wrapSum _ _ (by omega), if_pos rfl]
      exact hj
    · rw [decide_eq_false hs', Bool.not_false]
      exact out
  · rw [decide_eq_false hs, if_neg Bool.false_ne_true]
    exact out

end Go.Proofs.Ytccjdefhieilpaa.Pure
