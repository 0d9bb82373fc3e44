/-
  LogJoins: two rows of entries, one behind the other, are their bytes so, for every input of the statement.
-/
import Derived.Test.YtccjdefhieilpaaPLx13
import Derived.Test.YtccjdefhieilpaaLogFew
namespace Go.Proofs.Ytccjdefhieilpaa.Pure
open Go.RowKit Go.Proofs.Ytccjdefhieilpaa.PB Go.Proofs.Ytccjdefhieilpaa.PL Go.Proofs.YtccjdefhieilpaaW.PrintWords Go.Proofs.YtccjdefhieilpaaW.PrintLast
theorem strOf_append (a b : List Int) : strOfNums (a ++ b) = strOfNums a ++ strOfNums b := by
  apply ByteArray.ext
  apply Array.toList_inj.1
  rw [ByteArray.data_append, Array.toList_append, strOfNums_data, strOfNums_data, strOfNums_data, List.map_append]
theorem strOf_size (a : List Int) : (strOfNums a).size = a.length := by
  have h : (strOfNums a).data.toList.length = a.length := by rw [strOfNums_data, List.length_map]
  rw [← h]
  rfl
theorem Rights_append (l m : List S68) : Rights (l ++ m) ↔ Rights l ∧ Rights m := by
  unfold Rights
  simp only [List.forall_mem_append]
theorem Datas_append {l m : List S68} (h : Datas l) (h' : Datas m) : Datas (l ++ m) := fun x hx => (List.mem_append.1 hx).elim (h x) (h' x)
theorem framesS_small : ∀ (l : List S68), Rights l → (framesS l).length ≤ l.length * 1048600
  | [], _ => Nat.zero_le _
  | x :: l, h => by
    have h1 := (Rights_cons x l).1 h
    have ih := framesS_small l h1.2
    have hs := frame_small x.f0 x.f1 h1.1
    have hs' : (Spec.frameL (p68 x)).length ≤ 1048600 := hs
    rw [framesS_cons, List.length_append, List.length_cons]
    omega
theorem framesS_take (l : List S68) (i : Nat) (h : i < l.length) : (framesS (l.take (i + 1))).length = (framesS (l.take i)).length + (Spec.frameL (p68 (rd_T68 l (i : Int)))).length := by
  have e : l.take (i + 1) = l.take i ++ [rd_T68 l (i : Int)] := by
    unfold rd_T68
    rw [Int.toNat_natCast, List.getD_eq_getElem?_getD, List.getElem?_eq_getElem h, List.take_add_one, List.getElem?_eq_getElem h]
    rfl
  rw [e, framesS_append, List.length_append]
  congr 1
  unfold framesS Spec.framesL
  simp
theorem wr_sum (a b : Nat) (h : a + b ≤ 140737488351232) : wrap64 ((a : Int) + (b : Int)) = ((a + b : Nat) : Int) := by
  unfold wrap64
  omega
theorem joins_loop (l : List S68) (x7 : List Int) (hr : Rights l) (hn : l.length ≤ 40) (h7 : x7.length ≤ 1000000000) (d : Nat) : ∀ (i k : Nat), i + d = l.length → 20000000 + d ≤ k →
    horariumlaw47_LogJoins.l0 k l (framesS l) x7 (framesS l ++ x7) 0 ((framesS (l.take i)).length : Int) (i : Int) = some true := by
  have hfl := framesS_small l hr
  induction d with
  | zero =>
    intro i k hi hk
    obtain ⟨k, rfl⟩ : ∃ j, k = j + 1 := ⟨k - 1, by omega⟩
    rw [List.take_of_length_le (by omega), horariumlaw47_LogJoins.l0, if_neg (by omega), if_pos rfl, if_pos (by rw [strOf_size, strOf_size]; omega), if_pos (by rw [strOf_append]), if_pos rfl, horariumlaw47_heads.eq k (by omega), Option.bind_some]
  | succ d ih =>
    intro i k hi hk
    obtain ⟨k, rfl⟩ : ∃ j, k = j + 1 := ⟨k - 1, by omega⟩
    have hil : i < l.length := by omega
    have hr1 : Spec.rightE ((rd_T68 l (i : Int)).f0, (rd_T68 l (i : Int)).f1) := hr _ (T68_mem l i hil)
    have ht := framesS_take l i hil
    have hs := frame_small _ _ hr1
    have hsm : (framesS (l.take i)).length ≤ (framesS l).length := by
      have e : framesS l = framesS (l.take i) ++ framesS (l.drop i) := by rw [← framesS_append, List.take_append_drop]
      rw [e, List.length_append]
      omega
    have hnat : (l.length : Nat) ≤ 140737488351232 := by omega
    have hadd : (framesS (l.take i)).length + (Spec.frameL ((rd_T68 l (i : Int)).f0, (rd_T68 l (i : Int)).f1)).length ≤ 140737488351232 := by omega
    have e := ih (i + 1) k (by omega) (by omega)
    rw [ht] at e
    rw [horariumlaw47_LogJoins.l0, if_pos (by omega), if_pos (by omega), psize_eq k _ _ (by omega), Option.bind_some, if_pos hr1, wrap_succ (n := l.length) hil hnat, wr_sum _ _ hadd]
    exact e
theorem LogJoins (l m : List S68) (hl : Datas l) (hm : Datas m) (nl : l.length ≤ 9223372036854775807) (nm : m.length ≤ 9223372036854775807) : ∃ k, horariumlaw47_LogJoins.f k l m (l ++ m) = some true := by
  obtain ⟨k, hk⟩ : ∃ k, k = 20000100 + l.length + m.length := ⟨_, rfl⟩
  refine ⟨k + 2, ?_⟩
  obtain ⟨b, hb, hb'⟩ := few_some (k + 2) l nl (by omega)
  obtain ⟨c, hc, hc'⟩ := few_some (k + 2) m nm (by omega)
  have out : horariumlaw47_LogJoins.j0 (k + 2) l m (l ++ m) true = some true := by
    rw [horariumlaw47_LogJoins.j0, if_pos rfl, horariumlaw47_heads.eq (k + 1) (by omega), Option.bind_some]
  unfold horariumlaw47_LogJoins.f
  rw [hb, Option.bind_some]
  cases b with
  | false => rw [if_neg Bool.false_ne_true]; exact out
  | true =>
    rw [if_pos rfl, hc, Option.bind_some]
    cases c with
    | false => exact out
    | true =>
      have n1 := hb' rfl
      have n2 := hc' rfl
      have hh := horariumlaw47_heads.eq k (by omega)
      rw [Bool.not_true, horariumlaw47_LogJoins.j0, if_neg Bool.false_ne_true, write_eq (k + 1) l hl (by omega) (by omega), Option.bind_some, write_eq (k + 1) m hm (by omega) (by omega), Option.bind_some, if_pos (by omega),
        write_eq (k + 1) (l ++ m) (Datas_append hl hm) (by rw [List.length_append]; omega) (by omega), Option.bind_some]
      by_cases r1 : Rights l
      · rw [if_pos r1, if_pos rfl]
        by_cases r2 : Rights m
        · have h7 := framesS_small m r2
          have e := joins_loop l (framesS m) r1 (by omega) (by omega) l.length 0 k (by omega) (by omega)
          rw [if_pos r2, if_pos ((Rights_append l m).2 ⟨r1, r2⟩), framesS_append]
          show horariumlaw47_LogJoins.j1 (k + 1) l (framesS l) (framesS m) (framesS l ++ framesS m) 0 false = some true
          rw [horariumlaw47_LogJoins.j1, if_neg Bool.false_ne_true]
          exact e
        · rw [if_neg r2, if_neg (fun h => r2 ((Rights_append l m).1 h).2)]
          show horariumlaw47_LogJoins.j1 (k + 1) l (framesS l) [] [] 2 true = some true
          rw [horariumlaw47_LogJoins.j1, if_pos rfl, if_pos rfl, if_pos (show ((([] : List Int).length : Nat) : Int) = 0 from rfl), hh, Option.bind_some]
      · rw [if_neg r1, if_neg (show ¬ (2 : Int) = 0 by decide), if_neg (fun h => r1 ((Rights_append l m).1 h).1)]
        show horariumlaw47_LogJoins.j1 (k + 1) l [] (if Rights m then (framesS m, (0 : Int)) else ([], 2)).1 [] 2 true = some true
        rw [horariumlaw47_LogJoins.j1, if_pos rfl, if_pos rfl, if_pos (show ((([] : List Int).length : Nat) : Int) = 0 from rfl), hh, Option.bind_some]
end Go.Proofs.Ytccjdefhieilpaa.Pure
