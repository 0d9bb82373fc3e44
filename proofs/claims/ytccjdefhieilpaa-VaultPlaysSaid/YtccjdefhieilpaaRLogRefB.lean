/-
 What the law VaultPlays needs of LogRefB (what it does not use is left out by a program of this session, wip/tools/dce.py).
-/
import Derived.Test.YtccjdefhieilpaaRPLx5
import Derived.Test.YtccjdefhieilpaaRLogSame
namespace Go.Proofs.Ytccjdefhieilpaa.Pure
open Go.RowKit Go.Proofs.Ytccjdefhieilpaa.PB Go.Proofs.Ytccjdefhieilpaa.PL Go.Proofs.YtccjdefhieilpaaW.PrintWords Go.Proofs.YtccjdefhieilpaaW.PrintLast Go.Proofs.YtccjdefhieilpaaW.PrintMore
theorem rright_eq (a : Int) (l : List Int) : horariumref47_Right.f a l = some (decide (Spec.rightE (a, l))) := right_eq a l
theorem rframe_eq (k : Nat) (a : Int) (l : List Int) (hb : Bytes l) (hk : 10486000 ≤ k) :
  horariumref47_Frame.f k a l = some (if Spec.rightE (a, l) then (Spec.frameL (a, l), 0) else ([], 2)) := by
 unfold horariumref47_Frame.f
 rw [rright_eq, Option.bind_some]
 by_cases h : Spec.rightE (a, l)
 ·have h3 : l.length ≤ 1048576 := h.2.2
  have hq := Spec.putN_length l.length
  have hw : IntKind.u64.wrap (l.length : Int) = (l.length : Int) := by rw [IntKind.wrap_u64]; omega
  have hbb := Spec.bodyL_bytes h hb
  have hbl := Spec.bodyL_length (a, l)
  have hbl' : (Spec.bodyL (a, l)).length = 2 + (Spec.putN l.length).length + l.length := hbl
  rw [decide_eq_true h, if_pos rfl, Option.bind_some, hw, rput_eq k l.length (by omega) (by omega), Option.bind_some, if_pos (by simp only [List.length_cons, List.length_nil]; omega), Option.bind_some,
   if_pos (by rw [List.length_append]; simp only [List.length_cons, List.length_nil]; omega), body_eq a l h, rseal_eq k _ hbb (by omega) (by omega), Option.bind_some, if_pos h]
  rfl
 ·rw [decide_eq_false h, if_neg Bool.false_ne_true, if_neg h]
theorem rwrite_l0 (l : List S68) (hd : Datas l) (hn : l.length ≤ 1000) (d : Nat) : ∀ (i : Nat) (acc : List Int) (k : Nat), i + d = l.length → acc.length ≤ i * 1048600 → 10486000 + d ≤ k →
  horariumref47_Write.l0 (k + 1) l acc (i : Int) = some (if Rights (l.drop i) then (acc ++ framesS (l.drop i), 0) else ([], 2)) := by
 induction d with
 | zero =>
  intro i acc k hi _ hk
  rw [horariumref47_Write.l0, if_neg (by omega), List.drop_eq_nil_of_le (by omega), if_pos (show Rights [] from fun x hx => by cases hx)]
  show some (acc, (0 : Int)) = some (acc ++ [], 0)
  rw [List.append_nil]
 | succ d ih =>
  intro i acc k hi ha hk
  obtain ⟨k, rfl⟩ : ∃ m, k = m + 1 := ⟨k - 1, by omega⟩
  have hil : i < l.length := by omega
  have hb := hd _ (T68_mem l i hil)
  rw [horariumref47_Write.l0, if_pos (by omega), if_pos (by omega), rframe_eq (k + 1) _ _ hb (by omega), Option.bind_some, T68_at l i hil]
  generalize rd_T68 l (i : Int) = x at *
  by_cases h : Spec.rightE (p68 x)
  ·have hs := frame_small x.f0 x.f1 h
   have hwr : wrap64 ((i : Int) + 1) = ((i + 1 : Nat) : Int) := wrap_succ (n := l.length) hil (by omega)
   have e := ih (i + 1) (acc ++ Spec.frameL (x.f0, x.f1)) k (by omega) (by rw [List.length_append]; omega) (by omega)
   rw [if_pos (show Spec.rightE (x.f0, x.f1) from h), if_pos rfl, if_pos (by show acc.length + (Spec.frameL (x.f0, x.f1)).length < _; omega), hwr, e]
   by_cases hr : Rights (l.drop (i + 1))
   ·rw [if_pos hr, if_pos ((Rights_cons _ _).2 ⟨h, hr⟩), framesS_cons, List.append_assoc]
    rfl
   ·rw [if_neg hr, if_neg (fun h' => hr ((Rights_cons _ _).1 h').2)]
  ·rw [if_neg (show ¬ Spec.rightE (x.f0, x.f1) from h), if_neg (by show ¬ ((2 : Int) = 0); decide), if_neg (fun h' => h ((Rights_cons _ _).1 h').1)]
theorem rwrite_eq (k : Nat) (l : List S68) (hd : Datas l) (hn : l.length ≤ 1000) (hk : 10488000 ≤ k) :
  horariumref47_Write.f k l = some (if Rights l then (framesS l, 0) else ([], 2)) := by
 obtain ⟨k, rfl⟩ : ∃ m, k = m + 1 := ⟨k - 1, by omega⟩
 have h := rwrite_l0 l hd hn l.length 0 [] k (by omega) (by simp) (by omega)
 rw [List.drop_zero] at h
 exact h
end Go.Proofs.Ytccjdefhieilpaa.Pure
