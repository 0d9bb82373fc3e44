/-
 What the law VaultPlays needs of LogSame (what it does not use is left out by a program of this session, wip/tools/dce.py).
-/
import Derived.Test.YtccjdefhieilpaaRPLx1
import Derived.Test.YtccjdefhieilpaaRLogPure
namespace Go.Proofs.Ytccjdefhieilpaa.Pure
open Go.RowKit Go.Proofs.Ytccjdefhieilpaa.PB Go.Proofs.Ytccjdefhieilpaa.PL Go.Proofs.YtccjdefhieilpaaW.PrintWords Go.Proofs.YtccjdefhieilpaaW.PrintLast Go.Proofs.YtccjdefhieilpaaW.PrintMore
instance : DecidableEq S68 := fun x y => if h : x.f0 = y.f0 ∧ x.f1 = y.f1 then isTrue (by
  cases x; cases y
  simp only at h
  rw [h.1, h.2]) else isFalse (fun e => h ⟨by rw [e], by rw [e]⟩)
theorem strs_iff {a b : List Int} (ha : Bytes a) (hb : Bytes b) : (strOfNums a).toList = (strOfNums b).toList ↔ a = b := ⟨str_inj ha hb, fun h => by rw [h]⟩
theorem same_drop (l m : List S68) (hl : Datas l) (hm : Datas m) (hn : l.length = m.length) (d : Nat) : ∀ (i k : Nat), i + d = l.length → l.length ≤ 140737488351232 → d + 1 ≤ k →
  horariumref47_Same.l0 k l m (i : Int) = some (decide (l.drop i = m.drop i)) := by
 induction d with
 | zero =>
  intro i k hi _ hk
  obtain ⟨k, rfl⟩ : ∃ j, k = j + 1 := ⟨k - 1, by omega⟩
  rw [horariumref47_Same.l0, if_neg (by omega), List.drop_eq_nil_of_le (by omega), List.drop_eq_nil_of_le (by omega), decide_eq_true rfl]
 | succ d ih =>
  intro i k hi hbig hk
  obtain ⟨k, rfl⟩ : ∃ j, k = j + 1 := ⟨k - 1, by omega⟩
  have hil : i < l.length := by omega
  have him : i < m.length := by omega
  have b1 := hl _ (T68_mem l i hil)
  have b2 := hm _ (T68_mem m i him)
  rw [horariumref47_Same.l0, if_pos (by omega), if_pos (by omega), if_pos (by omega), wrap_succ (n := l.length) hil hbig, ih (i + 1) k (by omega) hbig (by omega), T68_at l i hil, T68_at m i him]
  generalize rd_T68 l (i : Int) = x at *
  generalize rd_T68 m (i : Int) = y at *
  by_cases h0 : x.f0 = y.f0
  ·rw [if_pos h0]
   by_cases h1 : x.f1 = y.f1
   ·have hxy : x = y := by
     cases x; cases y
     simp only at h0 h1
     rw [h0, h1]
    rw [if_pos ((strs_iff b1 b2).2 h1), hxy]
    congr 1
    exact decide_eq_decide.2 ⟨fun h => by rw [h], fun h => (List.cons.inj h).2⟩
   ·rw [if_neg (fun h => h1 ((strs_iff b1 b2).1 h)), decide_eq_false (fun h => h1 (by rw [(List.cons.inj h).1]))]
  ·rw [if_neg h0, decide_eq_false (fun h => h0 (by rw [(List.cons.inj h).1]))]
theorem rsame_eq (k : Nat) (l m : List S68) (hl : Datas l) (hm : Datas m) (hn : l.length ≤ 140737488351232) (hk : l.length + 2 ≤ k) : horariumref47_Same.f k l m = some (decide (l = m)) := by
 unfold horariumref47_Same.f
 by_cases h : l.length = m.length
 ·rw [if_pos (by omega)]
  have := same_drop l m hl hm h l.length 0 k (by omega) hn (by omega)
  rw [List.drop_zero, List.drop_zero] at this
  exact this
 ·rw [if_neg (by omega), decide_eq_false (fun h' => h (by rw [h']))]
end Go.Proofs.Ytccjdefhieilpaa.Pure
