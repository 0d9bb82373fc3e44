/-
  What Frame, Size and Write of the log's reference, and Same of the log, come to as plain functions of lists.
-/
import Derived.Test.YtccjdefhieilpaaPLx5
import Derived.Test.YtccjdefhieilpaaLogSame
namespace Go.Proofs.Ytccjdefhieilpaa.Pure
open Go.RowKit Go.Proofs.Ytccjdefhieilpaa.PB Go.Proofs.Ytccjdefhieilpaa.PL Go.Proofs.YtccjdefhieilpaaW.PrintWords Go.Proofs.YtccjdefhieilpaaW.PrintLast Go.Proofs.YtccjdefhieilpaaW.PrintMore

theorem rright_eq (a : Int) (l : List Int) : horariumref47_Right.f a l = some (decide (Spec.rightE (a, l))) := right_eq a l
theorem rframe_eq (k : Nat) (a : Int) (l : List Int) (hb : Bytes l) (hk : 10486000 ≤ k) :
    horariumref47_Frame.f k a l = some (if Spec.rightE (a, l) then (Spec.frameL (a, l), 0) else ([], 2)) := by
  unfold horariumref47_Frame.f
  rw [rright_eq, Option.bind_some]
  by_cases h : Spec.rightE (a, l)
  · have h3 : l.length ≤ 1048576 := h.2.2
    have hq := Spec.putN_length l.length
    have hw : IntKind.u64.wrap (l.length : Int) = (l.length : Int) := by rw [IntKind.wrap_u64]; omega
    have hbb := Spec.bodyL_bytes h hb
    have hbl := Spec.bodyL_length (a, l)
    have hbl' : (Spec.bodyL (a, l)).length = 2 + (Spec.putN l.length).length + l.length := hbl
    rw [decide_eq_true h, if_pos rfl, Option.bind_some, hw, rput_eq k l.length (by omega) (by omega), Option.bind_some, if_pos (by simp only [List.length_cons, List.length_nil]; omega), Option.bind_some,
      if_pos (by rw [List.length_append]; simp only [List.length_cons, List.length_nil]; omega), body_eq a l h, rseal_eq k _ hbb (by omega) (by omega), Option.bind_some, if_pos h]
    rfl
  · rw [decide_eq_false h, if_neg Bool.false_ne_true, if_neg h]
theorem rsize_eq (k : Nat) (a : Int) (l : List Int) (hb : Bytes l) (hk : 10486000 ≤ k) :
    horariumref47_Size.f k a l = some (if Spec.rightE (a, l) then ((Spec.frameL (a, l)).length : Int) else 0) := by
  unfold horariumref47_Size.f
  rw [rframe_eq k a l hb hk, Option.bind_some]
  by_cases h : Spec.rightE (a, l)
  · rw [if_pos h, if_pos h]
  · rw [if_neg h, if_neg h]
    rfl
theorem rwrite_l0 (l : List S68) (hd : Datas l) (hn : l.length ≤ 1000) (d : Nat) : ∀ (i : Nat) (acc : List Int) (k : Nat), i + d = l.length → acc.length ≤ i * 1048600 → 10486000 + d ≤ k →
    horariumref47_Write.l0 (k + 1) l acc (i : Int) = some (if Rights (l.drop i) then (acc ++ framesS (l.drop i), 0) else ([], 2)) := by
  induction d with
  | zero =>
    intro i acc k hi _ hk
    rw [horariumref47_Write.l0, if_neg (by omega), List.drop_eq_nil_of_le (by omega), if_pos (show Rights [] from fun x hx => by cases hx)]
    show some (acc, (0 : Int)) = some (acc ++ [], 0)
    rw [List.append_nil]
  | succ d ih =>
    intro i acc k hi ha hk
    obtain ⟨k, rfl⟩ : ∃ m, k = m + 1 := ⟨k - 1, by omega⟩
    have hil : i < l.length := by omega
    have hb := hd _ (T68_mem l i hil)
    rw [horariumref47_Write.l0, if_pos (by omega), if_pos (by omega), rframe_eq (k + 1) _ _ hb (by omega), Option.bind_some, T68_at l i hil]
    generalize rd_T68 l (i : Int) = x at *
    by_cases h : Spec.rightE (p68 x)
    · have hs := frame_small x.f0 x.f1 h
      have hwr : wrap64 ((i : Int) + 1) = ((i + 1 : Nat) : Int) := wrap_succ (n := l.length) hil (by omega)
      have e := ih (i + 1) (acc ++ Spec.frameL (x.f0, x.f1)) k (by omega) (by rw [List.length_append]; omega) (by omega)
      rw [if_pos (show Spec.rightE (x.f0, x.f1) from h), if_pos rfl, if_pos (by show acc.length + (Spec.frameL (x.f0, x.f1)).length < _; omega), hwr, e]
      by_cases hr : Rights (l.drop (i + 1))
      · rw [if_pos hr, if_pos ((Rights_cons _ _).2 ⟨h, hr⟩), framesS_cons, List.append_assoc]
        rfl
      · rw [if_neg hr, if_neg (fun h' => hr ((Rights_cons _ _).1 h').2)]
    · rw [if_neg (show ¬ Spec.rightE (x.f0, x.f1) from h), if_neg (by show ¬ ((2 : Int) = 0); decide), if_neg (fun h' => h ((Rights_cons _ _).1 h').1)]
theorem rwrite_eq (k : Nat) (l : List S68) (hd : Datas l) (hn : l.length ≤ 1000) (hk : 10488000 ≤ k) :
    horariumref47_Write.f k l = some (if Rights l then (framesS l, 0) else ([], 2)) := by
  obtain ⟨k, rfl⟩ : ∃ m, k = m + 1 := ⟨k - 1, by omega⟩
  have h := rwrite_l0 l hd hn l.length 0 [] k (by omega) (by simp) (by omega)
  rw [List.drop_zero] at h
  exact h

theorem lsame_drop (l m : List S68) (hl : Datas l) (hm : Datas m) (hn : l.length = m.length) (d : Nat) : ∀ (i k : Nat), i + d = l.length → l.length ≤ 140737488351232 → d + 1 ≤ k →
    api_Entry.l0 k m l (l.length : Int) (i : Int) = some (decide (l.drop i = m.drop i)) := by
  induction d with
  | zero =>
    intro i k hi _ hk
    obtain ⟨k, rfl⟩ : ∃ j, k = j + 1 := ⟨k - 1, by omega⟩
    rw [api_Entry.l0, if_neg (by omega), List.drop_eq_nil_of_le (by omega), List.drop_eq_nil_of_le (by omega), decide_eq_true rfl]
  | succ d ih =>
    intro i k hi hbig hk
    obtain ⟨k, rfl⟩ : ∃ j, k = j + 1 := ⟨k - 1, by omega⟩
    have hil : i < l.length := by omega
    have him : i < m.length := by omega
    have b1 := hl _ (T68_mem l i hil)
    have b2 := hm _ (T68_mem m i him)
    rw [api_Entry.l0, if_pos (by omega), if_pos (by omega), if_pos (by omega), if_pos (by omega), wrap_succ (n := l.length) hil hbig, ih (i + 1) k (by omega) hbig (by omega), T68_at l i hil, T68_at m i him]
    generalize rd_T68 l (i : Int) = x at *
    generalize rd_T68 m (i : Int) = y at *
    unfold log_Same_1.f bytes_Equal.f
    by_cases h0 : x.f0 = y.f0
    · rw [if_pos h0, Option.bind_some, Option.bind_some]
      by_cases h1 : x.f1 = y.f1
      · have hxy : x = y := by
          cases x; cases y
          simp only at h0 h1
          rw [h0, h1]
        rw [beq_iff_eq.2 ((strs_iff b1 b2).2 h1), if_pos rfl, hxy]
        congr 1
        exact decide_eq_decide.2 ⟨fun h => by rw [h], fun h => (List.cons.inj h).2⟩
      · rw [beq_eq_false_iff_ne.2 (fun h => h1 ((strs_iff b1 b2).1 h)), if_neg Bool.false_ne_true, decide_eq_false (fun h => h1 (by rw [(List.cons.inj h).1]))]
    · rw [if_neg h0, Option.bind_some, if_neg Bool.false_ne_true, decide_eq_false (fun h => h0 (by rw [(List.cons.inj h).1]))]
theorem lsame_eq (k : Nat) (l m : List S68) (hl : Datas l) (hm : Datas m) (hn : l.length ≤ 140737488351232) (hk : l.length + 2 ≤ k) : log_Same.f k l m = some (decide (l = m)) := by
  unfold log_Same.f api_Entry.f
  by_cases h : l.length = m.length
  · rw [if_pos (by omega)]
    have := lsame_drop l m hl hm h l.length 0 k (by omega) hn (by omega)
    rw [List.drop_zero, List.drop_zero, Int.natCast_zero] at this
    rw [this]
    rfl
  · rw [if_neg (by omega), decide_eq_false (fun h' => h (by rw [h']))]
    rfl

end Go.Proofs.Ytccjdefhieilpaa.Pure
