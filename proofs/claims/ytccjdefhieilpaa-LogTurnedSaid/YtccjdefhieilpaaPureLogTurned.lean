/-
  LogTurned: a frame of which one byte is turned is refused, for every input of the statement.
-/
import Derived.Test.YtccjdefhieilpaaPLx11
import Derived.Test.YtccjdefhieilpaaLogFew
import Derived.Laws.BitsAllLaws
namespace Go.Proofs.Ytccjdefhieilpaa.Pure
open Go.RowKit Go.Proofs.Ytccjdefhieilpaa.PB Go.Proofs.Ytccjdefhieilpaa.PL Go.Proofs.YtccjdefhieilpaaW.PrintWords Go.Proofs.YtccjdefhieilpaaW.PrintLast
theorem head_size (c : Int) (n : Nat) (rest : List Int) (hc : c ≠ 0) (hn : n ≤ 1048576) : Spec.sizeL ([231, c] ++ (Spec.putN n ++ rest)) = ((n : Int), ((2 + (Spec.putN n).length : Nat) : Int), 0) := by
  have ht := Spec.take_put [231, c] rest n (by omega)
  have e2 : ((([231, c] : List Int).length : Nat) : Int) = 2 := rfl
  rw [e2] at ht
  unfold Spec.sizeL
  rw [ht]
  have r0 : rd ([231, c] ++ (Spec.putN n ++ rest)) 0 = 231 := rfl
  have r1 : rd ([231, c] ++ (Spec.putN n ++ rest)) 1 = c := rfl
  rw [r0, r1, if_neg (by omega), if_neg (by rw [List.length_append]; simp only [List.length_cons, List.length_nil]; omega)]
  simp only [ne_eq, not_true_eq_false, if_false]
  rw [if_neg (by omega)]
  rfl
/-- A frame with one byte turned, in the kind, the data or the sum. -/
theorem next_turned (e : Int × List Int) (h : Spec.rightE e) (hb : Bytes e.2) (i b : Nat) (hi : i < (Spec.frameL e).length) (hb1 : b < 256) (hb0 : b ≠ 0) (hw : i = 1 ∨ 2 + (Spec.putN e.2.length).length ≤ i) :
    Bytes ((Spec.frameL e).set i ((((Spec.frameL e).getD i 0).toNat ^^^ b : Nat) : Int)) ∧
    (Spec.nextL ((Spec.frameL e).set i ((((Spec.frameL e).getD i 0).toNat ^^^ b : Nat) : Int)) = ((0, []), 0, 27) ∨
      (Spec.nextL ((Spec.frameL e).set i ((((Spec.frameL e).getD i 0).toNat ^^^ b : Nat) : Int)) = ((0, []), 0, 3) ∧ i = 1 ∧ rd ((Spec.frameL e).set i ((((Spec.frameL e).getD i 0).toNat ^^^ b : Nat) : Int)) 1 = 0)) := by
  have hz := Spec.frameL_bytes h hb
  have ho : Spec.openL (Spec.frameL e) = (Spec.bodyL e, 0) := open_seal _
  have ht := Spec.open_turned (Spec.frameL e) hz (by rw [ho]) i b hi hb1 hb0
  have hl := Spec.frameL_length e
  have hs := Spec.frame_split e []
  rw [List.append_nil] at hs
  have hlen : ((Spec.frameL e).set i ((((Spec.frameL e).getD i 0).toNat ^^^ b : Nat) : Int)).length = 2 + (Spec.putN e.2.length).length + e.2.length + 4 := by rw [List.length_set, hl]
  refine ⟨?_, ?_⟩
  · intro x hx
    rcases List.mem_or_eq_of_mem_set hx with hx | rfl
    · exact hz x hx
    · have hzi : 0 ≤ (Spec.frameL e).getD i 0 ∧ (Spec.frameL e).getD i 0 < 256 := by
        rw [List.getD_eq_getElem?_getD, List.getElem?_eq_getElem hi]
        exact hz _ (List.getElem_mem hi)
      have : ((Spec.frameL e).getD i 0).toNat ^^^ b < 2 ^ 8 := Nat.xor_lt_two_pow (by omega) hb1
      omega
  generalize ((((Spec.frameL e).getD i 0).toNat ^^^ b : Nat) : Int) = v at *
  have go (hsz : Spec.sizeL ((Spec.frameL e).set i v) = ((e.2.length : Int), ((2 + (Spec.putN e.2.length).length : Nat) : Int), 0)) : Spec.nextL ((Spec.frameL e).set i v) = ((0, []), 0, 27) :=
    nextL_sum hsz (by omega) (by rw [List.take_of_length_le (by omega)]; exact ht)
  rcases hw with rfl | hw
  · have e1 : (Spec.frameL e).set 1 v = [231, v] ++ (Spec.putN e.2.length ++ (e.2 ++ (Spec.le4 (Spec.crcN (Spec.bodyL e)) ++ []))) := by rw [hs]; rfl
    by_cases hv : v = 0
    · right
      refine ⟨?_, rfl, by rw [e1, hv]; rfl⟩
      refine nextL_err ?_ (by decide)
      rw [e1, hv]
      unfold Spec.sizeL
      rw [if_pos (.inr ⟨by simp only [List.length_append, List.length_cons]; omega, rfl⟩)]
    · left
      refine go ?_
      rw [e1]
      exact head_size v _ _ hv h.2.2
  · left
    refine go ?_
    have e1 : (Spec.frameL e).set i v = [231, e.1] ++ (Spec.putN e.2.length ++ (e.2 ++ (Spec.le4 (Spec.crcN (Spec.bodyL e)) ++ [])).set (i - (2 + (Spec.putN e.2.length).length)) v) := by
      rw [hs, ← List.append_assoc, List.set_append_right _ _ (by rw [List.length_append]; exact hw), List.append_assoc, List.length_append]
      rfl
    rw [e1]
    exact head_size e.1 _ _ (by have := h.1; omega) h.2.2
theorem turned_j3 (k : Nat) (e : Int × List Int) (h : Spec.rightE e) (hb : Bytes e.2) (i b : Nat) (hi : i < (Spec.frameL e).length) (hb1 : b < 256) (hb0 : b ≠ 0) (hw : i = 1 ∨ 2 + (Spec.putN e.2.length).length ≤ i) (hk : 20000000 ≤ k) :
    horariumlaw47_LogTurned.j3 (k + 1) (i : Int) (b : Int) (Spec.frameL e) false = some true := by
  have hs := frame_small e.1 e.2 h
  have hp := Spec.frameL_pos e
  have hsm : (Spec.frameL e).length ≤ 1048600 := hs
  have hx : bits .xor .u8 (rd (Spec.frameL e) (i : Int)) (b : Int) = ((((Spec.frameL e).getD i 0).toNat ^^^ b : Nat) : Int) := by
    obtain ⟨h0, h1⟩ := (Spec.frameL_bytes h hb).at i
    have hr : rd (Spec.frameL e) (i : Int) = (Spec.frameL e).getD i 0 := by unfold rd; rw [Int.toNat_natCast]
    rw [hr] at h0 h1 ⊢
    obtain ⟨v, hv⟩ := Int.eq_ofNat_of_zero_le h0
    rw [hv] at h1 ⊢
    exact u8_xor_nat v _ (by omega) hb1
  have hh := horariumlaw47_heads.eq k (by omega)
  have hlen : ((Spec.frameL e).set i ((((Spec.frameL e).getD i 0).toNat ^^^ b : Nat) : Int)).length = (Spec.frameL e).length := List.length_set ..
  obtain ⟨hby, hn⟩ := next_turned e h hb i b hi hb1 hb0 hw
  rw [horariumlaw47_LogTurned.j3, if_neg Bool.false_ne_true, if_pos (by omega), if_pos (by omega), hx, Int.toNat_natCast, Option.bind_some]
  generalize (Spec.frameL e).set i ((((Spec.frameL e).getD i 0).toNat ^^^ b : Nat) : Int) = f at *
  have hna := next_at f 0 (Nat.zero_le _)
  rw [List.drop_zero, Int.natCast_zero] at hna
  rw [lnext_eq k f 0 hby (by omega) (by omega), Option.bind_some]
  have z0 : ((([] : List Int).length : Nat) : Int) = 0 := rfl
  rcases hn with hn | ⟨hn, h1, hr⟩
  · rw [hn, if_pos (by decide)] at hna
    rw [hna]
    show (if (27 : Int) = 27 then _ else _) = _
    rw [if_pos rfl]
    show (if (0 : Int) = 0 then _ else _) = _
    rw [if_pos rfl]
    show (if ((([] : List Int).length : Nat) : Int) = 0 then _ else _) = _
    rw [if_pos z0]
    show (if (0 : Int) = 0 then _ else _) = _
    rw [if_pos rfl, hh, Option.bind_some]
  · rw [hn, if_pos (by decide)] at hna
    rw [hna]
    show (if (3 : Int) = 27 then _ else _) = _
    rw [if_neg (by decide)]
    show (if (3 : Int) = 3 then _ else _) = _
    rw [if_pos rfl, if_pos (by omega), if_pos (by omega), if_pos hr]
    show (if (0 : Int) = 0 then _ else _) = _
    rw [if_pos rfl]
    show (if ((([] : List Int).length : Nat) : Int) = 0 then _ else _) = _
    rw [if_pos z0]
    show (if (0 : Int) = 0 then _ else _) = _
    rw [if_pos rfl, hh, Option.bind_some]
theorem turned_j1 (k : Nat) (e : Int × List Int) (h : Spec.rightE e) (hb : Bytes e.2) (a : Int) (b : Nat) (hb1 : b < 256) (hb0 : b ≠ 0) (h0 : ¬ a < 0) (h1 : ¬ a ≥ ((Spec.frameL e).length : Int)) (hk : 20000000 ≤ k) :
    horariumlaw47_LogTurned.j1 (k + 3) a (b : Int) (Spec.frameL e) false e.1 e.2 = some true := by
  have hs := frame_small e.1 e.2 h
  have hp := Spec.frameL_pos e
  have hl := Spec.frameL_length e
  have hsm : (Spec.frameL e).length ≤ 1048600 := hs
  have hh := horariumlaw47_heads.eq k (by omega)
  obtain ⟨i, rfl⟩ : ∃ i : Nat, a = (i : Int) := ⟨a.toNat, by omega⟩
  have hby : Bytes ([0] ++ Spec.frameL e) := Bytes.append (fun x hx => by rw [List.mem_singleton.1 hx]; omega) (Spec.frameL_bytes h hb)
  have hlen : ([0] ++ Spec.frameL e).length = 1 + (Spec.frameL e).length := by rw [List.length_append]; rfl
  have hna := next_at ([0] ++ Spec.frameL e) 1 (by omega)
  have hnf := Spec.next_frame e [] h
  rw [List.append_nil] at hnf
  rw [show (([0] : List Int) ++ Spec.frameL e).drop 1 = Spec.frameL e from rfl, hnf, if_neg (fun h => h rfl)] at hna
  have e1 : ((1 : Nat) : Int) = 1 := rfl
  rw [e1] at hna
  have hw : wrap64 (((Spec.frameL e).length : Int) + 1) = (((Spec.frameL e).length + 1 : Nat) : Int) := by unfold wrap64; omega
  have hw4 : wrap64 (((Spec.frameL e).length : Int) - 4) = (((Spec.frameL e).length - 4 : Nat) : Int) := by unfold wrap64; omega
  have hwn : wrap64 ((((Spec.frameL e).length - 4 : Nat) : Int) - (e.2.length : Int)) = ((2 + (Spec.putN e.2.length).length : Nat) : Int) := by unfold wrap64; omega
  rw [horariumlaw47_LogTurned.j1, if_neg Bool.false_ne_true, Option.bind_some, if_pos (by simp only [List.length_cons, List.length_nil]; omega), lnext_eq (k + 2) _ 1 hby (by omega) (by omega), Option.bind_some, hna]
  show (if (0 : Int) = 0 then _ else _) = _
  rw [if_pos rfl]
  show (if ((1 + (Spec.frameL e).length : Nat) : Int) = wrap64 (((Spec.frameL e).length : Int) + 1) then _ else _) = _
  rw [hw, if_pos (by omega)]
  show (if e.1 = e.1 then _ else _) = _
  rw [if_pos rfl]
  show ((horariumref03_Same.f e.2 e.2).bind fun t460 => _) = _
  rw [same_self, Option.bind_some, Bool.not_true, horariumlaw47_LogTurned.j2, if_neg Bool.false_ne_true]
  by_cases hi : (i : Int) = 1
  · rw [if_pos hi]
    exact turned_j3 k e h hb i b (by omega) hb1 hb0 (.inl (by omega)) hk
  · rw [if_neg hi, hw4, hwn]
    by_cases hc : (i : Int) < ((2 + (Spec.putN e.2.length).length : Nat) : Int)
    · rw [decide_eq_true hc, horariumlaw47_LogTurned.j3, if_pos rfl, hh, Option.bind_some]
    · rw [decide_eq_false hc]
      exact turned_j3 k e h hb i b (by omega) hb1 hb0 (.inr (by omega)) hk
theorem LogTurned (a : Int) (l : List Int) (at_ : Int) (bit : Int) (hb : Bytes l) (hn : l.length ≤ 140737488351232) (h0 : 0 ≤ bit) (h1 : bit < 256) : ∃ k, horariumlaw47_LogTurned.f k a l at_ bit = some true := by
  obtain ⟨k, hk⟩ : ∃ k, k = 30000000 := ⟨_, rfl⟩
  refine ⟨k + 4, ?_⟩
  obtain ⟨b, rfl⟩ : ∃ b : Nat, bit = (b : Int) := ⟨bit.toNat, by omega⟩
  obtain ⟨c, hc, _⟩ := few_some (k + 4) [(⟨a, l⟩ : S68)] (by simp only [List.length_cons, List.length_nil]; omega) (by simp only [List.length_cons, List.length_nil]; omega)
  have hh := horariumlaw47_heads.eq (k + 3) (by omega)
  have hh2 := horariumlaw47_heads.eq (k + 2) (by omega)
  have out : horariumlaw47_LogTurned.j0 (k + 4) at_ (b : Int) true a l = some true := by
    rw [horariumlaw47_LogTurned.j0, if_pos rfl, hh, Option.bind_some]
  have out1 (x : List Int) : horariumlaw47_LogTurned.j1 (k + 3) at_ (b : Int) x true a l = some true := by
    rw [horariumlaw47_LogTurned.j1, if_pos rfl, hh2, Option.bind_some]
  unfold horariumlaw47_LogTurned.f
  rw [Option.bind_some, if_pos (by rw [List.length_nil]; omega), List.nil_append, hc, Option.bind_some]
  cases c with
  | false => rw [if_neg Bool.false_ne_true]; exact out
  | true =>
    rw [if_pos rfl]
    by_cases hb0 : b = 0
    · rw [hb0, show (((0 : Nat) : Int) == 0) = true from rfl, ← hb0]
      exact out
    · rw [show ((b : Int) == 0) = false from beq_eq_false_iff_ne.2 (by omega), horariumlaw47_LogTurned.j0, if_neg Bool.false_ne_true, frame_eq (k + 3) a l hb (by omega), Option.bind_some]
      by_cases hr : Spec.rightE (a, l)
      · rw [if_pos hr, if_pos rfl]
        by_cases ha : at_ < 0
        · rw [if_pos ha]
          exact out1 _
        · rw [if_neg ha]
          by_cases hge : at_ ≥ ((Spec.frameL (a, l)).length : Int)
          · rw [decide_eq_true hge]
            exact out1 _
          · rw [decide_eq_false hge]
            exact turned_j1 k (a, l) hr hb at_ b (by omega) hb0 ha hge (by omega)
      · rw [if_neg hr, if_neg (show ¬ (2 : Int) = 0 by decide)]
        exact out1 _
end Go.Proofs.Ytccjdefhieilpaa.Pure
