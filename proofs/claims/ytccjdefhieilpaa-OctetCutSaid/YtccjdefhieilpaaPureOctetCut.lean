/-
  OctetCut: each beginning of what was put is short, for every input of the statement.
-/
import Derived.Test.YtccjdefhieilpaaPBx17
import Derived.Test.YtccjdefhieilpaaReadPure
namespace Go.Proofs.Ytccjdefhieilpaa.Pure
open Go.RowKit Go.Proofs.Ytccjdefhieilpaa.PB Go.Proofs.YtccjdefhieilpaaW.PrintWords Go.Proofs.YtccjdefhieilpaaW.PrintLast

theorem bytesOf_bytes (s : ByteArray) : Bytes (bytesOf s) := fun x hx => by
  unfold bytesOf at hx
  obtain ⟨c, _, rfl⟩ := List.mem_map.1 hx
  have := c.toNat_lt
  omega
theorem takeText_cut (s : ByteArray) (hs : s.size ≤ 1000) (q : Nat) (hq : q < (Spec.putN s.size ++ bytesOf s).length) :
    (Spec.takeText ((Spec.putN s.size ++ bytesOf s).take q) 0 1000).2.2 = 4 := by
  have hn : s.size < 18446744073709551616 := by omega
  unfold Spec.takeText
  by_cases h : q < (Spec.putN s.size).length
  · rw [List.take_append_of_le_length (by omega), Spec.take_cut0 s.size q hn h]
    rfl
  · have e : (Spec.putN s.size ++ bytesOf s).take q = [] ++ (Spec.putN s.size ++ (bytesOf s).take (q - (Spec.putN s.size).length)) := by
      rw [List.take_append, List.take_of_length_le (by omega), List.nil_append]
    have ht := Spec.take_put [] ((bytesOf s).take (q - (Spec.putN s.size).length)) s.size hn
    rw [← e] at ht
    rw [show ((([] : List Int).length : Nat) : Int) = 0 from rfl] at ht
    rw [ht]
    have hl : ((Spec.putN s.size ++ bytesOf s).take q).length = q := by rw [List.length_take]; omega
    have hq2 : q < (Spec.putN s.size).length + s.size := by rw [List.length_append, bytesOf_length] at hq; exact hq
    simp only [if_true, List.length_nil, Nat.zero_add]
    rw [if_neg (by omega), hl, if_pos (by omega)]

theorem OctetCut : horariumlaw03_OctetCut.Pure := by
  intro a0 a1 a2 w0 h1 w2
  obtain ⟨b0, b0'⟩ := bounds_u64 w0
  obtain ⟨n, rfl⟩ := Int.eq_ofNat_of_zero_le b0
  have hn : n < 18446744073709551616 := by omega
  refine ⟨1000, ?_⟩
  have out : ∀ z, z = true → horariumlaw03_OctetCut.j0 1000 (n : Int) a1 a2 z = some true := by
    intro z hz
    rw [hz, horariumlaw03_OctetCut.j0, if_pos rfl, heads03_eq 999 (by decide), Option.bind_some]
  unfold horariumlaw03_OctetCut.f
  rw [short_eq, Option.bind_some]
  by_cases hs : ([] : List Int).length ≤ 2000 ∧ a1.size ≤ 1000 ∧ ([] : List Int).length ≤ 300
  · have hs2 := hs.2.1
    rw [decide_eq_true hs, if_pos rfl]
    by_cases hc : a2 < 0
    · exact out _ (decide_eq_true hc)
    · obtain ⟨q, rfl⟩ := Int.eq_ofNat_of_zero_le (Int.not_lt.1 hc)
      obtain ⟨t1, _⟩ := putText_eq 999 a1 (by omega) (by decide)
      have j1 : horariumlaw03_OctetCut.j1 999 (q : Int) (Spec.putN a1.size ++ bytesOf a1) = some true := by
        rw [horariumlaw03_OctetCut.j1]
        by_cases hq : q < (Spec.putN a1.size ++ bytesOf a1).length
        · have hb : Bytes ((Spec.putN a1.size ++ bytesOf a1).take q) := Bytes.take (Bytes.append (Spec.putN_bytes _ (by omega)) (bytesOf_bytes a1)) q
          have hlen := Spec.putN_length a1.size
          have hl1 : (Spec.putN a1.size ++ bytesOf a1).length ≤ 1010 := by rw [List.length_append, bytesOf_length]; omega
          obtain ⟨u1, _⟩ := takeText_eq 998 ((Spec.putN a1.size ++ bytesOf a1).take q) 0 1000 hb (by rw [List.length_take]; omega) (by decide) (by decide)
          rw [if_pos (by omega), if_pos (by omega), if_pos (by omega), Int.toNat_natCast, u1, Option.bind_some, if_pos (takeText_cut a1 hs2 q hq), heads03_eq 998 (by decide), Option.bind_some]
        · rw [if_neg (by omega), heads03_eq 998 (by decide), Option.bind_some]
      rw [decide_eq_false hc, horariumlaw03_OctetCut.j0, if_neg Bool.false_ne_true, put_eq 999 n hn (by decide), Option.bind_some, t1, Option.bind_some, j1]
      by_cases hq : q < (Spec.putN n).length
      · have hb : Bytes ((Spec.putN n).take q) := Bytes.take (Spec.putN_bytes _ hn) q
        rw [if_pos (by omega), if_pos (by omega), if_pos (by omega), Int.toNat_natCast, take_eq _ _ 0 hb, Option.bind_some, Spec.take_cut0 n q hn hq, if_pos rfl]
      · rw [if_neg (by omega)]
  · rw [decide_eq_false hs, if_neg Bool.false_ne_true]
    exact out _ rfl

end Go.Proofs.Ytccjdefhieilpaa.Pure
