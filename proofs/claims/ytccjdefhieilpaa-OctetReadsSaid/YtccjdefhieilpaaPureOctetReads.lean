/-
  OctetReads: TakeText and TakeList return the reference's value or error at every index of any bytes, for every input of the statement.
-/
import Derived.Test.YtccjdefhieilpaaPBx16
import Derived.Test.YtccjdefhieilpaaReadPure
namespace Go.Proofs.Ytccjdefhieilpaa.Pure
open Go.RowKit Go.Proofs.Ytccjdefhieilpaa.PB Go.Proofs.YtccjdefhieilpaaW.PrintWords Go.Proofs.YtccjdefhieilpaaW.PrintLast

theorem takeInts_len (b : List Int) (f : Nat) : ∀ (m : Nat) (a : Int) (l : List Int), (Spec.takeInts b f m a l).1.length ≤ l.length + f := by
  induction f with
  | zero => intro m a l; simp [Spec.takeInts]
  | succ f ih =>
    intro m a l
    rw [Spec.takeInts]
    split
    · show l.length ≤ l.length + (f + 1)
      omega
    · split
      · refine Nat.le_trans (ih _ _ _) ?_
        simp only [List.length_append, List.length_cons, List.length_nil]
        omega
      · simp
theorem OctetReads : horariumlaw03_OctetReads.Pure := by
  intro l0 a1 a2 hm hn hb hw1 hw2
  have hb' := bytes_of_wf hb
  have hm2 := bounds_i64 hw2
  refine ⟨5000, ?_⟩
  have e5 := heads03_eq 5000 (by decide)
  unfold horariumlaw03_OctetReads.f
  rw [short_eq, Option.bind_some]
  by_cases hs : l0.length ≤ 2000 ∧ (⟨#[]⟩ : ByteArray).size ≤ 1000 ∧ ([] : List Int).length ≤ 300
  · obtain ⟨t1, t2⟩ := takeText_eq 5000 l0 a1 a2 hb' (by omega) (by omega) (by decide)
    obtain ⟨p1, p2⟩ := takeList_eq 5000 l0 a1 a2 hb' (by omega) (by omega) (by omega)
    have hlen : (Spec.takeList l0 a1 a2).1.length ≤ 2001 := by
      unfold Spec.takeList
      split
      · split
        · simp
        · refine Nat.le_trans (takeInts_len _ _ _ _ _) ?_
          simp only [List.length_nil]
          omega
      · simp
    have hi := ints_self (Spec.takeList l0 a1 a2).1 (by omega) 5000 (by omega)
    rw [decide_eq_true hs, if_pos rfl, t1, t2, p1, p2]
    simp only [Option.bind_some, if_true]
    rw [hi, Option.bind_some, if_pos rfl, e5, Option.bind_some]
  · rw [decide_eq_false hs, if_neg (by decide), e5, Option.bind_some]

end Go.Proofs.Ytccjdefhieilpaa.Pure
