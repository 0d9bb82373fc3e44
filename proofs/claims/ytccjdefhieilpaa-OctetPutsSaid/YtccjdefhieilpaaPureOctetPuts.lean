/-
  OctetPuts: Put, PutInt, PutText and PutList return the reference's bytes, for every input of the statement.
-/
import Derived.Test.YtccjdefhieilpaaPBx13
import Derived.Test.YtccjdefhieilpaaOctPure
import Derived.Test.YtccjdefhieilpaaSealPure
namespace Go.Proofs.Ytccjdefhieilpaa.Pure
open Go.RowKit Go.Proofs.Ytccjdefhieilpaa.PB Go.Proofs.YtccjdefhieilpaaW.PrintWords Go.Proofs.YtccjdefhieilpaaW.PrintLast

theorem OctetPuts : horariumlaw03_OctetPuts.Pure := by
  intro a0 a1 a2 l3 w0 w1 h2 hm3 hn3 w3
  obtain ⟨b0, b0'⟩ := bounds_u64 w0
  obtain ⟨n, rfl⟩ := Int.eq_ofNat_of_zero_le b0
  have b1 := bounds_i64 w1
  have hl := ints_of_wf w3
  refine ⟨1000, ?_⟩
  have e5 := heads03_eq 1000 (by decide)
  unfold horariumlaw03_OctetPuts.f
  rw [short_eq, Option.bind_some]
  by_cases hs : ([] : List Int).length ≤ 2000 ∧ a2.size ≤ 1000 ∧ l3.length ≤ 300
  · obtain ⟨_, hs2, hs3⟩ := hs
    obtain ⟨t1, t2⟩ := putText_eq 1000 a2 (by omega) (by decide)
    obtain ⟨p1, p2⟩ := putList_eq 1000 l3 hl (by omega) (by omega)
    rw [decide_eq_true ⟨by simp, hs2, hs3⟩, if_pos rfl, put_eq 1000 n (by omega) (by decide), rput_eq 1000 n (by omega) (by decide), Option.bind_some, Option.bind_some, same_self, Option.bind_some, if_pos rfl,
      putInt_eq 1000 a1 (by omega) (by omega) (by decide), rputInt_eq 1000 a1 (by omega) (by omega) (by decide), Option.bind_some, Option.bind_some, same_self, Option.bind_some, if_pos rfl,
      t1, t2, Option.bind_some, Option.bind_some, same_self, Option.bind_some, if_pos rfl, p1, p2, Option.bind_some, Option.bind_some, same_self, Option.bind_some, if_pos rfl, e5, Option.bind_some]
  · rw [decide_eq_false hs, if_neg (by decide), e5, Option.bind_some]

end Go.Proofs.Ytccjdefhieilpaa.Pure
