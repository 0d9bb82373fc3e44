/-
  OctetTakes: Take and TakeInt return the reference's value or error at every index of any bytes, for every input of the statement.
-/
import Derived.Test.YtccjdefhieilpaaPBx14
import Derived.Test.YtccjdefhieilpaaReadPure
namespace Go.Proofs.Ytccjdefhieilpaa.Pure
open Go.RowKit Go.Proofs.Ytccjdefhieilpaa.PB Go.Proofs.YtccjdefhieilpaaW.PrintWords Go.Proofs.YtccjdefhieilpaaW.PrintLast

theorem OctetTakes : horariumlaw03_OctetTakes.Pure := by
  intro l0 a1 hm hn hb hw
  have hb' := bytes_of_wf hb
  refine ⟨1000, ?_⟩
  have e5 := heads03_eq 1000 (by decide)
  unfold horariumlaw03_OctetTakes.f
  rw [short_eq, Option.bind_some]
  by_cases hs : l0.length ≤ 2000 ∧ (⟨#[]⟩ : ByteArray).size ≤ 1000 ∧ ([] : List Int).length ≤ 300
  · rw [decide_eq_true hs, if_pos rfl, take_eq _ l0 a1 hb', rtake_eq _ l0 a1 hb' (by omega) (by decide), takeInt_eq _ l0 a1 hb', rtakeInt_eq _ l0 a1 hb' (by omega) (by decide)]
    simp only [Option.bind_some, if_true]
    rw [e5, Option.bind_some]
  · rw [decide_eq_false hs, if_neg (by decide), e5, Option.bind_some]

end Go.Proofs.Ytccjdefhieilpaa.Pure
