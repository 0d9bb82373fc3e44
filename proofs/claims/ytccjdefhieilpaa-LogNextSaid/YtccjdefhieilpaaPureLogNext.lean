/-
  LogNext: Next returns the reference's entry or error at every place of any bytes, for every input of the statement.
-/
import Derived.Test.YtccjdefhieilpaaPLx8
import Derived.Test.YtccjdefhieilpaaLogRead
namespace Go.Proofs.Ytccjdefhieilpaa.Pure
open Go.RowKit Go.Proofs.Ytccjdefhieilpaa.PB Go.Proofs.Ytccjdefhieilpaa.PL Go.Proofs.YtccjdefhieilpaaW.PrintWords Go.Proofs.YtccjdefhieilpaaW.PrintLast
theorem LogNext : horariumlaw47_LogNext.Pure := by
  intro l0 a1 hm hn hb hw
  have hb' := bytes_of_wf hb
  refine ⟨1400000, ?_⟩
  unfold horariumlaw47_LogNext.f
  by_cases h : l0.length > 130000
  · rw [if_pos (by omega), horariumlaw47_heads.eq 1400000 (by decide), Option.bind_some]
  · rw [if_neg (by omega), lnext_eq 1400000 l0 a1 hb' (by omega) (by omega), Option.bind_some, rnext_eq 1400000 l0 a1 hb' (by omega) (by omega), Option.bind_some, if_pos rfl, same_self, Option.bind_some, if_pos rfl, if_pos rfl, if_pos rfl,
      horariumlaw47_heads.eq 1400000 (by decide), Option.bind_some]
end Go.Proofs.Ytccjdefhieilpaa.Pure
