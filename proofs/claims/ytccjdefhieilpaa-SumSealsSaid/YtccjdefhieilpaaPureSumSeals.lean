/-
  SumSeals: Seal and Open of any bytes are the reference's, for every input of the statement.
-/
import Derived.Test.YtccjdefhieilpaaPBx9
import Derived.Test.YtccjdefhieilpaaSealPure
namespace Go.Proofs.Ytccjdefhieilpaa.Pure
open Go.RowKit Go.Proofs.Ytccjdefhieilpaa.PB Go.Proofs.YtccjdefhieilpaaW.PrintWords Go.Proofs.YtccjdefhieilpaaW.PrintLast

theorem SumSeals : horariumlaw04_SumSeals.Pure := by
  intro l0 hm hn hb
  have hb' := bytes_of_wf hb
  refine ⟨10 * l0.length + 200, ?_⟩
  unfold horariumlaw04_SumSeals.f
  rw [heads04_eq _ (by omega), open_eq _ l0 hb' (by omega) (by omega), ropen_eq _ l0 hb' (by omega) (by omega), seal_eq _ l0 hb' (by omega) (by omega), rseal_eq _ l0 hb' (by omega) (by omega)]
  simp [same_self]

end Go.Proofs.Ytccjdefhieilpaa.Pure
