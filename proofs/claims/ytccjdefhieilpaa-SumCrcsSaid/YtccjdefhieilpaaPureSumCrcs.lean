/-
  SumCrcs: Crc and More of any bytes are the reference's, for every input of the statement.
-/
import Derived.Test.YtccjdefhieilpaaPBx8
import Derived.Test.YtccjdefhieilpaaSumPure
namespace Go.Proofs.Ytccjdefhieilpaa.Pure
open Go.RowKit Go.Proofs.Ytccjdefhieilpaa.PB Go.Proofs.YtccjdefhieilpaaW.PrintWords Go.Proofs.YtccjdefhieilpaaW.PrintLast

theorem SumCrcs : horariumlaw04_SumCrcs.Pure := by
  intro l0 a1 hm hn hb hw
  have hb' := bytes_of_wf hb
  obtain ⟨s, rfl⟩ : ∃ s : Nat, a1 = s := Int.eq_ofNat_of_zero_le (by simp [Lit.wf, IntKind.min, IntKind.max, IntKind.signed, IntKind.bits] at hw; omega)
  have hs : s < 4294967296 := by simp [Lit.wf, IntKind.min, IntKind.max, IntKind.signed, IntKind.bits] at hw; omega
  refine ⟨10 * l0.length + 101, ?_⟩
  unfold horariumlaw04_SumCrcs.f
  rw [heads04_eq _ (by omega), crc_eq _ l0 hb' (by omega) (by omega), rcrc_eq _ l0 hb' (by omega) (by omega), more_eq _ s l0 hb' (by omega) hs (by omega), rmore_eq _ s l0 hb' (by omega) hs (by omega)]
  simp

end Go.Proofs.Ytccjdefhieilpaa.Pure
