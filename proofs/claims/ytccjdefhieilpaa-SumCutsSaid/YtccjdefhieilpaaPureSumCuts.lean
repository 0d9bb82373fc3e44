/-
  SumCuts: a checksum goes on from wherever it was cut, for every input of the statement.
-/
import Derived.Test.YtccjdefhieilpaaPBx12
import Derived.Test.YtccjdefhieilpaaSumPure
namespace Go.Proofs.Ytccjdefhieilpaa.Pure
open Go.RowKit Go.Proofs.Ytccjdefhieilpaa.PB Go.Proofs.YtccjdefhieilpaaW.PrintWords Go.Proofs.YtccjdefhieilpaaW.PrintLast

theorem SumCuts : horariumlaw04_SumCuts.Pure := by
  intro l0 a1 hm hn hb hw
  have hb' := bytes_of_wf hb
  refine ⟨10 * l0.length + 102, ?_⟩
  have key : ∀ x, (x = false → 0 ≤ a1 ∧ a1 ≤ l0.length) → horariumlaw04_SumCuts.j0 (10 * l0.length + 102) l0 a1 x = some true := by
    intro x hx
    rw [show 10 * l0.length + 102 = (10 * l0.length + 101) + 1 from rfl, horariumlaw04_SumCuts.j0]
    cases x with
    | true => rw [heads04_eq _ (by omega)]; simp
    | false =>
      obtain ⟨h0, h1⟩ := hx rfl
      obtain ⟨n, rfl⟩ := Int.eq_ofNat_of_zero_le h0
      have hn1 : n ≤ l0.length := by omega
      rw [Int.toNat_natCast, heads04_eq _ (by omega), crc_eq _ (l0.take n) (hb'.take n) (by rw [List.length_take]; omega) (by rw [List.length_take]; omega), crc_eq _ l0 hb' (by omega) (by omega)]
      have hm := more_eq (10 * l0.length + 101) (Spec.crcN (l0.take n)) (l0.drop n) (hb'.drop n) (by rw [List.length_drop]; omega) (Spec.moreN_lt (by decide) (hb'.take n)) (by rw [List.length_drop]; omega)
      have he : Spec.moreN (Spec.crcN (l0.take n)) (l0.drop n) = Spec.crcN l0 := by
        unfold Spec.crcN
        rw [Spec.moreN_append, List.take_append_drop]
      rw [he] at hm
      simp [hm, hn1]
  unfold horariumlaw04_SumCuts.f
  split
  · exact key true (fun h => by cases h)
  · split
    · exact key true (fun h => by cases h)
    · refine key _ (fun h => ?_)
      have := of_decide_eq_false h
      omega

end Go.Proofs.Ytccjdefhieilpaa.Pure
