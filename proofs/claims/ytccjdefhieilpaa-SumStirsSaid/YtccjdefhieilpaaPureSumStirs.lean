/-
  SumStirs: Mix, Unmix and Digest are the reference's, for every input of the statement.
-/
import Derived.Test.YtccjdefhieilpaaPBx10
import Derived.Test.YtccjdefhieilpaaMixPure
import Derived.OpenShut
namespace Go.Proofs.Ytccjdefhieilpaa.Pure
open Go.RowKit Go.Proofs.Ytccjdefhieilpaa.PB Go.Proofs.YtccjdefhieilpaaW.PrintWords Go.Proofs.YtccjdefhieilpaaW.PrintLast

theorem SumStirs : horariumlaw04_SumStirs.Pure := by
  intro a0 l1 hw hm hn hb
  have hb' := bytes_of_wf hb
  obtain ⟨w0, w1⟩ := bounds_u64 hw
  obtain ⟨n, rfl⟩ := Int.eq_ofNat_of_zero_le w0
  have hs : n < 18446744073709551616 := by omega
  refine ⟨l1.length + 200, ?_⟩
  obtain ⟨d1, d2⟩ := digest_eq (l1.length + 200) l1 hb' (by omega) (by omega)
  have e1 := mix_eq n hs
  have e2 := rmix_eq n hs
  have e3 := unmix_eq (l1.length + 200) n hs (by omega)
  have e4 := runmix_eq (l1.length + 200) n hs (by omega)
  have e5 := heads04_eq (l1.length + 200) (by omega)
  generalize Spec.mixN n = m at e1 e2
  generalize Spec.unmixN n = u at e3 e4
  generalize Spec.digestN l1.length l1 = d at d1 d2
  generalize l1.length + 200 = k at *
  unfold horariumlaw04_SumStirs.f
  rw [e1, e2, e3, e4, e5, d1, d2]
  by_cases h3 : (l1.length : Int) > 3000
  · rw [if_pos h3, Option.bind_some]
  · rw [if_neg h3, Option.bind_some, Option.bind_some, if_pos rfl, Option.bind_some, Option.bind_some, if_pos rfl, Option.bind_some, Option.bind_some, if_pos rfl, Option.bind_some]

end Go.Proofs.Ytccjdefhieilpaa.Pure
