/-
  SumBack: Open inverts Seal, Unmix inverts Mix and Mix inverts Unmix, for every input of the statement.
-/
import Derived.Test.YtccjdefhieilpaaPBx7
import Derived.Test.YtccjdefhieilpaaSealPure
import Derived.Test.YtccjdefhieilpaaMixPure
import Derived.OpenShut
namespace Go.Proofs.Ytccjdefhieilpaa.Pure
open Go.RowKit Go.Proofs.Ytccjdefhieilpaa.PB Go.Proofs.YtccjdefhieilpaaW.PrintWords Go.Proofs.YtccjdefhieilpaaW.PrintLast

theorem SumBack : horariumlaw04_SumBack.Pure := by
  intro l0 a1 hm hn hb hw
  have hb' := bytes_of_wf hb
  obtain ⟨w0, w1⟩ := bounds_u64 hw
  obtain ⟨n, rfl⟩ := Int.eq_ofNat_of_zero_le w0
  have hs : n < 18446744073709551616 := by omega
  refine ⟨10 * l0.length + 200, ?_⟩
  have e1 := mix_eq n hs
  have e2 := unmix_eq (10 * l0.length + 200) n hs (by omega)
  have e3 := unmix_eq (10 * l0.length + 200) _ (Spec.mixN_lt n) (by omega)
  have e4 := mix_eq _ (Spec.unmixN_lt n)
  rw [Spec.unmix_mix n hs] at e3
  rw [Spec.mix_unmix n hs] at e4
  have e5 := heads04_eq (10 * l0.length + 200) (by omega)
  have e6 := seal_eq (10 * l0.length + 200) l0 hb' (by omega) (by omega)
  by_cases h3 : (l0.length : Int) > 3000
  · unfold horariumlaw04_SumBack.f
    rw [if_pos h3, e5]
    rfl
  have e7 := open_eq (10 * l0.length + 200) _ (sealL_bytes hb') (by rw [sealL_length]; omega) (by rw [sealL_length]; omega)
  rw [open_seal] at e7
  generalize Spec.mixN n = m at e1 e3
  generalize Spec.unmixN n = u at e2 e4
  generalize Spec.sealL l0 = s at e6 e7
  generalize 10 * l0.length + 200 = k at *
  unfold horariumlaw04_SumBack.f
  rw [if_neg h3, e6, Option.bind_some, e7, Option.bind_some, same_self, Option.bind_some, if_pos rfl, if_pos rfl, e1, Option.bind_some, e3, Option.bind_some, if_pos rfl, e2, Option.bind_some, e4, Option.bind_some, if_pos rfl, e5, Option.bind_some]

end Go.Proofs.Ytccjdefhieilpaa.Pure
