-- Written by a program of this session (wip/tools/patch_print.py over the print of the kit)
import Derived.Test.YtccjdefhieilpaaRows
import Derived.Test.YtccjdefhieilpaaFacts
import Derived.Test.YtccjdefhieilpaaPLx7
import Derived.Test.YtccjdefhieilpaaPureLogFrames
import Derived.Test.YtccjdefhieilpaaEntryRow
import Derived.ChangeSlices
import Derived.WalkKit
import Derived.ProofKit
import Derived.OpenShut
import Derived.ShutString
import Derived.ChangeOld
import Derived.Below
import Derived.SizedLaws
import Derived.Test.YtccjdefhieilpaaWSized
namespace Go.Proofs.Ytccjdefhieilpaa.logFrames
open Go.ChangeShapes Go.WideShapes Go.ChangeAt Go.RowKit
open Go.ChangeMaps (open_string shut_string)
set_option linter.unusedVariables false
theorem own : ownKnob Try.prog.godebug = none := by kernel_rfl
theorem laidOut : laidOutB Try.prog = true := by kernel_rfl
set_option maxRecDepth 100000 in
theorem lifted (os : Os) (started : os.Started) (H : Type) (enc : TypeId × Value → H) :
    ReturnsInHanded {} Try.checked os 27 .any (Rows.logFramesSpec.pre6 enc Try.prog Try.f27 Rows.logFramesRow.domain false) (Rows.logFramesSpec.post enc Try.prog Try.f27 false true false false) := by
  refine returnsInHanded_of_change_sized (C := Try.checked) own started (by kernel_rfl) Try.func27
    (ChangeSpec.witness6 (enc := enc) (C := Try.checked) false ⟨#[], #[.slice none 0 0, .slice none 0 0], []⟩ 8 (by kernel_rfl) (by kernel_rfl) (by kernel_rfl) (by kernel_rfl)) ?_
  intro W base args ds gs before hval0 hW hcnd hsz0 _
  have hsz : (DataW.weightsEach Try.prog (Try.f27.params.toList ++ Rows.logFramesSpec.plain.varTypes Try.prog) (ds ++ gs)).all (· ≤ reachBytes) = true := hsz0
  have hval : ∀ (j : Nat) t v, Try.f27.params[j]? = some t → args[j]? = some v → Value.okWide Try.prog W .any base t v := hval0
  have hW' := hW
  obtain ⟨p, q, hA0, hV, rfl, hfz, hnd⟩ := hW
  have hA : DataW.TrodAll enc Try.prog W 0 (fun _ => true) true Try.f27.params.toList args.toList ds p := hA0
  rw [Try.params27] at hA hval hsz
  obtain ⟨v0, vs0, d0, ds0, p0, q0, hargs, rfl, rfl, h0, r0⟩ := trodAll_cons hA
  obtain ⟨v1, vs1, d1, ds1, p1, q1, rfl, rfl, rfl, h1, r1⟩ := trodAll_cons r0
  obtain ⟨rfl, rfl, rfl⟩ := trodAll_nil r1
  obtain rfl : args = #[v0, v1] := by cases args; simp_all
  obtain ⟨rfl, rfl⟩ := trodVars_none hV
  have ml : maxLen ≤ 9223372036854775807 := by unfold maxLen; decide
  have k0 := h0
  have lt0 : ∀ x ∈ p0, x.block < W.heap.size := by obtain ⟨m, hm⟩ := k0; exact DataW.trod_lt m _ _ _ hm
  obtain ⟨A0, c0, l0, rfl, hC0, hc0, m0, w0⟩ := open_entriesT (hval 0 66 v0 rfl rfl) h0
  have d0 : Pure.Datas l0 := fun x hx => Pure.bytes_of_wf (w0 x hx).2
  have k1 := h1
  have lt1 : ∀ x ∈ p1, x.block < W.heap.size := by obtain ⟨m, hm⟩ := k1; exact DataW.trod_lt m _ _ _ hm
  obtain ⟨A1, c1, l1, rfl, hC1, hc1, m1, w1⟩ := open_entriesT (hval 1 66 v1 rfl rfl) h1
  have d1 : Pure.Datas l1 := fun x hx => Pure.bytes_of_wf (w1 x hx).2
  clear hA0 hval0 hsz0 hsz
  obtain ⟨k, h⟩ := Pure.LogFrames l0 l1 d0 d1 (Nat.le_trans m0 ml) (Nat.le_trans m1 ml)
  refine (PL.horariumlaw47_LogFrames.calls k A0 c0 l0 A1 c1 l1 true rfl W hC0 hc0 hC1 hc1 h).mono fun e W' ⟨he, bel⟩ => ?_
  subst he
  exact ⟨_, rfl, _, _, _, [], _, [], hW', trodAll_mk1 (shut_bool Try.underlying4 _), (trodAll_cons_mk (Below.trod laidOut (by kernel_rfl) (of_decide_eq_true (by kernel_rfl)) k0 bel lt0) (trodAll_cons_mk (Below.trod laidOut (by kernel_rfl) (of_decide_eq_true (by kernel_rfl)) k1 bel lt1) trodAll_mk0)), rfl, bel.frame _, fun h => by cases h⟩
theorem closed : joinedFacts Try.prog 27 Try.f27 Rows.logFramesSpec Rows.logFramesRow = true := by
  unfold joinedFacts
  repeat' (with_reducible refine and_true_ ?_ ?_)
  all_goals first | (with_reducible exact may_enter) | ((with_reducible refine lifts_beq ?_); rfl) | ((with_reducible refine make_beq ?_); rfl) | (as_aux_lemma => kernel_rfl)
theorem over : Rows.logFramesRow.holds Try.pinned (OpenSpec.ofChange Rows.logFramesSpec) :=
  OpenClaim.holds_of_wide 27 Try.f27 rfl rfl rfl rfl rfl rfl rfl ⟨rfl, rfl, rfl, rfl, rfl⟩ rfl rfl rfl rfl rfl (by kernel_rfl) Try.func27 closed
    (of_decide_eq_true (by kernel_rfl)) (by unfold Func.isWrapper; first | (rw [if_pos (by decide +kernel)]; kernel_rfl) | (rw [if_neg (by decide +kernel)]; exact ⟨rfl, rfl⟩))
    (fun os started H enc _ => lifted os started H enc)
theorem proved : Rows.LogFramesSaid := over
#print axioms proved
end Go.Proofs.Ytccjdefhieilpaa.logFrames
namespace Go.Proofs.Ytccjdefhieilpaa
/-- The row, under a short name, for the claim. -/
theorem logFrames_holds : Rows.LogFramesSaid := logFrames.proved
end Go.Proofs.Ytccjdefhieilpaa
