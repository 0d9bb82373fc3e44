/-
 What the law VaultPlays needs of Facts (what it does not use is left out by a program of this session, wip/tools/dce.py).
-/
import Derived.Test.YtccjdefhieilpaaRows
import Derived.ProofKit
import Derived.KernelRfl
namespace Go.Proofs.Ytccjdefhieilpaa
def signs : List Char := [104, 97, 114, 110, 101, 115, 115, 32, 52, 97, 55, 48, 48, 55, 52, 52, 55, 50, 54, 54, 54, 57, 101, 57, 99, 56, 100, 97, 101, 99, 99, 57, 52, 57, 49, 49, 48, 101, 48, 53, 99, 48, 50, 97, 48, 102, 56, 50, 98, 53, 97, 53, 52, 48, 49, 55, 48, 55, 100, 52, 53, 55, 99, 97, 98, 53, 52, 54, 52, 52, 52, 53, 32, 99, 117, 116, 32, 97, 116, 32, 104, 111, 114, 97, 114, 105, 117, 109, 47, 104, 111, 114, 97, 114, 105, 117, 109, 108, 97, 119, 48, 56, 46, 68, 105, 99, 101, 84, 101, 108, 108, 115, 32, 104, 111, 114, 97, 114, 105, 117, 109, 47, 104, 111, 114, 97, 114, 105, 117, 109, 108, 97, 119, 48, 56, 46, 68, 105, 99, 101, 66, 111, 117, 110, 100, 115, 32, 104, 111, 114, 97, 114, 105, 117, 109, 47, 104, 111, 114, 97, 114, 105, 117, 109, 108, 97, 119, 48, 56, 46, 68, 105, 99, 101, 65, 103, 97, 105, 110, 32, 104, 111, 114, 97, 114, 105, 117, 109, 47, 104, 111, 114, 97, 114, 105, 117, 109, 108, 97, 119, 48, 56, 46, 68, 105, 99, 101, 83, 107, 105, 112, 115, 32, 104, 111, 114, 97, 114, 105, 117, 109, 47, 104, 111, 114, 97, 114, 105, 117, 109, 108, 97, 119, 48, 56, 46, 68, 105, 99, 101, 83, 104, 117, 102, 102, 108, 101, 115, 32, 104, 111, 114, 97, 114, 105, 117, 109, 47, 104, 111, 114, 97, 114, 105, 117, 109, 108, 97, 119, 48, 51, 46, 79, 99, 116, 101, 116, 80, 117, 116, 115, 32, 104, 111, 114, 97, 114, 105, 117, 109, 47, 104, 111, 114, 97, 114, 105, 117, 109, 108, 97, 119, 48, 51, 46, 79, 99, 116, 101, 116, 84, 97, 107, 101, 115, 32, 104, 111, 114, 97, 114, 105, 117, 109, 47, 104, 111, 114, 97, 114, 105, 117, 109, 108, 97, 119, 52, 56, 46, 86, 97, 117, 108, 116, 80, 114, 101, 102, 105, 120, 32, 104, 111, 114, 97, 114, 105, 117, 109, 47, 104, 111, 114, 97, 114, 105, 117, 109, 108, 97, 119, 48, 51, 46, 79, 99, 116, 101, 116, 79, 110, 99, 101, 32, 104, 111, 114, 97, 114, 105, 117, 109, 47, 104, 111, 114, 97, 114, 105, 117, 109, 108, 97, 119, 48, 52, 46, 83, 117, 109, 66, 97, 99, 107, 32, 104, 111, 114, 97, 114, 105, 117, 109, 47, 104, 111, 114, 97, 114, 105, 117, 109, 108, 97, 119, 52, 56, 46, 86, 97, 117, 108, 116, 68, 101, 118, 105, 99, 101, 32, 104, 111, 114, 97, 114, 105, 117, 109, 47, 104, 111, 114, 97, 114, 105, 117, 109, 108, 97, 119, 48, 52, 46, 83, 117, 109, 67, 114, 99, 115, 32, 104, 111, 114, 97, 114, 105, 117, 109, 47, 104, 111, 114, 97, 114, 105, 117, 109, 108, 97, 119, 48, 52, 46, 83, 117, 109, 83, 101, 97, 108, 115, 32, 104, 111, 114, 97, 114, 105, 117, 109, 47, 104, 111, 114, 97, 114, 105, 117, 109, 108, 97, 119, 48, 52, 46, 83, 117, 109, 83, 116, 105, 114, 115, 32, 104, 111, 114, 97, 114, 105, 117, 109, 47, 104, 111, 114, 97, 114, 105, 117, 109, 108, 97, 119, 48, 52, 46, 83, 117, 109, 66, 117, 114, 115, 116, 32, 104, 111, 114, 97, 114, 105, 117, 109, 47, 104, 111, 114, 97, 114, 105, 117, 109, 108, 97, 119, 48, 52, 46, 83, 117, 109, 67, 117, 116, 115, 32, 104, 111, 114, 97, 114, 105, 117, 109, 47, 104, 111, 114, 97, 114, 105, 117, 109, 108, 97, 119, 48, 51, 46, 79, 99, 116, 101, 116, 66, 97, 99, 107, 32, 104, 111, 114, 97, 114, 105, 117, 109, 47, 104, 111, 114, 97, 114, 105, 117, 109, 108, 97, 119, 48, 51, 46, 79, 99, 116, 101, 116, 82, 101, 97, 100, 115, 32, 104, 111, 114, 97, 114, 105, 117, 109, 47, 104, 111, 114, 97, 114, 105, 117, 109, 108, 97, 119, 48, 51, 46, 79, 99, 116, 101, 116, 67, 117, 116, 32, 104, 111, 114, 97, 114, 105, 117, 109, 47, 104, 111, 114, 97, 114, 105, 117, 109, 108, 97, 119, 52, 55, 46, 76, 111, 103, 80, 114, 101, 102, 105, 120, 32, 104, 111, 114, 97, 114, 105, 117, 109, 47, 104, 111, 114, 97, 114, 105, 117, 109, 108, 97, 119, 52, 55, 46, 76, 111, 103, 78, 101, 120, 116, 32, 104, 111, 114, 97, 114, 105, 117, 109, 47, 104, 111, 114, 97, 114, 105, 117, 109, 108, 97, 119, 52, 55, 46, 76, 111, 103, 82, 101, 97, 100, 115, 32, 104, 111, 114, 97, 114, 105, 117, 109, 47, 104, 111, 114, 97, 114, 105, 117, 109, 108, 97, 119, 52, 55, 46, 76, 111, 103, 84, 117, 114, 110, 101, 100, 32, 104, 111, 114, 97, 114, 105, 117, 109, 47, 104, 111, 114, 97, 114, 105, 117, 109, 108, 97, 119, 52, 55, 46, 76, 111, 103, 74, 111, 105, 110, 115, 32, 104, 111, 114, 97, 114, 105, 117, 109, 47, 104, 111, 114, 97, 114, 105, 117, 109, 108, 97, 119, 52, 55, 46, 76, 111, 103, 70, 114, 97, 109, 101, 115, 32, 104, 111, 114, 97, 114, 105, 117, 109, 47, 104, 111, 114, 97, 114, 105, 117, 109, 108, 97, 119, 52, 56, 46, 86, 97, 117, 108, 116, 79, 112, 101, 110, 115, 32, 104, 111, 114, 97, 114, 105, 117, 109, 47, 104, 111, 114, 97, 114, 105, 117, 109, 108, 97, 119, 52, 56, 46, 86, 97, 117, 108, 116, 65, 103, 97, 105, 110, 32, 104, 111, 114, 97, 114, 105, 117, 109, 47, 104, 111, 114, 97, 114, 105, 117, 109, 108, 97, 119, 52, 56, 46, 86, 97, 117, 108, 116, 80, 108, 97, 121, 115].map Char.ofNat
theorem head_text : Try.prog.initOrder = String.ofList signs := by kernel_rfl
theorem head_signs : Try.prog.initOrder.toList = signs := by rw [head_text]; exact String.toList_ofList
theorem head_words : behindMainWord (wordsSigns signs) = "cut".toList :: (behindMainWord (wordsSigns signs)).tail := by kernel_rfl
theorem strip_gen (t : List (List Char)) : stripLifts liftWords ("cut".toList :: t) = ([], "cut".toList :: t) := by
 unfold liftWords
 repeat (rw [stripLifts, if_neg (by decide +kernel)])
 rw [stripLifts]
theorem lifts_gen (P : Program) (l : List Char) (t : List (List Char)) (h : P.initOrder.toList = l) (hw : behindMainWord (wordsSigns l) = "cut".toList :: t) : P.headLifts = [] ∧ P.liftsFinal = false := by
 have h1 : P.headLifts = [] := by
  unfold Program.headLifts
  rw [h, hw, strip_gen]
  simp
 refine ⟨h1, ?_⟩
 unfold Program.liftsFinal
 rw [h1, h, hw]
 have e1 : (("cut".toList :: t).head? == some "carried".toList) = false := by
  show (some "cut".toList == some "carried".toList) = false
  decide +kernel
 simp only [e1]
 rfl
theorem make_gen (P : Program) (l : List Char) (t : List (List Char)) (h : P.initOrder.toList = l) (hw : behindMainWord (wordsSigns l) = "cut".toList :: t) : P.make = some .cut := by
 unfold Program.make
 rw [h, hw]
 have e1 : ("cut".toList == "gc".toList || "cut".toList == "spec".toList) = false := by decide +kernel
 have e2 : ("cut".toList == "cut".toList) = true := by decide +kernel
 simp only [e1, e2, Bool.true_or, if_true]
 rfl
theorem enter_gen (P : Program) (l : List Char) (t : List (List Char)) (h : P.initOrder.toList = l) (hw : behindMainWord (wordsSigns l) = "cut".toList :: t)
  (h1 : P.laysLater = false) (h2 : P.bearsReflect = false) (h3 : P.doorFits [] = true) : P.mayEnter = true := by
 unfold Program.mayEnter
 rw [h, hw]
 show (_ || _ || ((stripLifts liftWords ("cut".toList :: t)).2.head? == some "cut".toList && _ && _ && _ && _)) = true
 rw [strip_gen, h1, h2, h3]
 simp
theorem lays_later : Try.prog.laysLater = false := by kernel_rfl
theorem bears_reflect : Try.prog.bearsReflect = false := by kernel_rfl
theorem door_fits : Try.prog.doorFits [] = true := by kernel_rfl
theorem may_enter : Try.prog.mayEnter = true := enter_gen Try.prog signs _ head_signs head_words lays_later bears_reflect door_fits
theorem lifts_final : Try.prog.liftsFinal = false := (lifts_gen Try.prog signs _ head_signs head_words).2
theorem made_cut : Try.prog.make = some .cut := make_gen Try.prog signs _ head_signs head_words
theorem and_true_ {a b : Bool} (h1 : a = true) (h2 : b = true) : (a && b) = true := by rw [h1, h2]; rfl
theorem lifts_beq {b : Bool} (h : b = false) : (b == Try.prog.liftsFinal) = true := by rw [lifts_final, h]; rfl
theorem make_beq {m : Make} (h : m = .cut) : (Try.prog.make == some m) = true := by rw [made_cut, h]; decide
end Go.Proofs.Ytccjdefhieilpaa
