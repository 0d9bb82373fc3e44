/-
 What the law VaultPlays needs of EntryRow (what it does not use is left out by a program of this session, wip/tools/dce.py).
-/
import Derived.Test.YtccjdefhieilpaaRPLx0
import Derived.Lib.SmallJoins
import Derived.ChangeSlices
import Derived.Deep.SlicePairs
import Derived.SizedLaws
namespace Go.Proofs.Ytccjdefhieilpaa
open Go.Joins Go.ChangeShapes Go.WideShapes Go.RowKit Go.Deep Go.WideElems Go.ChangeAt Go.Proofs.YtccjdefhieilpaaW.PrintWords Go.Proofs.Ytccjdefhieilpaa.PL
set_option linter.unusedVariables false
set_option maxRecDepth 100000 in
theorem cells68 : Try.prog.cellsOf 68 = 2 := by kernel_rfl
set_option maxRecDepth 100000 in
theorem cells3e : Try.prog.cellsOf 3 = 1 := by kernel_rfl
set_option maxRecDepth 100000 in
theorem cells44e : Try.prog.cellsOf 44 = 1 := by kernel_rfl
instance : Inhabited S68 := ⟨z68⟩
section
variable {H : Type} {enc : TypeId × Value → H} {W : World}
set_option maxRecDepth 100000 in
theorem open_bytes {n : Nat} {v : Value} {y : DataW H × List MemPlace} (h : DataW.trod enc Try.prog W 0 (fun _ => true) true n 44 [v] = some y) :
  ∃ (A : Option Addr) (c : Nat) (l : List Int), v = .slice A l.length c ∧ (Kd.int .u8).C W A l.length l ∧ l.length ≤ c ∧ l.length ≤ maxLen ∧ ∀ x ∈ l, (Lit.int .u8 x).wf = true := by
 rcases open_ints Try.underlying44 Try.underlying5 (by kernel_rfl) h with ⟨hcs, _⟩ | ⟨x, l, c, zs, hcs, _, hl, hm, hz, _, hcell, hwz⟩
 ·simp only [List.cons.injEq, and_true] at hcs
  subst hcs
  exact ⟨none, 0, [], rfl, Kd.C_nil _ _, Nat.le_refl _, Nat.zero_le _, fun x hx => by cases hx⟩
 ·simp only [List.cons.injEq, and_true] at hcs
  subst hcs
  obtain ⟨l', rfl, hr, hm', hw', hc'⟩ := ReadsInt.ofRowC (k := .u8) (w := W) (a := some x) (len := l) (cap := c) (zs := zs) (.inr ⟨_, rfl, hl, hm, by simpa using hz, hcell, hwz⟩)
  exact ⟨some x, c, l', rfl, Kd.C_of_reads (d := (0 : Int)) (h1 := fun _ => rfl) hr, hc', hm', hw'⟩
set_option maxRecDepth 100000 in
theorem open_slot {r : Reach} {b0 n : Nat} {t e : TypeId} {v : Value} {y : DataW H × List MemPlace} (hu : Try.prog.underlying t = some (.slice e)) (hv : Value.okWide Try.prog W r b0 t v)
  (h : DataW.trod enc Try.prog W 0 (fun _ => true) true n t v.cells.toList = some y) : DataW.trod enc Try.prog W 0 (fun _ => true) true n t [v] = some y := by
 obtain ⟨a, l, c, rfl⟩ := okWide_slice hu hv
 simpa [Value.cells] using h
end
end Go.Proofs.Ytccjdefhieilpaa
