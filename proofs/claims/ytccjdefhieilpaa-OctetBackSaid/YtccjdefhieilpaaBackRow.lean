/-
  Written by hand: an array of two rows of bytes handed in by value is two slices.
-/
import Derived.Test.YtccjdefhieilpaaProg
import Derived.Lib.SmallJoins
import Derived.OpenShut
namespace Go.Proofs.Ytccjdefhieilpaa
open Go.ChangeShapes Go.WideShapes Go.RowKit Go.Deep Go.WideElems
set_option maxRecDepth 100000 in
theorem cells114 : Try.prog.cellsOf 114 = 2 := by kernel_rfl
set_option maxRecDepth 100000 in
theorem cells44 : Try.prog.cellsOf 44 = 1 := by kernel_rfl
set_option maxRecDepth 100000 in
theorem open_two {H : Type} {enc : TypeId × Value → H} {w : World} {base : Nat} {spare : Nat → Bool} {held : Bool} {r : Reach} {b0 : Nat} {v : Value} {d : DataW H} {p : List MemPlace}
    (hv : Value.okWide Try.prog w r b0 114 v) (h : DataW.Trod enc Try.prog w base spare held 114 v d p) :
    ∃ v0 v1, v = .agg #[v0, v1] ∧ (∃ n y, DataW.trod enc Try.prog w base spare held n 44 [v0] = some y) ∧ (∃ n y, DataW.trod enc Try.prog w base spare held n 44 [v1] = some y) := by
  obtain ⟨cs, rfl, hsz⟩ : ∃ cs, v = .agg cs ∧ cs.size = Try.prog.cellsOf 114 := by
    simp only [Value.okWide, Try.underlying114] at hv
    obtain ⟨cs, h1, h2, _⟩ := hv
    exact ⟨cs, h1, h2⟩
  obtain ⟨v0, v1, rfl⟩ : ∃ v0 v1, cs = #[v0, v1] := by
    have h1 := hsz.trans cells114
    obtain ⟨l⟩ := cs
    match l, h1 with
    | [x, y], _ => exact ⟨x, y, rfl⟩
  obtain ⟨fuel, hf⟩ := h
  obtain ⟨xs, m, _, _, _, hxl, hx⟩ := DataW.trod_array Try.underlying114 hf
  have e0 := hx 0 (by decide)
  have e1 := hx 1 (by decide)
  rw [cells44] at e0 e1
  match xs, hxl with
  | [y0, y1], _ => exact ⟨v0, v1, rfl, ⟨m, y0, by simpa [Value.cells] using e0⟩, ⟨m, y1, by simpa [Value.cells] using e1⟩⟩
end Go.Proofs.Ytccjdefhieilpaa
