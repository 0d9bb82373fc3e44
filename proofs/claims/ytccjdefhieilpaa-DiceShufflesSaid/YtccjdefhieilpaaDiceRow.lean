/-
  Written by hand: a Dice handed in by value is one u64.
-/
import Derived.Test.YtccjdefhieilpaaProg
import Derived.Lib.SmallJoins
namespace Go.Proofs.Ytccjdefhieilpaa
open Go.ChangeShapes Go.WideShapes Go.RowKit Go.Deep Go.WideElems
set_option maxRecDepth 100000 in
theorem cells24 : Try.prog.cellsOf 24 = 1 := by kernel_rfl
set_option maxRecDepth 100000 in
theorem cells22 : Try.prog.cellsOf 22 = 1 := by kernel_rfl
set_option maxRecDepth 100000 in
theorem open_dice {H : Type} {enc : TypeId × Value → H} {w : World} {base : Nat} {spare : Nat → Bool} {held : Bool} {r : Reach} {b0 : Nat} {v : Value} {d : DataW H} {p : List MemPlace}
    (hv : Value.okWide Try.prog w r b0 24 v) (h : DataW.Trod enc Try.prog w base spare held 24 v d p) : ∃ n, v = .agg #[.int .u64 n] ∧ (Lit.int .u64 n).wf = true := by
  obtain ⟨cs, rfl, hsz⟩ := okWide_struct Try.underlying24 hv
  obtain ⟨c0, rfl⟩ : ∃ c0, cs = #[c0] := by
    have h1 := hsz.trans cells24
    obtain ⟨l⟩ := cs
    match l, h1 with
    | [x], _ => exact ⟨x, rfl⟩
  obtain ⟨fuel, hf⟩ := h
  obtain ⟨y0, n, hx, _, h0⟩ := trod_struct1 Try.underlying24 hf
  have h0' : DataW.trod enc Try.prog w base spare held n 22 [c0] = some y0 := by simpa [Value.cells, cells22] using h0
  obtain ⟨m, hm, _, hw⟩ := DataW.trod_int Try.underlying22 h0'
  simp only [List.cons.injEq, and_true] at hm
  subst hm
  exact ⟨m, rfl, hw⟩
end Go.Proofs.Ytccjdefhieilpaa
