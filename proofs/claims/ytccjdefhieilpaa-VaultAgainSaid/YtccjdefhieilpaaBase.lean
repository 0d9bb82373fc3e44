/-
  What all hand-written texts of this seat import: the words, and small lemmas on rows of bytes. No condition.
-/
import Derived.Test.YtccjdefhieilpaaProg
import Derived.Below
import Derived.Deep.Draws
import Derived.Deep.AppendLies
import Derived.Maps.AppendAt
import Derived.OwnWalk
import Derived.Laws.BytesArg
import Derived.Laws.MakeOwn
import Derived.Laws.OwnMore
import Derived.Deep.OwnRows
import Derived.Tactics
import Derived.Lib.ConvBytes
import Derived.Laws.Slices
import Derived.WalkKit
import Derived.KernelRfl
import Derived.RowKit3
import Derived.Deep.LoopGhost
import Derived.Deep.QuietTactic
import Derived.BigQuiet
import Derived.WideLaws
import Derived.Deep.DeepCutAuto
import Derived.Deep.CutBlock
import Derived.Deep.RegionHeld3
import Derived.Laws.Rows
import Derived.Lib.AppendStr
import Derived.ArgAppend
import Derived.Laws.IdiomCopy
import Derived.OrdersHeld
import Derived.Laws.BitsLemmas
import Derived.RowKit
import Derived.Test.YtccjdefhieilpaaMid3
import Derived.Test.YtccjdefhieilpaaWWords
import Derived.Test.YtccjdefhieilpaaWLast
import Derived.Test.YtccjdefhieilpaaWTab
import Derived.Test.YtccjdefhieilpaaWFour
import Derived.Test.YtccjdefhieilpaaWQPut
import Derived.Test.YtccjdefhieilpaaWApart
import Derived.Test.YtccjdefhieilpaaWArr
import Derived.Test.YtccjdefhieilpaaWZeros
import Derived.Test.YtccjdefhieilpaaWFoot
import Derived.Test.YtccjdefhieilpaaWKept
import Derived.Test.YtccjdefhieilpaaWShare
import Derived.Test.YtccjdefhieilpaaWN
import Derived.Test.YtccjdefhieilpaaWFootNe
import Derived.Test.YtccjdefhieilpaaWAt
import Derived.Test.YtccjdefhieilpaaWEqStruct
import Derived.Test.YtccjdefhieilpaaWRepsOne
import Derived.Test.YtccjdefhieilpaaWInv
import Derived.Test.YtccjdefhieilpaaWInvWords
import Derived.Test.YtccjdefhieilpaaWGuard
import Derived.Test.YtccjdefhieilpaaWNEv
import Derived.Test.YtccjdefhieilpaaWMore
import Derived.Lib.SlBytesConst
import Derived.Test.YtccjdefhieilpaaSpec
import Derived.Test.YtccjdefhieilpaaBits
namespace Go.Proofs.Ytccjdefhieilpaa
open Go.RowKit Go.Proofs.YtccjdefhieilpaaW.PrintWords Go.Proofs.YtccjdefhieilpaaW.PrintLast Go.Proofs.YtccjdefhieilpaaW.PrintMore
set_option linter.unusedVariables false

theorem byte_info : (Try.prog.info? 5).map (fun i => (i.zero, i.size, i.bytes)) = some (some (.int .u8 0), 1, 1) := by kernel_rfl

/-- A row of bytes that was just laid reads as its list. -/
theorem lit_C (w : World) (xs : List Int) (e : TypeId) (fr : Nat × Nat) (h : xs.length ≤ 9223372036854775807) : Kd.C (Kd.int .u8) (w.alloc (.cells (nums .u8 xs).toArray e fr)) (some ⟨w.heap.size, 0, none⟩) xs.length xs := by
  refine Kd.C_of_reads (d := 0) (h1 := fun _ => rfl) ⟨rfl, h, fun _ => ⟨_, rfl, fun j hj => ?_⟩⟩
  rw [add_plain]
  have hh := heap_alloc_new w (.cells (nums .u8 xs).toArray e fr)
  unfold World.cell?
  simp only [hh]
  simp [nums, List.getElem?_eq_getElem hj, List.getD_eq_getElem?_getD]

theorem ret3 {a a' b b' z : Int} (h1 : a = a') (h2 : b = b') : Ending.returned (.tuple #[.int .u64 a, .int .i64 b, .int .i64 z]) = Ending.returned (.tuple #[.int .u64 a', .int .i64 b', .int .i64 z]) := by rw [h1, h2]

end Go.Proofs.Ytccjdefhieilpaa
