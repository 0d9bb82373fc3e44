/-
  What the law VaultDevice needs of TakeSlim (what it does not use is left out by a program of this session, wip/tools/dce.py).
-/
import Derived.Test.YtccjdefhieilpaaQPutSlim
namespace Go.Proofs.Ytccjdefhieilpaa.Pure
open Go.RowKit Go.Proofs.Ytccjdefhieilpaa.PB Go.Proofs.YtccjdefhieilpaaW.PrintWords Go.Proofs.YtccjdefhieilpaaW.PrintLast Go.Proofs.YtccjdefhieilpaaW.PrintMore
theorem all_bytes {b : List Int} (h : Bytes b) : b.all (fun x => decide (0 ≤ x ∧ x < 256)) = true :=
  List.all_eq_true.2 fun x hx => decide_eq_true (h x hx)
theorem take_eq (k : Nat) (b : List Int) (a : Int) (h : Bytes b) : octet_Take.f k b a = some (Spec.take b a) := by
  unfold octet_Take.f
  rw [if_pos (all_bytes h)]
end Go.Proofs.Ytccjdefhieilpaa.Pure
