/-
 What the law VaultPlays needs of VRefV (what it does not use is left out by a program of this session, wip/tools/dce.py).
-/
import Derived.Test.YtccjdefhieilpaaRVRefD
import Derived.Test.YtccjdefhieilpaaRPGx5
import Derived.Test.YtccjdefhieilpaaRLogRefB
namespace Go.Proofs.Ytccjdefhieilpaa.VT
open Go.RowKit Go.Proofs.YtccjdefhieilpaaW.PrintWords Go.Proofs.Ytccjdefhieilpaa.PB Go.Proofs.Ytccjdefhieilpaa.PL Go.Proofs.Ytccjdefhieilpaa.PG Go.Proofs.Ytccjdefhieilpaa.Pure
set_option linter.unusedVariables false
theorem rsync_eq {d : D} {v : V} {arm : Int} {i : Nat} (h : ArmR d.fuse arm i) (hi : i ≤ 1000) (hs : d.b.length ≤ 1048576) (hws : d.ws.length ≤ 1000000) (hf : ∀ x ∈ d.ws, 0 ≤ x.f0 ∧ x.f0.toNat + x.f1.length ≤ d.b.length) (hv : v.dead = false) (k : Nat) (hk : 1000001 ≤ k) :
  ∃ arm', horariumref48_Sync.f k (strOfNums d.b) (wS d.ws) d.dead arm v.l v.en v.dead = some (strOfNums (flushD d).1.b, wS (flushD d).1.ws, (flushD d).1.dead, arm', (doneV v (flushD d).2).l, (doneV v (flushD d).2).en, (doneV v (flushD d).2).dead, (flushD d).2) ∧ ArmR (flushD d).1.fuse arm' (i + 1) := by
 obtain ⟨arm', hp, ha⟩ := rflush_eq h hi hs hws hf k hk
 refine ⟨arm', ?_, ha⟩
 unfold horariumref48_Sync.f
 rw [hp, Option.bind_some]
 show some (_, _, _, _, _, _, ((flushD d).2 != 0), _) = some (_, _, _, _, _, _, (v.dead || ((flushD d).2 != 0)), _)
 rw [hv, Bool.false_or]
 rfl
end Go.Proofs.Ytccjdefhieilpaa.VT
