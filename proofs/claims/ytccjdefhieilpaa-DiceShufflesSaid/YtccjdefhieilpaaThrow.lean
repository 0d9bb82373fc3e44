/-
  Written by hand: the closure of dice.Shuffle (function 118): a throw, and the box goes on.
-/
import Derived.Test.YtccjdefhieilpaaPDx0
import Derived.Test.YtccjdefhieilpaaPDx1
import Derived.Test.YtccjdefhieilpaaPDx2
import Derived.Test.YtccjdefhieilpaaPBx1
import Derived.Test.YtccjdefhieilpaaPBx2
namespace Go.Proofs.Ytccjdefhieilpaa.PD
open Go.RowKit Go.Proofs.YtccjdefhieilpaaW.PrintWords Go.Proofs.YtccjdefhieilpaaW.PrintLast Go.Proofs.YtccjdefhieilpaaW.PrintMore Go.Proofs.Ytccjdefhieilpaa.PB
set_option linter.unusedVariables false
set_option linter.unusedSimpArgs false
attribute [local go_sem high] eqA24
theorem func118 : Try.prog.funcs[118]? = some Try.f118 := by kernel_rfl
theorem ntmps118 : Try.f118.ntmps = 14 := by kernel_rfl
set_option maxHeartbeats 8000000 in
set_option maxRecDepth 100000 in
theorem dice_throw.calls (g : Nat) (s n k s' : Int) (w : World) (hbx : w.heap[g]? = some (.cells #[.int .u64 s] 24 (0, 0))) (h : dice_Below.f s n = some (k, s')) :
    Calls Try.prog 118 #[.int .i64 n, .pointer (some ⟨g, 0, none⟩)] w fun e w' => e = .returned (.int .i64 k) ∧ w'.heap[g]? = some (.cells #[.int .u64 s'] 24 (0, 0)) ∧ Below g w w' ∧ KeepBut w w' g none := by
  have hu24 := Try.underlying24
  have BK := Aside0.mk hbx
  have hcz0 : w.cell? ⟨g, 0, none⟩ = some (.int .u64 s) := (blk_cell hbx 0).trans rfl
  have hfz0 := blk_frozen hbx 0
  go_enter func118, ntmps118
  go_wp2_with fail
  refine (dice_Below.calls s n k s' _ h).mono ?_
  rintro e w1 ⟨rfl, hb⟩
  have BK1 := Aside0.mk (blk_below BK.out hb)
  have HB1 := Aside0.mk hb
  clear hcz0 hfz0 hb BK
  go_wp2_with ((with_reducible refine gate_dst (N := 5) rfl ?_); refine box_event ?hg (N := 5) ?hd (cs := #[.int .u64 0]) (t := 24) ?hr ?_; (case hd => rfl); (case hg => rfl); (case hr => first | (go_simp; done) | (go_simp; rfl)); intro gb hg w2 hbox hb2; have BK2 := Aside0.mk (blk_below BK1.out hb2); have HB2 := Aside0.mk (below_step HB1.out hb2); have NE := Aside0.mk (show g ≠ gb by rw [hg]; exact Nat.ne_of_lt (blk_lt BK1.out)); have GE := Aside0.mk (show w.heap.size ≤ gb by rw [hg]; exact HB1.out.size); have BX := Aside0.mk hbox; have hne1 := NE.out; have hne2 := NE.out.symm; have hczb : w2.cell? ⟨gb, 0, none⟩ = some (.int .u64 0) := (blk_cell hbox 0).trans rfl; have hfzb := blk_frozen hbox 0; have hczg : w2.cell? ⟨g, 0, none⟩ = some (.int .u64 s) := (blk_cell BK2.out 0).trans rfl; have hfzg := blk_frozen BK2.out 0; clear hb2 hbox hg)
  go_ret
  have hlt := blk_lt hbx
  have hge := GE.out
  refine ⟨rfl, blk_put (cs := #[.int .u64 s]) (blk_far BK2.out NE.out _) 0 _ rfl, ?_, (keep_far (KeepBut.of_below HB2.out g none) GE.out _).set_ 0 _⟩
  have h0 : Below g w w2 := ⟨HB2.out.os, HB2.out.tape, HB2.out.output, HB2.out.size, fun j hj => HB2.out.block j (by omega)⟩
  exact (h0.setCell (by show g ≤ gb; omega) _).setCell (Nat.le_refl g) _
end Go.Proofs.Ytccjdefhieilpaa.PD
