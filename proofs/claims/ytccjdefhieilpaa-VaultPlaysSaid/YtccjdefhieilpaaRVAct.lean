/-
 What the law VaultPlays needs of VAct (what it does not use is left out by a program of this session, wip/tools/dce.py).
-/
import Derived.Test.YtccjdefhieilpaaRPLx0
namespace Go.Proofs.Ytccjdefhieilpaa.VT
open Go.RowKit Go.Proofs.YtccjdefhieilpaaW.PrintWords Go.Proofs.YtccjdefhieilpaaW.PrintLast Go.Proofs.YtccjdefhieilpaaW.PrintMore Go.Proofs.Ytccjdefhieilpaa.PL
set_option linter.unusedVariables false
structure S70 where
 k : Int
 n : Int
 e : S68
def z70 : S70 := ⟨0, 0, z68⟩
def k70 : Kd S70 := Kd.iso (Kd.pair (Kd.int .i64) (Kd.pair (Kd.int .i64) k68)) (fun x : S70 => (x.k, (x.n, x.e)))
theorem k70_open {w : World} {x : S70} {cs : List Value} (h : k70.K w x cs) : ∃ A c, cs = [.int .i64 x.k, .int .i64 x.n, .int .i64 x.e.f0, .slice A x.e.f1.length c] ∧ x.e.f1.length ≤ c ∧ (Kd.int .u8).C w A x.e.f1.length x.e.f1 := by
 obtain ⟨_, _, rfl, rfl, _, _, rfl, rfl, h2⟩ := h
 obtain ⟨A, c, rfl, hl, hC⟩ := k68_open h2
 exact ⟨A, c, rfl, hl, hC⟩
theorem k70_mk {w : World} (x : S70) {A : Option Addr} {c : Nat} (hl : x.e.f1.length ≤ c) (hC : (Kd.int .u8).C w A x.e.f1.length x.e.f1) : k70.K w x [.int .i64 x.k, .int .i64 x.n, .int .i64 x.e.f0, .slice A x.e.f1.length c] :=
 ⟨[.int .i64 x.k], [.int .i64 x.n, .int .i64 x.e.f0, .slice A x.e.f1.length c], rfl, rfl, [.int .i64 x.n], [.int .i64 x.e.f0, .slice A x.e.f1.length c], rfl, rfl, k68_mk w x.e hl hC⟩
structure S92 where
 k : Int
 a : Int
 n : Int
 b : List Int
def z92 : S92 := ⟨0, 0, 0, []⟩
theorem heap70 : Kd.Heap k70 := Kd.heap_iso _ (Kd.heap_pair (Kd.heap_int _) (Kd.heap_pair (Kd.heap_int _) (Kd.heap_iso _ (Kd.heap_pair (Kd.heap_int _) (Kd.heap_slice 5 (Kd.heap_int _))))))
theorem cell_add {w : World} {ad : Addr} {m j : Nat} {v : Value} (h : w.cell? (ad.add (m + j)) = some v) (hj : 0 < j) : w.cell? ⟨(ad.add m).block, (ad.add m).off + j, none⟩ = some v := by rw [← add_field _ _ j hj]; exact h
def rd70 (xs : List S70) (i : Nat) : S70 := xs.getD i z70
theorem k70_openF {W : World} {ok : Nat → Prop} {x : S70} {cs : List Value} (h : Kd.FK k70 W ok x cs) : ∃ A1 c1, cs = [.int .i64 x.k, .int .i64 x.n, .int .i64 x.e.f0, .slice A1 x.e.f1.length c1] ∧ x.e.f1.length ≤ c1 ∧ Kd.F (Kd.int .u8) W ok A1 x.e.f1.length x.e.f1 := by
 obtain ⟨A1, c1, rfl, l1, _⟩ := k70_open (Kd.FK_now h)
 exact ⟨A1, c1, rfl, l1, (fun W' hW => by obtain ⟨A1_, c1_, he, l1_, g1_⟩ := k70_open (h W' hW); injection (Option.some.inj (show some (Value.slice A1 x.e.f1.length c1) = some (Value.slice A1_ x.e.f1.length c1_) from congrArg (fun l => l[3]?) he)) with ha_ _ _; rw [ha_]; exact g1_)⟩
theorem at_70F {w : World} {ok : Nat → Prop} {A : Option Addr} {xs : List S70} (h : Kd.F k70 w ok A xs.length xs) (i : Nat) (hi : i < xs.length) : ∃ ad B c, A = some ad ∧ w.cell? (ad.add (i * 4)) = some (.int .i64 (rd70 xs i).k) ∧ w.cell? ⟨(ad.add (i * 4)).block, (ad.add (i * 4)).off + 1, none⟩ = some (.int .i64 (rd70 xs i).n) ∧
  w.cell? ⟨(ad.add (i * 4)).block, (ad.add (i * 4)).off + 2, none⟩ = some (.int .i64 (rd70 xs i).e.f0) ∧ w.cell? ⟨(ad.add (i * 4)).block, (ad.add (i * 4)).off + 3, none⟩ = some (.slice B (rd70 xs i).e.f1.length c) ∧ (rd70 xs i).e.f1.length ≤ c ∧ Kd.F (Kd.int .u8) w ok B (rd70 xs i).e.f1.length (rd70 xs i).e.f1 := by
 obtain ⟨ad, cs, e, _, hK, hc, _⟩ := Kd.F_get h z70 (i : Int) (by omega) (by omega)
 rw [Int.toNat_natCast] at hK hc
 have hc' : ∀ j u, cs[j]? = some u → w.cell? (ad.add (i * 4 + j)) = some u := hc
 obtain ⟨B, c, rfl, hl, hF⟩ := k70_openF hK
 exact ⟨ad, B, c, e, hc' 0 _ rfl, cell_add (hc' 1 _ rfl) (by omega), cell_add (hc' 2 _ rfl) (by omega), cell_add (hc' 3 _ rfl) (by omega), hl, hF⟩
theorem rd70_mem (xs : List S70) (i : Nat) (h : i < xs.length) : rd70 xs i ∈ xs := by
 unfold rd70
 rw [List.getD_eq_getElem?_getD, List.getElem?_eq_getElem h]
 exact List.getElem_mem h
end Go.Proofs.Ytccjdefhieilpaa.VT
