/-
  What the law VaultDevice needs of VAct (what it does not use is left out by a program of this session, wip/tools/dce.py).
-/
import Derived.Test.YtccjdefhieilpaaQPLx0
namespace Go.Proofs.Ytccjdefhieilpaa.VT
open Go.RowKit Go.Proofs.YtccjdefhieilpaaW.PrintWords Go.Proofs.YtccjdefhieilpaaW.PrintLast Go.Proofs.YtccjdefhieilpaaW.PrintMore Go.Proofs.Ytccjdefhieilpaa.PL
set_option linter.unusedVariables false
structure S70 where
  k : Int
  n : Int
  e : S68
def z70 : S70 := ⟨0, 0, z68⟩
structure S92 where
  k : Int
  a : Int
  n : Int
  b : List Int
def z92 : S92 := ⟨0, 0, 0, []⟩
def k92 : Kd S92 := Kd.iso (Kd.pair (Kd.int .i64) (Kd.pair (Kd.int .i64) (Kd.pair (Kd.int .i64) (Kd.slice 5 (Kd.int .u8))))) (fun x : S92 => (x.k, (x.a, (x.n, x.b))))
theorem k92_open {w : World} {x : S92} {cs : List Value} (h : k92.K w x cs) : ∃ A c, cs = [.int .i64 x.k, .int .i64 x.a, .int .i64 x.n, .slice A x.b.length c] ∧ x.b.length ≤ c ∧ (Kd.int .u8).C w A x.b.length x.b := by
  obtain ⟨_, _, rfl, rfl, _, _, rfl, rfl, _, _, rfl, rfl, A, c, rfl, hl, hC⟩ := h
  exact ⟨A, c, rfl, hl, hC⟩
theorem k92_mk {w : World} (x : S92) {A : Option Addr} {c : Nat} (hl : x.b.length ≤ c) (hC : (Kd.int .u8).C w A x.b.length x.b) : k92.K w x [.int .i64 x.k, .int .i64 x.a, .int .i64 x.n, .slice A x.b.length c] :=
  ⟨[.int .i64 x.k], [.int .i64 x.a, .int .i64 x.n, .slice A x.b.length c], rfl, rfl, [.int .i64 x.a], [.int .i64 x.n, .slice A x.b.length c], rfl, rfl, [.int .i64 x.n], [.slice A x.b.length c], rfl, rfl, A, c, rfl, hl, hC⟩
theorem heap92 : Kd.Heap k92 := Kd.heap_iso _ (Kd.heap_pair (Kd.heap_int _) (Kd.heap_pair (Kd.heap_int _) (Kd.heap_pair (Kd.heap_int _) (Kd.heap_slice 5 (Kd.heap_int _)))))
theorem cell_add {w : World} {ad : Addr} {m j : Nat} {v : Value} (h : w.cell? (ad.add (m + j)) = some v) (hj : 0 < j) : w.cell? ⟨(ad.add m).block, (ad.add m).off + j, none⟩ = some v := by rw [← add_field _ _ j hj]; exact h
def rd92 (xs : List S92) (i : Nat) : S92 := xs.getD i z92
theorem k92_openF {W : World} {ok : Nat → Prop} {x : S92} {cs : List Value} (h : Kd.FK k92 W ok x cs) : ∃ A1 c1, cs = [.int .i64 x.k, .int .i64 x.a, .int .i64 x.n, .slice A1 x.b.length c1] ∧ x.b.length ≤ c1 ∧ Kd.F (Kd.int .u8) W ok A1 x.b.length x.b := by
  obtain ⟨A1, c1, rfl, l1, _⟩ := k92_open (Kd.FK_now h)
  exact ⟨A1, c1, rfl, l1, (fun W' hW => by obtain ⟨A1_, c1_, he, l1_, g1_⟩ := k92_open (h W' hW); injection (Option.some.inj (show some (Value.slice A1 x.b.length c1) = some (Value.slice A1_ x.b.length c1_) from congrArg (fun l => l[3]?) he)) with ha_ _ _; rw [ha_]; exact g1_)⟩
theorem at_92F {w : World} {ok : Nat → Prop} {A : Option Addr} {xs : List S92} (h : Kd.F k92 w ok A xs.length xs) (i : Nat) (hi : i < xs.length) : ∃ ad B c, A = some ad ∧ w.cell? (ad.add (i * 4)) = some (.int .i64 (rd92 xs i).k) ∧ w.cell? ⟨(ad.add (i * 4)).block, (ad.add (i * 4)).off + 1, none⟩ = some (.int .i64 (rd92 xs i).a) ∧
    w.cell? ⟨(ad.add (i * 4)).block, (ad.add (i * 4)).off + 2, none⟩ = some (.int .i64 (rd92 xs i).n) ∧ w.cell? ⟨(ad.add (i * 4)).block, (ad.add (i * 4)).off + 3, none⟩ = some (.slice B (rd92 xs i).b.length c) ∧ (rd92 xs i).b.length ≤ c ∧ Kd.F (Kd.int .u8) w ok B (rd92 xs i).b.length (rd92 xs i).b := by
  obtain ⟨ad, cs, e, _, hK, hc, _⟩ := Kd.F_get h z92 (i : Int) (by omega) (by omega)
  rw [Int.toNat_natCast] at hK hc
  have hc' : ∀ j u, cs[j]? = some u → w.cell? (ad.add (i * 4 + j)) = some u := hc
  obtain ⟨B, c, rfl, hl, hF⟩ := k92_openF hK
  exact ⟨ad, B, c, e, hc' 0 _ rfl, cell_add (hc' 1 _ rfl) (by omega), cell_add (hc' 2 _ rfl) (by omega), cell_add (hc' 3 _ rfl) (by omega), hl, hF⟩
theorem rd92_mem (xs : List S92) (i : Nat) (h : i < xs.length) : rd92 xs i ∈ xs := by
  unfold rd92
  rw [List.getD_eq_getElem?_getD, List.getElem?_eq_getElem h]
  exact List.getElem_mem h
end Go.Proofs.Ytccjdefhieilpaa.VT
