/-
 What the law VaultPlays needs of LogBase (what it does not use is left out by a program of this session, wip/tools/dce.py).
-/
import Derived.Test.YtccjdefhieilpaaRPLx0
import Derived.Laws.CopyOwn
namespace Go.Proofs.Ytccjdefhieilpaa.PL
open Go.RowKit Go.Proofs.YtccjdefhieilpaaW.PrintWords Go.Proofs.YtccjdefhieilpaaW.PrintLast Go.Proofs.YtccjdefhieilpaaW.PrintMore
set_option linter.unusedVariables false
theorem print_take3_of {α : Type} {P : Program} (enc : α → Value) (d : α) (t e : TypeId) (kl : IntKind) {i : TypeInfo} (ht : P.underlying t = some (.slice e)) (hi : P.info? e = some i) (hsz : i.size = 1) (A : Option Addr) (c : Nat) (xs : List α) (j : Int) (h0 : 0 ≤ j) (hm : j ≤ xs.length) (hc : xs.length ≤ c) :
  (∀ W : World, (Instr.slice t (.slice A xs.length c) none (some (.int kl j)) (some (.int kl j))).run P W = .ok (.slice A (xs.take j.toNat).length j.toNat) W) ∧
   (∀ w : World, ReadsOf enc d w A xs.length xs → ReadsOf enc d w A (xs.take j.toNat).length (xs.take j.toNat)) ∧ (xs.take j.toNat).length ≤ j.toNat := by
 have hl : (xs.take j.toNat).length = j.toNat := by rw [List.length_take]; omega
 refine ⟨fun W => ?_, fun w h => by rw [hl]; exact h.take_ j.toNat (by omega), by rw [hl]; omega⟩
 have hel : P.elem t = e := by simp [Program.elem, ht]
 have hu : P.underlying t = some (.slice (P.elem t)) := by rw [hel]; exact ht
 have ha : (A.map fun x => x.add 0) = A := by cases A <;> simp [Addr.add]
 rw [run_slice_hm W t A xs.length c hu kl kl j j h0 (by omega) (by omega), hel, hl]
 simp [sizeOf, typeInfo, hi, hsz, sliced, Result.andThen, ha]
theorem info5size : (Try.prog.info? 5).map (·.size) = some 1 := by
 have h := info5
 cases hq : Try.prog.info? 5 with
 | none => rw [hq] at h; simp at h
 | some i =>
  rw [hq] at h
  simp only [Option.map_some, Option.some.injEq, Prod.mk.injEq] at h
  simp [h.2.1]
section
variable {ops : Array Oper} {rest : List Oper} {o : Oper} {a : Act} {Q : Exit → Act → World → Prop}
theorem make_event {W : World} (hgd : o.guard = none) (x : Operand) (ho : o.op = .makeSlice 44 x x) (m : Nat) (hm : m ≤ 1048576) (hx : a.eval x = .int .i64 (m : Int))
  (h : ∀ g, g = W.heap.size → ∀ w1, w1.heap[g]? = some (.cells (madeCells #[.int .u8 0] m) 5 (0, 0)) → Below W.heap.size W w1 → wpList Try.prog ops Q rest (a.put o.dst (.slice (some ⟨g, 0, none⟩) m m)) w1) :
  wpList Try.prog ops Q (o :: rest) a W := by
 have hrun := print_make_of (P := Try.prog) 44 5 (.int .u8 0) 1 Try.underlying44 info5 rfl (by decide) m (by omega) W
 refine Kd.event_run hgd (v := .slice (some ⟨W.heap.size, 0, none⟩) m m) ?_ (h _ rfl _ (blk_new W _) (below_alloc (Below.refl _ _) _))
 unfold execOp
 simp [ho, hx, hrun, Result.andThen]
theorem copy_event {w0 W : World} (hgd : o.guard = none) (d s : Operand) (ho : o.op = .call { callee := .builtin .copy, args := #[d, s], argTypes := #[44, 44] }) (gm m : Nat) (A : Option Addr) (c : Nat) (xs : List Int)
  (hd : a.eval d = .slice (some ⟨gm, 0, none⟩) m m) (hs : a.eval s = .slice A xs.length c) (hm : m ≤ xs.length) (hmx : m ≤ 1048576) (hmk : W.heap[gm]? = some (.cells (madeCells #[.int .u8 0] m) 5 (0, 0)))
  (hC : Kd.C (Kd.int .u8) W A xs.length xs) (hb : Below w0.heap.size w0 W) (hg : w0.heap.size ≤ gm)
  (h : ∀ w1, (∀ j, j < gm → w1.heap[j]? = W.heap[j]?) → Kd.R (Kd.int .u8) 5 w1 w0.heap.size (fun _ => True) (.slice (some ⟨gm, 0, none⟩) m m) (xs.take m) → Below w0.heap.size w0 w1 → wpList Try.prog ops Q rest (a.put o.dst (goInt m)) w1) :
  wpList Try.prog ops Q (o :: rest) a W := by
 have hlt : (xs.take m).length = m := by rw [List.length_take]; omega
 have hcl : ((xs.take m).map (Value.int .u8)).length = m := by rw [List.length_map, hlt]
 have hcur : (madeCells #[Value.int .u8 0] m).toList.length = m := by rw [Array.length_toList, size_madeCells]
 refine wpList_copy_splice hgd d s 44 44 ho 5 Try.underlying44 info5size (some ⟨gm, 0, none⟩) A m m xs.length c hd hs gm 0 (madeCells #[.int .u8 0] m).toList 5 (by simpa using hmk) ((xs.take m).map (Value.int .u8)) (by rw [hcl]; show m = Nat.min xs.length m; exact (Nat.min_eq_right hm).symm) ?_ (by rw [hcl, hcur]; omega) ?_ gm W (Below.refl _ _) (Nat.le_refl _) ?_
 ·intro hpos
  have hm0 : 0 < m := by rw [hcl] at hpos; exact hpos
  obtain ⟨ad, he, _⟩ := Kd.at_int hC 0 (by omega) (by omega)
  refine ⟨rfl, ad, he, fun j v hj => ?_⟩
  have hjl : j < m := by
   have := (List.getElem?_eq_some_iff.1 hj).1
   rwa [hcl] at this
  obtain ⟨ad', he', hc'⟩ := Kd.at_int hC (j : Int) (by omega) (by omega)
  obtain rfl : ad' = ad := by rw [he] at he'; injection he' with he'; exact he'.symm
  rw [Int.toNat_natCast] at hc'
  rw [hc', ← hj, List.getElem?_map, List.getElem?_take_of_lt hjl, List.getElem?_eq_getElem (by omega)]
  simp [rd, List.getD_eq_getElem?_getD, List.getElem?_eq_getElem (show j < xs.length by omega)]
 ·intro v hv
  obtain ⟨x, _, rfl⟩ := List.mem_map.1 hv
  rfl
 ·intro w1 hh hbl
  rw [hcl]
  have hsp : splice (madeCells #[Value.int .u8 0] m).toList 0 ((xs.take m).map (Value.int .u8)) = (xs.take m).map (Value.int .u8) := by
   unfold splice
   rw [List.take_zero, List.nil_append, hcl, Nat.zero_add, List.drop_eq_nil_of_le (by omega), List.append_nil]
  have hh' : w1.heap[gm]? = some (.cells ((xs.take m).map (Value.int .u8)).toArray 5 (0, 0)) := by
   have := hh
   unfold Hid at this
   rwa [hsp] at this
  refine h w1 (fun j hj => hbl.block j hj) (Kd.R_of_own ⟨by simp [encs, Nat.min_eq_left hm], .inr ⟨gm, m, ((xs.take m).map (Value.int .u8)).toArray, by rw [hlt], hg, hh', by omega, by unfold maxLen; omega, by rw [List.size_toArray, hcl, Nat.mul_one], ?_⟩⟩ (fun _ _ => trivial)) ?_
  ·rw [Nat.mul_one, hlt, List.take_of_length_le (by simp only [hcl, Nat.le_refl])]
   rfl
  ·exact ⟨hbl.os.trans hb.os, hbl.tape.trans hb.tape, hbl.output.trans hb.output, Nat.le_trans hb.size hbl.size, fun j hj => (hbl.block j (by omega)).trans (hb.block j hj)⟩
end
end Go.Proofs.Ytccjdefhieilpaa.PL
