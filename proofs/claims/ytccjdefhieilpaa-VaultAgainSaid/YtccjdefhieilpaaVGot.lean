/-
  Written by hand: a row of entries of one's own, whose numbers and bytes are written over; a device and vault that nothing stopped.
-/
import Derived.Test.YtccjdefhieilpaaVInv
namespace Go.Proofs.Ytccjdefhieilpaa.VT
open Go.RowKit Go.Proofs.YtccjdefhieilpaaW.PrintWords Go.Proofs.Ytccjdefhieilpaa.PB Go.Proofs.Ytccjdefhieilpaa.PL Go.Proofs.Ytccjdefhieilpaa.PG Go.Proofs.Ytccjdefhieilpaa.Pure
set_option linter.unusedVariables false
/-- The bytes at B. -/
def ByteCells (nb : Nat) (w : World) (ad : Addr) (B : Option Addr) (n : Nat) : Prop := ∀ q, q < n → ∃ bd, B = some bd ∧ nb ≤ bd.block ∧ bd.block ≠ ad.block ∧ (∃ z, w.cell? (bd.add q) = some (.int .u8 z)) ∧ w.frozen? (bd.add q) = false
/-- What may be written: a row's cells, and their bytes: in blocks from nb on. -/
structure GotOk (nb : Nat) (w : World) (ad : Addr) (m : Nat) : Prop where
  ge : nb ≤ ad.block
  num : ∀ j, j < m → (∃ z, w.cell? (ad.add (j * 2)) = some (.int .i64 z)) ∧ w.frozen? (ad.add (j * 2)) = false
  data : ∀ j, j < m → ∃ B n c, w.cell? ⟨(ad.add (j * 2)).block, (ad.add (j * 2)).off + 1, none⟩ = some (.slice B n c) ∧ n ≤ 1048576 ∧ ByteCells nb w ad B n
theorem add_off (a : Addr) (i : Nat) : (a.add i).off = a.off + i := by unfold Addr.add; split <;> simp_all
section
variable {nb m : Nat} {w : World} {ad p : Addr}
theorem GotOk.put8 (h : GotOk nb w ad m) (hp : p.block ≠ ad.block) {z0 : Int} (h0 : w.cell? p = some (.int .u8 z0)) (z : Int) : GotOk nb (w.setCell p (.int .u8 z)) ad m := by
  have far : ∀ a : Addr, a.block = ad.block → (w.setCell p (.int .u8 z)).cell? a = w.cell? a := fun a ha => World.cell?_setCell_other w p a _ (fun e => hp (by rw [e]; exact ha))
  refine ⟨h.ge, fun j hj => ?_, fun j hj => ?_⟩
  · rw [far _ (add_block _ _), World.frozen?_setCell]
    exact h.num j hj
  · obtain ⟨B, n, c, h1, h2, h3⟩ := h.data j hj
    refine ⟨B, n, c, (far ⟨(ad.add (j * 2)).block, (ad.add (j * 2)).off + 1, none⟩ (add_block ad (j * 2))).trans h1, h2, fun q hq => ?_⟩
    obtain ⟨bd, e, h4, h5, ⟨y, h6⟩, h7⟩ := h3 q hq
    refine ⟨bd, e, h4, h5, ?_, by rw [World.frozen?_setCell]; exact h7⟩
    by_cases e2 : p = bd.add q
    · subst e2
      exact ⟨z, World.cell?_setCell_same _ _ _ h6⟩
    · exact ⟨y, (World.cell?_setCell_other w p _ _ e2).trans h6⟩
theorem GotOk.put64 (h : GotOk nb w ad m) (i : Nat) (hi : i < m) (z : Int) : GotOk nb (w.setCell (ad.add (i * 2)) (.int .i64 z)) ad m := by
  obtain ⟨z0, h0⟩ := (h.num i hi).1
  refine ⟨h.ge, fun j hj => ?_, fun j hj => ?_⟩
  · rw [World.frozen?_setCell]
    refine ⟨?_, (h.num j hj).2⟩
    by_cases e : ad.add (i * 2) = ad.add (j * 2)
    · rw [← e]
      exact ⟨z, World.cell?_setCell_same _ _ _ h0⟩
    · obtain ⟨y, h1⟩ := (h.num j hj).1
      exact ⟨y, (World.cell?_setCell_other w _ _ _ e).trans h1⟩
  · obtain ⟨B, n, c, h1, h2, h3⟩ := h.data j hj
    refine ⟨B, n, c, (World.cell?_setCell_other w _ _ _ (fun e => ?_)).trans h1, h2, fun q hq => ?_⟩
    · have e2 := congrArg Addr.off e
      simp only [add_off] at e2
      omega
    · obtain ⟨bd, e, h4, h5, ⟨y, h6⟩, h7⟩ := h3 q hq
      exact ⟨bd, e, h4, h5, ⟨y, (World.cell?_setCell_other w _ _ _ (fun e2 => h5 (by have e3 := congrArg Addr.block e2; rw [add_block, add_block] at e3; exact e3.symm))).trans h6⟩, by rw [World.frozen?_setCell]; exact h7⟩
end
theorem got_of_S {nb m c : Nat} {w : World} {ok : Nat → Prop} {A : Option Addr} {T : List S68} (h : Kd.S k68 68 w nb ok (.slice A m c) T) (hsm : ∀ x ∈ T, x.f1.length ≤ 1048576) (hp : 0 < T.length) : ∃ ad, A = some ad ∧ GotOk nb w ad T.length := by
  have hR := Kd.S_R h
  obtain ⟨g, cap, he, hg, _, cells, hcell⟩ := Kd.R_form hR hp
  injection he with hA hm hc
  subst hA hm hc
  refine ⟨⟨g, 0, none⟩, rfl, hg, fun j hj => ?_, fun j hj => ?_⟩
  · obtain ⟨c, hcl, hM, hcc, hfr⟩ := Kd.R_elem hR z68 (j : Int) (by omega) (by omega)
    obtain ⟨v1, rfl, hv⟩ := k68_openM hM
    rw [add_at, Nat.zero_add]
    exact ⟨⟨_, hcc 0 _ rfl⟩, hfr 0⟩
  · obtain ⟨c, hcl, hM, hcc, hfr⟩ := Kd.R_elem hR z68 (j : Int) (by omega) (by omega)
    obtain ⟨v1, rfl, hv⟩ := k68_openM hM
    obtain ⟨B, cb, rfl⟩ := Kd.R_slice hv
    rw [add_at, Nat.zero_add]
    refine ⟨B, _, cb, hcc 1 _ rfl, hsm _ (T68_mem T j hj), fun q hq => ?_⟩
    obtain ⟨g1, cap1, he1, hg1, _, cells1, hcell1⟩ := Kd.R_form hv (by omega)
    injection he1 with hB _ _
    subst hB
    refine ⟨⟨g1, 0, none⟩, rfl, hg1, blk_ne hcell1 hcell (by decide), ?_⟩
    obtain ⟨c1, hc1l, hM1, hcc1, hfr1⟩ := Kd.R_elem hv 0 (q : Int) (by omega) (by omega)
    have hM1 : c1 = [.int .u8 _] := hM1
    subst hM1
    rw [add_at, Nat.zero_add]
    have h1 := hcc1 0 _ rfl
    have h2 := hfr1 0
    rw [Int.toNat_natCast, Nat.add_zero, show q * (Kd.int .u8).sz = q from Nat.mul_one q] at h1 h2
    exact ⟨⟨_, h1⟩, h2⟩
/-- Nothing stops an append where nothing is armed. -/
theorem live_append {d : D} {v : V} {s t : List S68} (h : Inv d v s t) (hd : d.dead = false) (hf : d.fuse = 0) (hv : v.dead = false) (e : S68) : (appendV d v e).1.dead = false ∧ (appendV d v e).1.fuse = 0 ∧ (appendV d v e).2.1.dead = false := by
  unfold appendV
  rw [if_neg (by rw [hv]; decide)]
  by_cases c1 : Spec.rightE (p68 e)
  · rw [if_pos c1]
    by_cases c2 : wrap64 ((d.b.length : Int) - v.en) < ((Spec.frameL (p68 e)).length : Int) + 1
    · rw [if_pos c2]
      exact ⟨hd, hf, hv⟩
    · rw [if_neg c2]
      have hsm := h.small
      have hroom := h.room
      have hw : wrap64 ((d.b.length : Int) - v.en) = (d.b.length : Int) - v.en := by rw [h.ve]; unfold wrap64; omega
      rw [hw, h.ve] at c2
      have hE : writeD d v.en (Spec.frameL (p68 e) ++ [0]) = (⟨d.b, d.ws ++ [⟨v.en, Spec.frameL (p68 e) ++ [0]⟩], false, 0⟩, 0) := writeD_ok hd hf (by omega) (by rw [h.ve]; omega) (by rw [h.ve, List.length_append, List.length_singleton]; omega)
      rw [hE]
      exact ⟨rfl, rfl, rfl⟩
  · rw [if_neg c1]
    exact ⟨hd, hf, hv⟩
/-- What is read when a vault is opened anew. -/
theorem Inv.seen {d : D} {v : V} {s t : List S68} (h : Inv d v s t) : readS (layAll d.b d.ws) = s ++ t ∧ readN (layAll d.b d.ws) = (framesS (s ++ t)).length ∧ Bytes (layAll d.b d.ws) := by
  have hl := (lay_writes t s d.b h.base h.room).1
  rw [← h.waits] at hl
  have hr := rights_append h.rs h.rt
  have hd := datas_append h.ds h.dt
  have h2 := begins_read hl hr hd
  exact ⟨h2.1, h2.2, begins_bytes hl hr hd⟩
end Go.Proofs.Ytccjdefhieilpaa.VT
