/-
 What the law VaultPlays needs of DeedRow (what it does not use is left out by a program of this session, wip/tools/dce.py).
-/
import Derived.Test.YtccjdefhieilpaaRVAct
import Derived.Test.YtccjdefhieilpaaREntryRow
import Derived.Test.YtccjdefhieilpaaRSumSlim
namespace Go.Proofs.Ytccjdefhieilpaa
open Go.Joins Go.ChangeShapes Go.WideShapes Go.RowKit Go.Deep Go.WideElems Go.ChangeAt Go.Proofs.YtccjdefhieilpaaW.PrintWords Go.Proofs.Ytccjdefhieilpaa.PL Go.Proofs.Ytccjdefhieilpaa.VT
set_option linter.unusedVariables false
set_option maxRecDepth 100000 in
theorem cells70 : Try.prog.cellsOf 70 = 4 := by kernel_rfl
theorem i64_le {n : Int} (h : (Lit.int .i64 n).wf = true) : n ≤ 9223372036854775807 := by
 simp [Lit.wf, IntKind.min, IntKind.max, IntKind.signed, IntKind.bits] at h
 omega
instance : Inhabited S70 := ⟨z70⟩
instance : Inhabited S92 := ⟨z92⟩
section
variable {H : Type} {enc : TypeId × Value → H} {W : World}
set_option maxRecDepth 100000 in
theorem deed_cells {n : Nat} {cs : List Value} {y : DataW H × List MemPlace} (h : DataW.trod enc Try.prog W 0 (fun _ => true) true n 70 cs = some y) :
  ∃ (x : S70) (A : Option Addr) (c : Nat), cs = [.int .i64 x.k, .int .i64 x.n, .int .i64 x.e.f0, .slice A x.e.f1.length c] ∧ x.e.f1.length ≤ c ∧ (Kd.int .u8).C W A x.e.f1.length x.e.f1 ∧ (Lit.int .i64 x.n).wf = true ∧ ∀ z ∈ x.e.f1, (Lit.int .u8 z).wf = true := by
 obtain ⟨xs, m, _, _, hl, hxl, hf⟩ := DataW.trod_struct Try.underlying70 h
 rw [cells70] at hl
 match cs, hl with
 | [v0, v1, v2, v3], _ =>
  match xs, hxl with
  | [y0, y1, y2], _ =>
   have g0 := hf 0 _ rfl
   have g1 := hf 1 _ rfl
   have g2 := hf 2 _ rfl
   simp [cells3e, cells68] at g0 g1 g2
   obtain ⟨a0, e0, _, _⟩ := DataW.trod_int Try.underlying3 g0
   obtain ⟨a1, e1, _, wn⟩ := DataW.trod_int Try.underlying3 g1
   obtain ⟨zs, m2, _, _, _, hzl, hg⟩ := DataW.trod_struct Try.underlying68 g2
   match zs, hzl with
   | [w0, w1], _ =>
    have k0 := hg 0 _ rfl
    have k1 := hg 1 _ rfl
    simp [cells3e, cells44e] at k0 k1
    obtain ⟨a2, e2, _, _⟩ := DataW.trod_int Try.underlying3 k0
    obtain ⟨A, c, l, e3, hC, hlc, _, hwl⟩ := open_bytes k1
    simp only [List.cons.injEq, and_true] at e0 e1 e2
    subst e0 e1 e2 e3
    exact ⟨⟨a0, a1, ⟨a2, l⟩⟩, A, c, rfl, hlc, hC, wn, hwl⟩
theorem open_rows {α : Type} [Inhabited α] (d : Kd α) {t e : TypeId} (hs : d.sz = 4) (hu : Try.prog.underlying t = some (.slice e)) (hce : Try.prog.cellsOf e = 4) (Pr : α → Prop)
  (hcells : ∀ (n : Nat) (cs : List Value) (y : DataW H × List MemPlace), DataW.trod enc Try.prog W 0 (fun _ => true) true n e cs = some y → ∃ x : α, d.K W x cs ∧ Pr x)
  {n : Nat} {v : Value} {y : DataW H × List MemPlace} (h : DataW.trod enc Try.prog W 0 (fun _ => true) true n t [v] = some y) :
  ∃ (A : Option Addr) (c : Nat) (l : List α), v = .slice A l.length c ∧ d.C W A l.length l ∧ l.length ≤ c ∧ l.length ≤ maxLen ∧ ∀ x ∈ l, Pr x := by
 rcases open_slice hu h with ⟨hcs, _⟩ | ⟨a, len, cap, m, n', D0, P0, hcs, _, hl, hcm, hmm, _, hx⟩
 ·simp only [List.cons.injEq, and_true] at hcs
  subst hcs
  exact ⟨none, 0, [], rfl, Kd.C_nil _ _, Nat.le_refl _, Nat.zero_le _, fun x hx => by cases hx⟩
 ·simp only [List.cons.injEq, and_true] at hcs
  subst hcs
  have hlm : len ≤ m := by rw [hmm, if_pos rfl]; exact hl
  have each : ∀ i, i < len → ∃ x : α, Pr x ∧ ∃ cs : List Value, cs.length = 4 ∧ d.K W x cs ∧ ∀ j u, cs[j]? = some u → W.cell? (a.add (i * 4 + j)) = some u := by
   intro i hi
   obtain ⟨cs', h1, h2⟩ := hx i (by omega)
   rw [hce] at h1
   obtain ⟨_, hlen, hcell⟩ := World.cells?_some h1
   obtain ⟨x, hk, hp⟩ := hcells _ _ _ h2
   refine ⟨x, hp, cs', hlen, hk, fun j u hu => ?_⟩
   have hj : j < 4 := by
    have := (List.getElem?_eq_some_iff.1 hu).1
    omega
   have e := hcell j hj
   rw [Deep.add_add] at e
   rw [e]
   exact hu
  obtain ⟨q, hq⟩ := choose_lt each
  have hlen : ((List.range len).map q).length = len := by rw [List.length_map, List.length_range]
  have hbig : maxLen ≤ 9223372036854775807 := by unfold maxLen; decide
  refine ⟨some a, cap, (List.range len).map q, by rw [hlen], ?_, by rw [hlen]; exact hl, by rw [hlen]; exact Nat.le_trans hl hcm, ?_⟩
  ·refine ⟨rfl, by rw [hlen]; exact Nat.le_trans (Nat.le_trans hl hcm) hbig, fun _ => ⟨a, rfl, fun j p hj => ?_⟩⟩
   have hjl : j < len := by
    have := (List.getElem?_eq_some_iff.1 hj).1
    rwa [hlen] at this
   obtain rfl : q j = p := by
    rw [List.getElem?_map, List.getElem?_range hjl] at hj
    exact Option.some.inj hj
   obtain ⟨_, cs, hcl, hk, hc⟩ := hq j hjl
   exact ⟨cs, by rw [hs]; exact hcl, hk, fun i u hu => by rw [hs]; exact hc i u hu⟩
  ·intro x hx'
   obtain ⟨i, hi, rfl⟩ := List.mem_map.1 hx'
   exact (hq i (List.mem_range.1 hi)).1
set_option maxRecDepth 100000 in
theorem open_deedsT {r : Reach} {b0 : Nat} {v : Value} {d : DataW H} {p : List MemPlace} (hv : Value.okWide Try.prog W r b0 60 v) (h : DataW.Trod enc Try.prog W 0 (fun _ => true) true 60 v d p) :
  ∃ (A : Option Addr) (c : Nat) (l : List S70), v = .slice A l.length c ∧ k70.C W A l.length l ∧ l.length ≤ c ∧ l.length ≤ maxLen ∧ ∀ x ∈ l, Pure.Bytes x.e.f1 ∧ x.n ≤ 9223372036854775807 := by
 obtain ⟨m, hm⟩ := h
 exact open_rows k70 rfl Try.underlying60 cells70 (fun x => Pure.Bytes x.e.f1 ∧ x.n ≤ 9223372036854775807) (fun n cs y h => by
  obtain ⟨x, A, c, rfl, hl, hC, hn, hw⟩ := deed_cells h
  exact ⟨x, k70_mk x hl hC, Pure.bytes_of_wf hw, i64_le hn⟩) (open_slot Try.underlying60 hv hm)
end
end Go.Proofs.Ytccjdefhieilpaa
