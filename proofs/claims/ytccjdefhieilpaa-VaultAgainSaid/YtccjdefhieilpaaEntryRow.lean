/-
  Written by hand: entries handed in, one by value and a row of them: what stands in their cells.
-/
import Derived.Test.YtccjdefhieilpaaPLx0
import Derived.Lib.SmallJoins
import Derived.ChangeSlices
import Derived.Deep.SlicePairs
import Derived.SizedLaws
namespace Go.Proofs.Ytccjdefhieilpaa
open Go.Joins Go.ChangeShapes Go.WideShapes Go.RowKit Go.Deep Go.WideElems Go.ChangeAt Go.Proofs.YtccjdefhieilpaaW.PrintWords Go.Proofs.Ytccjdefhieilpaa.PL
set_option linter.unusedVariables false
set_option maxRecDepth 100000 in
theorem cells68 : Try.prog.cellsOf 68 = 2 := by kernel_rfl
set_option maxRecDepth 100000 in
theorem cells3e : Try.prog.cellsOf 3 = 1 := by kernel_rfl
set_option maxRecDepth 100000 in
theorem cells44e : Try.prog.cellsOf 44 = 1 := by kernel_rfl
instance : Inhabited S68 := ⟨z68⟩
section
variable {H : Type} {enc : TypeId × Value → H} {W : World}
set_option maxRecDepth 100000 in
theorem open_bytes {n : Nat} {v : Value} {y : DataW H × List MemPlace} (h : DataW.trod enc Try.prog W 0 (fun _ => true) true n 44 [v] = some y) :
    ∃ (A : Option Addr) (c : Nat) (l : List Int), v = .slice A l.length c ∧ (Kd.int .u8).C W A l.length l ∧ l.length ≤ c ∧ l.length ≤ maxLen ∧ ∀ x ∈ l, (Lit.int .u8 x).wf = true := by
  rcases open_ints Try.underlying44 Try.underlying5 (by kernel_rfl) h with ⟨hcs, _⟩ | ⟨x, l, c, zs, hcs, _, hl, hm, hz, _, hcell, hwz⟩
  · simp only [List.cons.injEq, and_true] at hcs
    subst hcs
    exact ⟨none, 0, [], rfl, Kd.C_nil _ _, Nat.le_refl _, Nat.zero_le _, fun x hx => by cases hx⟩
  · simp only [List.cons.injEq, and_true] at hcs
    subst hcs
    obtain ⟨l', rfl, hr, hm', hw', hc'⟩ := ReadsInt.ofRowC (k := .u8) (w := W) (a := some x) (len := l) (cap := c) (zs := zs) (.inr ⟨_, rfl, hl, hm, by simpa using hz, hcell, hwz⟩)
    exact ⟨some x, c, l', rfl, Kd.C_of_reads (d := (0 : Int)) (h1 := fun _ => rfl) hr, hc', hm', hw'⟩
set_option maxRecDepth 100000 in
theorem open_entry {r : Reach} {b0 : Nat} {v : Value} {d : DataW H} {p : List MemPlace} (hv : Value.okWide Try.prog W r b0 68 v) (h : DataW.Trod enc Try.prog W 0 (fun _ => true) true 68 v d p) :
    ∃ (a : Int) (A : Option Addr) (c : Nat) (l : List Int), v = .agg #[.int .i64 a, .slice A l.length c] ∧ (Lit.int .i64 a).wf = true ∧ (Kd.int .u8).C W A l.length l ∧ l.length ≤ c ∧ l.length ≤ maxLen ∧ ∀ x ∈ l, (Lit.int .u8 x).wf = true := by
  obtain ⟨v0, v1, y0, y1, n, rfl, _, _, h0, h1⟩ := open_agg2 Try.underlying68 (by kernel_rfl) cells68 hv h
  obtain ⟨a, hm, _, hw⟩ := DataW.trod_int Try.underlying3 h0
  simp only [List.cons.injEq, and_true] at hm
  subst hm
  obtain ⟨A, c, l, rfl, hC, hl, hml, hwl⟩ := open_bytes h1
  exact ⟨a, A, c, l, rfl, hw, hC, hl, hml, hwl⟩
set_option maxRecDepth 100000 in
theorem open_entries {n : Nat} {v : Value} {y : DataW H × List MemPlace} (h : DataW.trod enc Try.prog W 0 (fun _ => true) true n 66 [v] = some y) :
    ∃ (A : Option Addr) (c : Nat) (l : List S68), v = .slice A l.length c ∧ k68.C W A l.length l ∧ l.length ≤ c ∧ l.length ≤ maxLen ∧ ∀ x ∈ l, (Lit.int .i64 x.f0).wf = true ∧ ∀ z ∈ x.f1, (Lit.int .u8 z).wf = true := by
  rcases open_slice_pairs Try.underlying66 Try.underlying68 cells68 rfl rfl cells3e cells44e h with ⟨hcs, _⟩ | ⟨a, len, cap, m, n', V0, V1, D0, D1, P0, P1, hcs, _, hl, hcm, hmm, _, hx⟩
  · simp only [List.cons.injEq, and_true] at hcs
    subst hcs
    exact ⟨none, 0, [], rfl, Kd.C_nil _ _, Nat.le_refl _, Nat.zero_le _, fun x hx => by cases hx⟩
  · simp only [List.cons.injEq, and_true] at hcs
    subst hcs
    have hlm : len ≤ m := by rw [hmm, if_pos rfl]; exact hl
    have each : ∀ i, i < len → ∃ q : S68 × Option Addr × Nat, V0 i = .int .i64 q.1.f0 ∧ V1 i = .slice q.2.1 q.1.f1.length q.2.2 ∧ q.1.f1.length ≤ q.2.2 ∧ (Kd.int .u8).C W q.2.1 q.1.f1.length q.1.f1 ∧ (Lit.int .i64 q.1.f0).wf = true ∧ ∀ z ∈ q.1.f1, (Lit.int .u8 z).wf = true := by
      intro i hi
      obtain ⟨c0, c1, h0, h1⟩ := hx i (by omega)
      obtain ⟨x0, e0, _, w0⟩ := DataW.trod_int Try.underlying3 h0
      simp only [List.cons.injEq, and_true] at e0
      obtain ⟨A, c, l, e1, hC, hlc, hml, hwl⟩ := open_bytes h1
      exact ⟨(⟨x0, l⟩, A, c), e0, e1, hlc, hC, w0, hwl⟩
    obtain ⟨q, hq⟩ := choose_lt each
    have hlen : ((List.range len).map (fun i => (q i).1)).length = len := by rw [List.length_map, List.length_range]
    have hbig : maxLen ≤ 9223372036854775807 := by unfold maxLen; decide
    refine ⟨some a, cap, (List.range len).map (fun i => (q i).1), by rw [hlen], ?_, by rw [hlen]; exact hl, by rw [hlen]; exact Nat.le_trans hl hcm, ?_⟩
    · refine ⟨rfl, by rw [hlen]; exact Nat.le_trans (Nat.le_trans hl hcm) hbig, fun _ => ⟨a, rfl, fun j p hj => ?_⟩⟩
      have hjl : j < len := by
        have := (List.getElem?_eq_some_iff.1 hj).1
        rwa [hlen] at this
      obtain rfl : (q j).1 = p := by
        rw [List.getElem?_map, List.getElem?_range hjl] at hj
        exact Option.some.inj hj
      obtain ⟨e0, e1, hlc, hC, _, _⟩ := hq j hjl
      obtain ⟨c0, c1, _, _⟩ := hx j (by omega)
      refine ⟨[.int .i64 (q j).1.f0, .slice (q j).2.1 (q j).1.f1.length (q j).2.2], rfl, k68_mk W (q j).1 hlc hC, fun i u hu => ?_⟩
      rw [e0] at c0
      rw [e1] at c1
      match i, hu with
      | 0, hu =>
        obtain rfl := Option.some.inj hu
        exact c0
      | 1, hu =>
        obtain rfl := Option.some.inj hu
        exact c1
    · intro x hx'
      obtain ⟨i, hi, rfl⟩ := List.mem_map.1 hx'
      obtain ⟨_, _, _, _, w0, w1⟩ := hq i (List.mem_range.1 hi)
      exact ⟨w0, w1⟩
set_option maxRecDepth 100000 in
theorem open_slot {r : Reach} {b0 n : Nat} {t e : TypeId} {v : Value} {y : DataW H × List MemPlace} (hu : Try.prog.underlying t = some (.slice e)) (hv : Value.okWide Try.prog W r b0 t v)
    (h : DataW.trod enc Try.prog W 0 (fun _ => true) true n t v.cells.toList = some y) : DataW.trod enc Try.prog W 0 (fun _ => true) true n t [v] = some y := by
  obtain ⟨a, l, c, rfl⟩ := okWide_slice hu hv
  simpa [Value.cells] using h
set_option maxRecDepth 100000 in
theorem open_bytesT {r : Reach} {b0 : Nat} {v : Value} {d : DataW H} {p : List MemPlace} (hv : Value.okWide Try.prog W r b0 44 v) (h : DataW.Trod enc Try.prog W 0 (fun _ => true) true 44 v d p) :
    ∃ (A : Option Addr) (c : Nat) (l : List Int), v = .slice A l.length c ∧ (Kd.int .u8).C W A l.length l ∧ l.length ≤ c ∧ l.length ≤ maxLen ∧ ∀ x ∈ l, (Lit.int .u8 x).wf = true := by
  obtain ⟨m, hm⟩ := h
  exact open_bytes (open_slot Try.underlying44 hv hm)
set_option maxRecDepth 100000 in
theorem open_entriesT {r : Reach} {b0 : Nat} {v : Value} {d : DataW H} {p : List MemPlace} (hv : Value.okWide Try.prog W r b0 66 v) (h : DataW.Trod enc Try.prog W 0 (fun _ => true) true 66 v d p) :
    ∃ (A : Option Addr) (c : Nat) (l : List S68), v = .slice A l.length c ∧ k68.C W A l.length l ∧ l.length ≤ c ∧ l.length ≤ maxLen ∧ ∀ x ∈ l, (Lit.int .i64 x.f0).wf = true ∧ ∀ z ∈ x.f1, (Lit.int .u8 z).wf = true := by
  obtain ⟨m, hm⟩ := h
  exact open_entries (open_slot Try.underlying66 hv hm)
set_option maxRecDepth 100000 in
theorem bytes5 : Try.prog.bytesOf 5 = 1 := by kernel_rfl
set_option maxRecDepth 100000 in
theorem open_bytes_sized {n : Nat} {v : Value} {y : DataW H × List MemPlace} (h : DataW.trod enc Try.prog W 0 (fun _ => true) true n 44 [v] = some y) (hw : ∀ m ∈ y.1.weights Try.prog 44, m ≤ reachBytes) :
    ∃ (A : Option Addr) (c : Nat) (l : List Int), v = .slice A l.length c ∧ (Kd.int .u8).C W A l.length l ∧ l.length ≤ c ∧ l.length ≤ 140737488351232 ∧ ∀ x ∈ l, (Lit.int .u8 x).wf = true := by
  obtain ⟨A, c, l, rfl, hC, hlc, hlm, hwl⟩ := open_bytes h
  refine ⟨A, c, l, rfl, hC, hlc, ?_, hwl⟩
  rcases open_ints Try.underlying44 Try.underlying5 (by kernel_rfl) h with ⟨hcs, _⟩ | ⟨x, l', c', zs, hcs, _, hl, _, hz, hx, _, _⟩
  · simp only [List.cons.injEq, Value.slice.injEq, and_true] at hcs
    omega
  · simp only [List.cons.injEq, Value.slice.injEq, and_true] at hcs
    obtain ⟨_, hl', _⟩ := hcs
    subst hx
    have hl2 : l' ≤ zs.length := by
      rw [hz]
      split
      · exact hl
      · exact Nat.le_refl _
    have z := hw (((lits (H := H) .u8 (zs.take l')).length + (lits (H := H) .u8 (zs.drop l')).length) * Try.prog.bytesOf 5) (by simp [DataW.weights, Try.underlying44])
    have h1 : (lits (H := H) .u8 (zs.take l')).length + (lits (H := H) .u8 (zs.drop l')).length = zs.length := by
      simp [lits]
      omega
    rw [h1, bytes5, Nat.mul_one] at z
    have z' : zs.length ≤ 140737488351232 := z
    omega
set_option maxRecDepth 100000 in
theorem open_entry_sized {r : Reach} {b0 : Nat} {v : Value} {d : DataW H} {p : List MemPlace} {ts : List TypeId} {ds : List (DataW H)} {j : Nat} (hv : Value.okWide Try.prog W r b0 68 v) (h : DataW.Trod enc Try.prog W 0 (fun _ => true) true 68 v d p)
    (hsz : (DataW.weightsEach Try.prog ts ds).all (· ≤ reachBytes) = true) (ht : ts[j]? = some 68) (hd : ds[j]? = some d) :
    ∃ (a : Int) (A : Option Addr) (c : Nat) (l : List Int), v = .agg #[.int .i64 a, .slice A l.length c] ∧ (Lit.int .i64 a).wf = true ∧ (Kd.int .u8).C W A l.length l ∧ l.length ≤ c ∧ l.length ≤ 140737488351232 ∧ ∀ x ∈ l, (Lit.int .u8 x).wf = true := by
  obtain ⟨v0, v1, y0, y1, n, rfl, rfl, _, h0, h1⟩ := open_agg2 Try.underlying68 (by kernel_rfl) cells68 hv h
  obtain ⟨a, hm, _, hw⟩ := DataW.trod_int Try.underlying3 h0
  simp only [List.cons.injEq, and_true] at hm
  subst hm
  obtain ⟨A, c, l, rfl, hC, hl, hml, hwl⟩ := open_bytes_sized h1 fun m hm => by
    have := List.all_eq_true.1 hsz m (DataW.weights_mem_each ht hd m (by simp [DataW.weights, Try.underlying68, DataW.weightsEach]; exact .inr hm))
    simpa using this
  exact ⟨a, A, c, l, rfl, hw, hC, hl, hml, hwl⟩
end
end Go.Proofs.Ytccjdefhieilpaa
